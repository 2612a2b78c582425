/- Contracts of functions of the program and of the document: part 4. -/
import Derived.Test.YthpmfghgoabnhaaGreatM3
import Derived.Test.YthpmfghgoabnhaaGreatM2
set_option linter.all false
open Bool renaming and_eq_true → bXb, and_false → bYp, and_true → bY6, eq_iff_iff → bZr, false_and → bX6, false_eq_true → bXc, not_eq_true → bYf, not_eq_true' → bYh, or_true → bXg, true_and → bX0, true_or → bXi
open Int renaming eq_ofNat_of_zero_le → bYr, natCast_nonneg → bZ4, toNat_natCast → bXx, toNat_of_nonneg → bZo
open List renaming all_cons → bXe, all_eq_true → bXo, any_eq_true → bZm, append_nil → bYx, cons_append → bZg, ext_getElem → bZe, flatMap_nil → bZw, getD_eq_getElem?_getD → bXm, getElem?_append_left → cAc, getElem?_cons_succ → bXh, getElem?_cons_zero → bXf, getElem?_eq_getElem → bYs, getElem?_set → bZh, getElem_map → bZb, getElem_mem → bXn, getElem_range → bZx, length_append → bX8, length_cons → bXu, length_drop → bZi, length_map → bXj, length_nil → bYb, length_pos_iff → bZ9, length_set → bZu, length_singleton → bZz, length_take → bZc, map_append → bXw, map_congr_left → bYm, map_cons → bYa, map_nil → bXv, map_set → bYu, mem_append → bX1, mem_append_left → bYo, mem_append_right → bYl, mem_cons → bYe, mem_cons_of_mem → cAa, mem_filter → bY0, mem_flatMap → bYk, mem_map → bXy, mem_of_mem_take → bZt, mem_or_eq_of_mem_set → cAe, mem_range → bYz, mem_singleton → bYi, nil_append → bYw, pairwise_iff_getElem → cAf, range_succ → bY1, take_of_length_le → bXs
open Nat renaming add_zero → bY2, le_of_eq → bYn, le_refl → bXd, le_trans → bYd, lt_of_lt_of_le → bYg, zero_add → bX2, zero_le → bXl
open Option renaming getD_none → bZ7, getD_some → bX3, isSome_none → bZj, isSome_some → bZf, map_eq_some_iff → bXq
open Option.some renaming injEq → bXa
open Prod.mk renaming injEq → bXk
namespace Go.Proofs.YthpmfghgoabnhaaGreat
open Go.Abs Go.Proofs
def plc (keep:List Int)(x:Int):Int:=(keep.idxOf x:Nat)
def xQ (w:aB)(keep:List Int):Prop:= ∀t,(∃i:Nat,t=(i:Int)/\ i<w.objs.length/\ bF (w.obj i)=true)->t∈keep
theorem bDk {keep:List Int}{x y:Int}(hx:x∈keep)(hy:y∈keep)(h:plc keep x=plc keep y):x=y:=aU6 hx hy (by unfold plc at h;omega)
theorem aLd {keep:List Int}: ∀(l:List Int) {n:Int},(∀x∈l,x∈keep)->n∈keep->(l.map (plc keep)).idxOf (plc keep n)=l.idxOf n
 |[],_,_,_=>rfl
 |y::l,n,hl,hn=>by
  rw[bYa,List.idxOf_cons,List.idxOf_cons,aLd l (fun x hx=>hl x (by simp[hx])) hn]
  have e:(plc keep y==plc keep n)=(y==n):=by
   rw[bZr,beq_iff_eq,beq_iff_eq];exact⟨fun h=>bDk (hl y (by simp)) hn h,fun h=>by rw[h]⟩
  rw[e]
theorem aQp {keep l:List Int}{v:aG}(hl: ∀x∈l,x∈keep)(hr:jK v=true->v.n∈keep):dZ (l.map (plc keep)) (dZ keep v)=dZ l v:=by
 by_cases h:jK v=true
 ·have hk:jK (dZ keep v)=true:=h;have hn:(dZ keep v).n=plc keep v.n:=by unfold dZ plc;rw[if_pos h]
  unfold dZ at hn hk⊢;simp only[h,if_true]at hn hk⊢;rw[hk,if_pos rfl];have e:((keep.idxOf v.n:Nat):Int)=plc keep v.n:=rfl;rw[e,aLd l hl (hr h)]
 ·have e:dZ keep v=v:=by rw[dZ,if_neg h]
  rw[e,dZ,dZ,if_neg h,if_neg h]
theorem aAo {keep l:List Int}{vs:List aG}(hl: ∀x∈l,x∈keep)(hr: ∀x∈cP vs,x∈keep):dW (l.map (plc keep)) (dW keep vs)=dW l vs:=by
 unfold dW;rw[List.map_map];apply bYm;intro v hv;exact aQp hl fun h=>hr _ (nQ hv h)
theorem aQq {keep l:List Int}{o:aI}(hl: ∀x∈l,x∈keep)(hr: ∀x∈dG o,x∈keep):cA (l.map (plc keep)) (cA keep o)=cA l o:=by
 have hv: ∀x∈cP o.vals,x∈keep:=fun x hx=>hr x (bYo _ hx)
 unfold cA;simp only[List.map_map];rw[aAo hl hv]
 congr 1
 apply bYm;intro f hf;have hf': ∀x∈cX f,x∈keep:=fun x hx=>hr x (bYl _ (bYk.2 ⟨f,hf,hx⟩))
 show iZ (l.map (plc keep)) (iZ keep f)=iZ l f;unfold iZ
 simp only
 rw[aAo hl fun x hx=>hf' x (bYo _ hx),aAo hl fun x hx=>hf' x (bYl _ hx)]
theorem aOb {w:aB}{keep l:List Int}(hs:yV w keep)(ht: ∀t∈w.tasks,t∈keep)(hl: ∀x∈l,x∈keep):aU (aU w keep) (l.map (plc keep))=aU w l:=by
 have e1:((l.map (plc keep)).map fun n=>cA (l.map (plc keep)) ((aU w keep).obj n))=l.map fun n=>cA l (w.obj n):=by
  rw[List.map_map];apply bYm;intro n hn;show cA (l.map (plc keep)) ((aU w keep).obj (plc keep n))=_;have e2:(aU w keep).obj (plc keep n)=cA keep (w.obj n):=xN (hl n hn);rw[e2,aQq hl (hs.refs n (hl n hn))]
 have e3:(w.tasks.map (plc keep)).map (fun t=>((l.map (plc keep)).idxOf t:Int))=w.tasks.map fun t=>(l.idxOf t:Int):=by
  rw[List.map_map];apply bYm;intro t hm;show(((l.map (plc keep)).idxOf (plc keep t):Nat):Int)=_;rw[aLd l hl (ht t hm)]
 have e4:(aU w keep).tasks=w.tasks.map (plc keep):=rfl;unfold aU at e1 e4⊢
 simp only at e1 e4⊢
 rw[e1]
 congr 1
end Go.Proofs.YthpmfghgoabnhaaGreat
namespace Go.Proofs.YthpmfghgoabnhaaGreat
open Go.Abs Go.Proofs
def tS (n:Nat):List Int:=(List.range n).map fun(i:Nat)=>(i:Int)
theorem aJj (n:Nat):(tS n).Pairwise (· < ·):=by
 unfold tS;rw[List.pairwise_map];exact(List.pairwise_lt_range).imp fun{a b} (h:a<b)=>by omega
theorem aG5 (n:Nat):(tS n).length=n:=by simp[tS]
theorem aBy {n:Nat}{x:Int}:x∈tS n↔inR x 0 ((n:Int)-1)=true:=by
 simp only[tS,bXy,bYz,inR,cAg];constructor
 ·rintro⟨i,hi,rfl⟩;omega
 ·intro h;exact⟨x.toNat,by omega,by omega⟩
theorem aOc {n:Nat}{x:Int}(h:inR x 0 ((n:Int)-1)=true):(((tS n).idxOf x:Nat):Int)=x:=by
 simp only[inR,cAg]at h;have hl:x.toNat<(tS n).length:=by rw[aG5];omega
 have e:(tS n)[x.toNat]=x:=by simp only[tS,bZb,bZx];omega
 have:=aQl (aJj n) hl;rw[e]at this;omega
theorem aW6 {w:aB}(hin:kW w):yV w (tS w.objs.length):=
 ⟨aJj _,fun x hx=>aBy.1 hx,fun n hn x hx=>aBy.2 (hin _ (aBt (aBy.1 hn)) x hx),by rw[aG5];exact bXd _⟩
theorem aOd (w:aB):xQ w (tS w.objs.length):=by
 rintro t ⟨i,rfl,hi,_⟩
 exact aBy.2 (by simp only[inR,cAg];omega)
theorem aAp {n:Nat}{l:List aG}(h: ∀x∈cP l,inR x 0 ((n:Int)-1)=true):dW (tS n) l=l:=by
 unfold dW;rw[bYm (g:=id),List.map_id];intro v hv;unfold dZ
 by_cases hr:jK v=true
 ·rw[if_pos hr,aOc (h _ (nQ hv hr))];rfl
 ·rw[if_neg hr];rfl
theorem aQr {n:Nat}{o:aI}(h: ∀x∈dG o,inR x 0 ((n:Int)-1)=true):cA (tS n) o=o:=by
 unfold cA;rw[aAp fun x hx=>h x (bYo _ hx),bYm (g:=id),List.map_id]
 intro f hf;have hf': ∀x∈cX f,inR x 0 ((n:Int)-1)=true:=fun x hx=>h x (bYl _ (bYk.2 ⟨f,hf,hx⟩))
 unfold iZ;rw[aAp fun x hx=>hf' x (bYo _ hx),aAp fun x hx=>hf' x (bYl _ hx)];rfl
theorem aOe {w:aB}(hin:kW w)(ht:InR w w.tasks):aU w (tS w.objs.length)=w:=by
 have e1:((tS w.objs.length).map fun n=>cA (tS w.objs.length) (w.obj n))=w.objs:=by
  apply bZe
  ·simp[aG5]
  ·intro i h1 h2;simp only[bZb,tS,bZx];rw[dH h2];exact aQr (hin _ (bXn h2))
 have e2:(w.tasks.map fun t=>((tS w.objs.length).idxOf t:Int))=w.tasks:=by
  rw[bYm (g:=id),List.map_id];intro t hm;exact aOc (ht t hm)
 unfold aU;rw[e1,e2]
theorem aBz {p:aP}{w:aB}(h:eV p w=true):InR w w.tasks/\ ∀keep,xQ w keep-> ∀t∈w.tasks,t∈keep:=by
 obtain⟨a,b⟩:=sH h
 refine⟨fun t ht=>?_,fun keep hk t ht=>hk t (a t ht)⟩
 obtain⟨i,rfl,hi,_⟩:=a t ht;simp only[inR,cAg];omega
theorem bAp {m:List Int}{k:Nat}{x:Int}:x∈kP m k↔ ∃i:Nat,x=i/\ i<k/\ bQ m i=0:=by
 simp only[kP,bXy,bY0,bYz,cAg];constructor
 ·rintro⟨i,⟨h1,h2⟩,rfl⟩;exact⟨i,rfl,h1,h2⟩
 ·rintro⟨i,rfl,h1,h2⟩;exact⟨i,⟨h1,h2⟩,rfl⟩
structure bW8 (w:aB) (gone:List Int) (w':aB):Prop where
 shut:yV w (aQo gone w.objs.length)
 tasked:xQ w (aQo gone w.objs.length)
 rng:InR w gone
 free: ∀x∈gone,pE (bGg w) x=false
 once:gone.Nodup
 left:aU w (aQo gone w.objs.length)=w'
theorem aOf (s:aX)(k:Nat):(bI s k).cycle=if gJ s k=true then(s.cycle+1).tmod 4 else s.cycle:=by
 unfold bI gJ;split
 ·rename_i h;rw[decide_eq_true h];rfl
 ·rename_i h;rw[decide_eq_false h];rfl
theorem aG6 {p:aP}{s:aX}{k:Nat}(hp:p.few)(hs:s.few)(hsp:aT p=true)(hss:bO s=true)(hst:cE p s=true)(hk:inR k 1 200=true):
  PC L 41 [.agg [.fz (p.nodes.map aK.enc),.fz (p.funs.map (.int .i64)),.int .i64 p.main,.fz (p.cons.map bE.enc)],.agg [.fz (s.world.objs.map aI.enc),.fz (s.world.tasks.map (.int .i64)),.fz (s.world.outs.map aN.enc),.fz (s.world.ins.map (.int .i64)),.int .i64 s.world.used,.fz (s.ages.map (.int .i64)),.fz (s.marks.map (.int .i64)),.int .i64 s.cycle],.int .i64 k] (.tup [.agg [.fz ((bI s k).world.objs.map aI.enc),.fz ((bI s k).world.tasks.map (.int .i64)),.fz ((bI s k).world.outs.map aN.enc),.fz ((bI s k).world.ins.map (.int .i64)),.int .i64 (bI s k).world.used,.fz ((bI s k).ages.map (.int .i64)),.fz ((bI s k).marks.map (.int .i64)),.int .i64 (bI s k).cycle],.fz ((pF s k).map (.int .i64)),.bool (gJ s k),.int .i64 0]):=by
 have:=aIb p s k hp hs hsp hss;rw[if_pos ⟨hst,hk⟩,bXx]at this;exact this
theorem aB0 {p:aP}{s:aX}(hp:p.few)(hs:s.few)(hc:p.cons.length<=1000)(hss:bO s=true)(hst:cE p s=true):PC L 48 [.agg [.fz (p.nodes.map aK.enc),.fz (p.funs.map (.int .i64)),.int .i64 p.main,.fz (p.cons.map bE.enc)],.agg [.fz (s.world.objs.map aI.enc),.fz (s.world.tasks.map (.int .i64)),.fz (s.world.outs.map aN.enc),.fz (s.world.ins.map (.int .i64)),.int .i64 s.world.used,.fz (s.ages.map (.int .i64)),.fz (s.marks.map (.int .i64)),.int .i64 s.cycle]] (.bool true):=by
 have:=aOa p s hp hs hc;rw[hss,hst]at this;exact this
theorem vC {p:aP}{s:aX}{k:Nat}(hs:s.few)(hss:bO s=true)(hst:cE p s=true):(bI s k).few:=by
 obtain⟨hgv,hm,_,_,_,_⟩:=eB.1 hst;simp only[bO,bXb]at hss;exact aW4 hs hss.1.1 (eJ hgv) hm
end Go.Proofs.YthpmfghgoabnhaaGreat
namespace Go.Proofs.YthpmfghgoabnhaaGreat
open Go.Abs Go.Proofs
theorem aDa {w:aB}: ∀(k:Nat) {m:List Int},dX (cU w k m)<(cU w k m).length->eW (cU w k m)+k<=eW m
 |0,_,_=>bXd _
 |k+1,m,h=>by
  by_cases hg:dX m<m.length
  ·rw[cU,if_pos hg]at h⊢;have h1:=aDa k h;have h2:=zH (seen:=dG (w.obj (dX m))) hg ((lM m).2.2 hg);unfold eH at h1⊢;omega
  ·rw[aJg hg]at h;exact absurd h hg
theorem aG7 (m:List Int):eW m<=m.length:=by
 unfold eW;have: ∀l:List Nat,(l.map fun i=>if bQ m i=2 then 0 else 1).sum<=l.length:=by
  intro l
  induction l with
  |nil=>exact bXd _
  |cons a l ih=>
   simp only[bYa,List.sum_cons,bXu]
   split<;>omega
 simpa using this (List.range m.length)
def aJk (first:aB)(keep m:List Int):Prop:= ∀j,j<keep.length-> ¬bQ m j=0->mQ first (aGy keep j).toNat
theorem aLe {keep:List Int}{x:Int}(h:x∈keep):aGy keep (plc keep x).toNat=x:=by
 have hl:=lC h;unfold plc;rw[bXx,nP hl];exact aBx h
theorem aQs {first:aB}{keep m:List Int}(hs:yV first keep)(hl:m.length=keep.length)(ht:aJk first keep m){n:Nat}(hn:n<m.length)(h1:bQ m n=1):aJk first keep (eH (aU first keep) m n):=by
 intro j hj hne;have hjm:j<m.length:=by omega
 unfold eH at hne;rw[kI hjm]at hne;have hrn:=ht n (by omega) (by rw[h1];decide)
 split at hne
 ·rename_i h;rw[h];exact hrn
 ·split at hne
  ·rename_i h;have hm:=aBu.1 h.2;have hnk:n<keep.length:=by omega
   rw[uY hnk,aAm]at hm;obtain⟨y,hy,he⟩:=bXy.1 hm;have hyk:=hs.refs _ (bXn hnk) y hy;have hnum:=aLe hyk;have hj2:(plc keep y).toNat=j:=by unfold plc;omega
   rw[hj2]at hnum;rw[hnum];have hnn:=hs.rng _ (bXn hnk);simp only[inR,cAg]at hnn;rw[nP hnk]at hrn;exact .ref hrn (by rw[bZo hnn.1];exact hy)
  ·exact ht j hj hne
theorem aDb {first:aB}{keep:List Int}(hs:yV first keep): ∀(k:Nat) {m:List Int},m.length=keep.length->aJk first keep m->aJk first keep (cU (aU first keep) k m)
 |0,_,_,h=>h
 |k+1,m,hl,h=>by
  rw[cU];split
  ·rename_i hg;exact aDb hs k (by rw[eH,fL];exact hl) (aQs hs hl h hg ((lM m).2.2 hg))
  ·exact h
def aEi (keep l:List Int):List Int:=l.map fun j=>aGy keep j.toNat
theorem aG8 {keep l:List Int}(hl: ∀x∈l,inR x 0 ((keep.length:Int)-1)=true): ∀x∈aEi keep l,x∈keep:=by
 intro x hx;obtain⟨j,hj,rfl⟩:=bXy.1 hx;have:=hl j hj;simp only[inR,cAg]at this;rw[nP (by omega)];exact bXn _
theorem bAq {keep l:List Int}(hr:keep.Pairwise (· < ·))(hl: ∀x∈l,inR x 0 ((keep.length:Int)-1)=true):(aEi keep l).map (plc keep)=l:=by
 unfold aEi;rw[List.map_map]
 refine(bYm (g:=id) ?_).trans (List.map_id l)
 intro j hj;have:=hl j hj;simp only[inR,cAg]at this;have hjl:j.toNat<keep.length:=by omega
 show plc keep (aGy keep j.toNat)=j;unfold plc;rw[nP hjl,aQl hr hjl];omega
theorem aW7 {first:aB}{keep l:List Int}(hs:yV first keep)(hl:yV (aU first keep) l):yV first (aEi keep l):=by
 have hn:(aU first keep).objs.length=keep.length:=by simp[aU]
 have hlr: ∀x∈l,inR x 0 ((keep.length:Int)-1)=true:=by rw[<-hn];exact hl.rng
 have hm:=aG8 hlr
 refine⟨?_,fun x hx=>hs.rng x (hm x hx),fun n hn' x hx=>?_,?_⟩
 ·unfold aEi;rw[List.pairwise_map]
  refine hl.rise.imp_of_mem ?_
  intro a b ha hb hab;have h1:=hlr a ha;have h2:=hlr b hb;simp only[inR,cAg]at h1 h2;rw[nP (show a.toNat<keep.length by omega),nP (show b.toNat<keep.length by omega)]
  exact cAf.1 hs.rise _ _ _ _ (by omega)
 ·obtain⟨j,hj,rfl⟩:=bXy.1 hn';have h1:=hlr j hj;simp only[inR,cAg]at h1;have hjl:j.toNat<keep.length:=by omega
  rw[nP hjl]at hx;have hxk:=hs.refs _ (bXn hjl) x hx;have h3:=hl.refs j hj (plc keep x) (by
   have e:j=((j.toNat:Nat):Int):=by omega
   rw[e,uY hjl,aAm];exact bXy.2 ⟨x,hx,rfl⟩)
  exact bXy.2 ⟨plc keep x,h3,aLe hxk⟩
 ·have h1:=hl.len;have h2:=hs.len;simp only[aEi,bXj];omega
theorem aOg {first:aB}{keep l:List Int}(ht:xQ first keep)(hl:xQ (aU first keep) l):xQ first (aEi keep l):=by
 rintro t ⟨i,rfl,hi,hk⟩
 have hm:=ht i ⟨i,rfl,hi,hk⟩;have hlt:=lC hm;have h3:=hl (plc keep i) ⟨keep.idxOf (i:Int),rfl,by simpa[aU]using hlt,by rw[xN hm,qM];exact hk⟩
 exact bXy.2 ⟨plc keep i,h3,aLe hm⟩
structure bDl (p:aP) (first:aB) (c0:Int) (d e r:Nat) (s:aX):Prop where
 few:s.few
 small:bO s=true
 ok:cE p s=true
 cyc:s.cycle=(c0+e)%4
 time:r+eW s.marks<=121*e+120
 left: ∃keep,yV first keep/\ xQ first keep/\ s.world=aU first keep/\ (e=d->aJk first keep s.marks)/\ (d<e-> ∀x∈keep,mQ first x.toNat)
theorem tT {p:aP}{s:aX}(h:cE p s=true):s.marks.length<=120/\ s.marks.length=s.world.objs.length:=by
 obtain⟨hg,hm,_,_,_,_⟩:=eB.1 h;simp only[eV,gG,bXb,cAg]at hg;have:=hg.2.1.1.1.1.1.1;have:=hm.len;omega
theorem aQt {p:aP}{s:aX}{d:Nat}(hf:s.few)(hs:bO s=true)(h:cE p s=true)(hd:1<=d):bDl p s.world s.cycle d 0 0 s:=by
 obtain⟨hg,hm,_,hc,_,_⟩:=eB.1 h;have hb:=aG7 s.marks;have hl:=(tT h).1;simp only[inR,cAg]at hc
 refine⟨hf,hs,h,by omega,by omega,tS s.world.objs.length,aW6 (eJ hg),aOd _,(aOe (eJ hg) (aBz hg).1).symm,fun h=>by omega,fun h=>by omega⟩
theorem aW8 {p:aP}{first:aB}{c0:Int}{d e r k:Nat}{s:aX}(h:bDl p first c0 d e r s)(hg0:eV p first=true)(hk:1<=k)(hc0:inR c0 0 3=true)(hd:(c0+d)%4=3):
  bDl p first c0 d (if gJ s k=true then e+1 else e) (r+1) (bI s k):=by
 obtain⟨hf,hs,hok,hcy,htm,keep,k1,k2,k3,k4,k5⟩:=h;have hfy:=vC (k:=k) hf hs hok;have hsy:=sJ (most:=k) hok hs;have hty:=sI (most:=k) hok;obtain⟨hgv,hm,_,_,_,_⟩:=eB.1 hok;have hlm:=(tT hok).2;have hlk:s.marks.length=keep.length:=by rw[hlm,k3];simp[aU]
 have hcc:=aOf s k;have hby:=aG7 (bI s k).marks;have hly:=(tT hty).1;simp only[inR,cAg]at hc0;cases hE:gJ s k with
 |false=>
  have hfg:dX (cU s.world k s.marks)<(cU s.world k s.marks).length:=by
   unfold gJ at hE
   simpa using hE
  have hS:bI s k=⟨s.world,s.ages,cU s.world k s.marks,s.cycle⟩:=by rw[bI,if_pos hfg]
  rw[if_neg (by decide)]
  have hrb:=aDa k hfg
  refine⟨hfy,hsy,hty,by rw[hS];exact hcy,by rw[hS];show r+1+eW (cU s.world k s.marks)<=_;omega,keep,k1,k2,by rw[hS];exact k3,fun h=>?_,k5⟩
  rw[hS];show aJk first keep (cU s.world k s.marks)
  rw[k3];exact aDb k1 k hlk (k4 h)
 |true=>
  have hfg: ¬dX (cU s.world k s.marks)<(cU s.world k s.marks).length:=by
   unfold gJ at hE
   simpa using hE
  have hS:bI s k=lP s (cU s.world k s.marks):=by rw[bI,if_neg hfg]
  obtain⟨n1,n2⟩:=aC9 hok hfg;rw[if_pos rfl];rw[hE,if_pos rfl]at hcc;have hcn:(bI s k).cycle=(c0+((e+1:Nat):Int))%4:=by
   rw[hcc,hcy,Int.tmod_eq_emod_of_nonneg (by omega)];omega
  have hwk:(aU first keep).objs.length=keep.length:=by simp[aU]
  have hol:s.world.objs.length=keep.length:=by rw[k3];exact hwk
  have n1':yV (aU first keep) (dP (cU s.world k s.marks) s.world.objs.length):=by rw[<-k3];exact n1
  have n2':xQ (aU first keep) (dP (cU s.world k s.marks) s.world.objs.length):=by rw[<-k3];exact n2
  have hlr: ∀x∈dP (cU s.world k s.marks) s.world.objs.length,inR x 0 ((keep.length:Int)-1)=true:=by rw[<-hwk];exact n1'.rng
  obtain⟨_,ht2⟩:=aBz hg0;have b1:=aW7 k1 n1';have b2:=aOg k2 n2';have bw:(bI s k).world=aU first (aEi keep (dP (cU s.world k s.marks) s.world.objs.length)):=by
   rw[hS];show aU s.world _=_;rw[<-aOb k1 (ht2 _ k2) (aG8 hlr),bAq k1.rise hlr,<-k3]
  refine⟨hfy,hsy,hty,hcn,by omega,_,b1,b2,bw,fun h=>?_,fun h=>?_⟩
  ·have hc3:(bI s k).cycle=3:=by rw[hcn];omega
   intro j hj hne;have hjl:j<(bI s k).world.objs.length:=by rw[bw];simpa[aU]using hj
   have hmk:(bI s k).marks=gH lt2 (bI s k).world (bI s k).ages (bI s k).cycle:=by rw[hS];rfl
   rw[hmk,pG hjl,dI]at hne
   split at hne
   ·rename_i htk;rw[bw,uY hj,qM]at htk;have hjr:=b1.rng _ (bXn hj);simp only[inR,cAg]at hjr;rw[nP hj]
    refine .task (by omega) ?_
    rw[bZo hjr.1];exact htk
   ·rw[hc3]at hne
    simp at hne
  ·intro x hx
   by_cases he:e=d
   ·obtain⟨j,hj,rfl⟩:=bXy.1 hx;obtain⟨i,rfl,hi,hne⟩:=xL.1 hj;rw[bXx];have:=aDb k1 k hlk (k4 he);rw[<-k3]at this;exact this i (by omega) hne
   ·exact k5 (by omega) x (aG8 hlr x hx)
end Go.Proofs.YthpmfghgoabnhaaGreat
namespace Go.Proofs.YthpmfghgoabnhaaGreat
open Go.Abs Go.Proofs
theorem nR {s:aX}{w:aB}{i:Nat}(h:i<w.objs.length):bQ (pD s w) i=iF s w i:=by
 rw[tP (by simpa[pD]using h)];simp[pD]
theorem aB1 {p:aP}{s:aX}{w:aB}(h:cE p s=true)(hg:eV p w=true)(hf:fV s.world w=true):cE p (cK s w)=true:=by
 obtain⟨hgv,hm,hA,hc,hr,hw⟩:=eB.1 h;have hin:=eJ hgv;simp only[fV,bXb,cAg,sF,bXo,bYz]at hf;obtain⟨⟨⟨f1,f2⟩,f3⟩,f4⟩:=hf;have hml:=hm.len
 refine eB.2 ⟨hg,⟨by simp[cK,pD],fun i hi=>?_,fun i hi ht h0=>?_,fun i hi h2 x hx h0=>?_⟩,by simp[cK,zG],hc,fun i hi=>?_,fun i hi h0 h2=>?_⟩
 ·have hi:i<w.objs.length:=by simpa[cK,pD]using hi
  show bQ (pD s w) i=0 \/_;rw[show bQ (cK s w).marks i=iF s w i from nR hi,nR hi]
  unfold iF;split
  ·split
   ·exact .inr (.inl rfl)
   ·rename_i hl _;rw[gY];exact hm.range i hl
  ·exact .inr (.inl rfl)
 ·have hi:i<w.objs.length:=hi;have h0:iF s w i=0:=(nR hi).symm.trans h0;unfold iF at h0
  split at h0
  ·rename_i hl
   split at h0
   ·cases h0
   ·rw[gY]at h0
    refine hm.tasks i (by omega) ?_ h0
    have:=f4 i (by omega)
    unfold bF at ht⊢;rw[this];exact ht
  ·cases h0
 ·have hi:i<w.objs.length:=hi;have h2:iF s w i=2:=(nR hi).symm.trans h2;unfold iF at h2
  split at h2
  ·rename_i hl
   split at h2
   ·cases h2
   ·rename_i hgr;have he:s.world.obj i=w.obj i:=by
     simp only[qD,h2,decide_true,bX0,bYh,cAh,Decidable.not_not]at hgr;exact hgr
    rw[gY]at h2;have hx':x∈dG (s.world.obj i):=by rw[he];exact hx
    have hxi:=hin _ (aG4 (show i<s.world.objs.length by omega)) x hx'
    simp only[inR,cAg]at hxi;have hxl:x.toNat<s.marks.length:=by omega
    have h0:iF s w x.toNat=0:=(nR (by omega)).symm.trans h0
    unfold iF at h0;rw[if_pos hxl]at h0
    split at h0
    ·cases h0
    ·rw[gY]at h0;exact hm.black i (by omega) h2 x hx' h0
  ·cases h2
 ·have hi:i<w.objs.length:=hi;have e:oG (cK s w) i=aEs s i:=by
   rw[gQ (by simpa[cK,zG]using hi)];simp[cK,zG]
  rw[e];unfold aEs;split
  ·exact hr i (by omega)
  ·rfl
 ·have hi:i<w.objs.length:=hi;have e:oG (cK s w) i=aEs s i:=by
   rw[gQ (by simpa[cK,zG]using hi)];simp[cK,zG]
  rw[e]at h2;have h0:iF s w i=0:=(nR hi).symm.trans h0;unfold iF at h0;unfold aEs at h2
  split at h0
  ·rename_i hl;rw[if_pos hl]at h2
   split at h0
   ·cases h0
   ·rw[gY]at h0;exact hw i (by omega) h0 h2
  ·cases h0
theorem aB2 {s:aX}{w:aB}(h:aY w=true):bO (cK s w)=true:=by
 obtain⟨b1,_,_,_⟩:=iY h;simp only[bO,bXb,cAg]
 refine⟨⟨h,?_⟩,?_⟩
 ·simp only[cK,zG,bXj,List.length_range];omega
 ·simp only[cK,pD,bXj,List.length_range];omega
theorem aG9 {s:aX}{w:aB}(h:w.few):(cK s w).few:=⟨h,by simpa[cK,zG]using h.objs,by simpa[cK,pD]using h.objs⟩
end Go.Proofs.YthpmfghgoabnhaaGreat
namespace Go.Abs
structure aQu where
 task:Int
 act:Int
 n:Int
 v:aG
structure Did where
 w:aB
 what:Int
 e:aQu
def Did.enc (d:Did):Val:= .agg [.fz (d.w.objs.map aI.enc),.fz (d.w.tasks.map (.int .i64)),.fz (d.w.outs.map aN.enc),.fz (d.w.ins.map (.int .i64)),.int .i64 d.w.used,.int .i64 d.what,.int .i64 d.e.task,.int .i64 d.e.act,.int .i64 d.e.n,.int .i64 d.e.v.kind,.int .i64 d.e.v.n]
def nB :aG:=⟨0,0⟩
def lQ :aQu:=⟨0,0,0,nB⟩
def bAr :aI:=⟨0,0,[],[]⟩
def oJ :aC:=⟨0,[],[]⟩
def eK :aG:=⟨3,0⟩
def tU (n:Int):aG:=⟨1,n⟩
def rL (b:Bool):aG:=⟨2,if b=true then 1 else 0⟩
def nH (n:Int):aG:=⟨5,n⟩
def aEj (v:aG):aG:=if v.kind=4 \/v.kind=5 then nH 0 else v
def jA (w:aB)(a:Int):Int:=w.tasks.getD a.toNat 0
def gK (w:aB)(n:Int)(o:aI):aB:=⟨w.objs.set n.toNat o,w.tasks,w.outs,w.ins,w.used⟩
def iD (w:aB)(o:aI):aB:=⟨w.objs++[o],w.tasks,w.outs,w.ins,w.used⟩
def bJ (w:aB)(a st:Int):Did:=⟨gK w (jA w a) ⟨6,st,[],[]⟩,1,⟨a,0,st,nB⟩⟩
def bW (w:aB)(a:Int)(left:List aC)(v:aG):Did:=⟨gK w (jA w a) ⟨6,0,[v],left⟩,0,lQ⟩
def fH (w:aB)(a:Int)(left:List aC)(node:Int)(env:List aG):Did:=
 if 40<=left.length \/30<env.length then bJ w a 4 else⟨gK w (jA w a) ⟨6,0,[],left++[⟨node,env,[]⟩]⟩,0,lQ⟩
def gZ (w:aB)(a:Int)(left:List aC)(o:aI):Did:=if 120<=w.objs.length then bJ w a 4 else bW (iD w o) a left (nH w.objs.length)
def dK (d:Did)(a act n:Int)(v:aG):Did:=if d.what=1 then d else⟨d.w,1,⟨a,act,n,aEj v⟩⟩
def kJ (w:aB)(v:aG)(form:Int):Bool:=decide (v.kind=5)&&decide ((w.obj v.n).form=form)
def bGn (p:aP)(n:Int):Int:=p.funs.getD n.toNat 0
def vD (n:aK)(i:Int):Int:=n.kids.getD i.toNat 0
def oK (p:aP)(w:aB)(f v:aG):Option aC:=
 if f.kind=4 then some ⟨bGn p f.n,[v],[]⟩
 else if kJ w f 2=true then some ⟨vD (p.node (w.obj f.n).n) 0,(w.obj f.n).vals++[v],[]⟩else none
def eL (p:aP)(w:aB)(a:Int)(left:List aC)(f v:aG):Did:=
 if kJ w f 5=true then(if 40<(left++(w.obj f.n).frames).length then bJ w a 4 else bW w a (left++(w.obj f.n).frames) v)
 else match oK p w f v with
  |none=>bJ w a 2
  |some b=>fH w a left b.node b.env
def aHa (op x y:Int):Int:=if op=9 then x+y else if op=10 then x-y else if op=11 then x*y else 0
def cH (w:aB)(a:Int)(left:List aC)(op:Int)(u v:aG):Did:=
 if op=13 then(if¬u.kind=v.kind \/3<u.kind then bJ w a 2 else bW w a left (rL (decide (u=v))))
 else if¬u.kind=1 \/ ¬v.kind=1 then bJ w a 2
 else if op=12 then bW w a left (rL (decide (u.n<v.n)))
 else if inR (aHa op u.n v.n) (-1000000000) 1000000000=true then bW w a left (tU (aHa op u.n v.n))else bJ w a 4
mutual
def kA (w:aB):Pat->aG->Option (List aG)
 | .mk f n _ ps,v=>
  if f=1 then some []
  else if f=2 then some [v]
  else if f=3 then(if v=tU n then some []else none)
  else if f=4 then(if v=rL (decide (n=1))then some []else none)
  else if f=5 then(if v=eK then some []else none)
  else if kJ w v 1=true/\ (w.obj v.n).n=n/\ (w.obj v.n).vals.length=ps.length then fW w ps (w.obj v.n).vals else none
def fW (w:aB):List Pat->List aG->Option (List aG)
 |q::ps,v::vs=>match kA w q v with
  |none=>none
  |some l=>match fW w ps vs with
   |none=>none
   |some r=>some (l++r)
 |_,_=>some []
end
def mF (w:aB)(a:Int)(left:List aC)(kids:List Int)(env:List aG)(u:aG):Nat->List Pat->Did
 |_,[]=>bJ w a 3
 |i,q::qs=>match kA w q u with
  |some l=>fH w a left (kids.getD (1+i) 0) (env++l)
  |none=>mF w a left kids env u (i+1) qs
def iR (w:aB)(a:Int)(left:List aC)(n:aK)(env:List aG)(u:aG):Did:=mF w a left n.kids env u 0 n.pats
def qN (p:aP)(left:List aC):Nat->Nat
 |0=>0
 |k+1=>if(p.node (left.getD k default).node).op=26 then k+1 else qN p left k
def eN (p:aP)(w:aB)(a:Int)(left:List aC)(kid:Int)(env:List aG):Did:=
 match qN p left left.length with
 |0=>bJ w a 3
 |k+1=>
  if 120<=w.objs.length then bJ w a 4
  else
   let d:=fH (iD w ⟨5,0,[],left.drop k⟩) a (left.take (k+1)) kid (env++[nH w.objs.length])
   if d.what=1 then bJ w a d.e.n else d
def yW (w:aB):aB:=⟨w.objs,w.tasks++[(w.objs.length:Int)-1],w.outs,w.ins,w.used⟩
def zK (w:aB)(a:Int)(left:List aC)(o:aI):Did:=
 let d:=gZ w a left o
 dK (if d.what=1 then d else⟨yW d.w,d.what,d.e⟩) a 19 0 eK
def dY (p:aP)(w:aB)(a:Int)(left:List aC)(f:aG):Did:=
 if kJ w f 5=true then zK w a left ⟨6,0,[eK],(w.obj f.n).frames⟩
 else match oK p w f eK with
  |none=>bJ w a 2
  |some b=>if 30<b.env.length then bJ w a 4 else zK w a left ⟨6,0,[],[b]⟩
def aZ (l:List aG)(i:Nat):aG:=l.getD i nB
def eP (w:aB)(a:Int)(left:List aC)(op:Int)(l:List aG):Did:=
 if op=16 then dK (gZ w a left ⟨3,0,[aZ l 0],[]⟩) a op 0 (aZ l 0)
 else if kJ w (aZ l 0) 3=true then
  (if op=17 then dK (bW w a left (aZ (w.obj (aZ l 0).n).vals 0)) a op 0 (aZ (w.obj (aZ l 0).n).vals 0)
  else dK (bW (gK w (aZ l 0).n ⟨3,0,[aZ l 1],[]⟩) a left eK) a op 0 (aZ l 1))
 else bJ w a 2
def oL (w:aB):Did:=⟨w,2,lQ⟩
def cC (w:aB)(a:Int)(left:List aC)(op:Int)(l:List aG):Did:=
 if kJ w (aZ l 0) 4=true then
  (if op=22 then
   (if 4<=(w.obj (aZ l 0).n).vals.length then oL w
   else dK (bW (gK w (aZ l 0).n ⟨4,0,(w.obj (aZ l 0).n).vals++[aZ l 1],[]⟩) a left eK) a op 0 (aZ l 1))
  else if(w.obj (aZ l 0).n).vals.length=0 then oL w
  else dK (bW (gK w (aZ l 0).n ⟨4,0,(w.obj (aZ l 0).n).vals.drop 1,[]⟩) a left (aZ (w.obj (aZ l 0).n).vals 0)) a op 0 (aZ (w.obj (aZ l 0).n).vals 0))
 else bJ w a 2
def eX (w:aB)(a:Int)(left:List aC)(v:aG):Did:=
 if kJ w v 6=true then
  (if(w.obj v.n).n=0 then oL w
  else if¬(w.obj v.n).n=1 then bJ w a (w.obj v.n).n
  else dK (bW w a left (aZ (w.obj v.n).vals 0)) a 20 0 (aZ (w.obj v.n).vals 0))
 else bJ w a 2
def cY (w:aB)(a:Int)(left:List aC)(op port:Int)(l:List aG):Did:=
 if op=25 then
  (match w.ins with
  |[]=>oL w
  |x::xs=>if 1000000000<=w.used then bJ w a 4 else dK (bW ⟨w.objs,w.tasks,w.outs,xs,w.used+1⟩ a left (tU x)) a op 0 (tU x))
 else if¬(aZ l 0).kind=1 then bJ w a 2
 else if 100<=w.outs.length then bJ w a 4
 else dK (bW ⟨w.objs,w.tasks,w.outs++[⟨port,(aZ l 0).n⟩],w.ins,w.used⟩ a left eK) a op port (aZ l 0)
def aD (p:aP)(w:aB)(a:Int)(left:List aC)(f:aC)(n:aK):Did:=
 if n.op=1 then bW w a left (tU n.n)
 else if n.op=2 then bW w a left (rL (decide (n.n=1)))
 else if n.op=3 then bW w a left eK
 else if n.op=4 then(if n.n<0 then bW w a left ⟨4,-1-n.n⟩else if(f.env.length:Int)<=n.n then bJ w a 2 else bW w a left (aZ f.env n.n.toNat))
 else if n.op=5 then gZ w a left ⟨2,f.node,f.env,[]⟩
 else if n.op=6 then eL p w a left (aZ f.vals 0) (aZ f.vals 1)
 else if n.op=7 then fH w a left (vD n 1) (f.env++[aZ f.vals 0])
 else if n.op=8 then(if¬(aZ f.vals 0).kind=2 then bJ w a 2 else fH w a left (vD n (2-(aZ f.vals 0).n)) f.env)
 else if n.op=9 \/n.op=10 \/n.op=11 \/n.op=12 \/n.op=13 then cH w a left n.op (aZ f.vals 0) (aZ f.vals 1)
 else if n.op=14 then gZ w a left ⟨1,n.n,f.vals,[]⟩
 else if n.op=15 then iR w a left n f.env (aZ f.vals 0)
 else if n.op=26 then bW w a left (aZ f.vals 0)
 else if n.op=27 then eN p w a left (vD n 0) f.env
 else if n.op=16 \/n.op=17 \/n.op=18 then eP w a left n.op f.vals
 else if n.op=19 then dY p w a left (aZ f.vals 0)
 else if n.op=20 then eX w a left (aZ f.vals 0)
 else if n.op=21 then dK (gZ w a left ⟨4,0,[],[]⟩) a 21 0 eK
 else if n.op=22 \/n.op=23 then cC w a left n.op f.vals
 else if n.op=24 \/n.op=25 then cY w a left n.op n.n f.vals
 else dK (bW w a left eK) a 28 0 eK
def rM (p:aP)(w:aB)(a:Int)(left:List aC)(f:aC):Did:=aD p w a left f (p.node f.node)
def aOh (l:List aC)(v:aG):List aC:=l.set (l.length-1) ⟨(l.getD (l.length-1) oJ).node,(l.getD (l.length-1) oJ).env,(l.getD (l.length-1) oJ).vals++[v]⟩
def eC (p:aP)(w:aB)(a:Int):Did:=
 let o:=w.obj (jA w a)
 if¬o.n=0 then oL w
 else if o.vals.length=1 then
  (if o.frames.length=0 then⟨gK w (jA w a) ⟨6,1,[aZ o.vals 0],[]⟩,1,⟨a,0,1,aEj (aZ o.vals 0)⟩⟩
  else⟨gK w (jA w a) ⟨6,0,[],aOh o.frames (aZ o.vals 0)⟩,0,lQ⟩)
 else
  let f:=o.frames.getD (o.frames.length-1) oJ
  if(f.vals.length:Int)<(p.node f.node).asks then fH w a o.frames (vD (p.node f.node) f.vals.length) f.env
  else rM p w a (o.frames.take (o.frames.length-1)) f
end Go.Abs
namespace Go.Proofs.YthpmfghgoabnhaaGreat
open Go.Abs Go.Proofs
theorem aOi {hi:Int}: ∀(evs:List (Int×Int)) {u u':List Bool},pU hi u evs=some u'-> ∀e∈evs,inR e.2 e.1 hi=true
 |[],_,_,_=>fun e he=>by cases he
 |(lo,x)::evs,u,u',h=>by
  simp only[pU]at h
  split at h
  ·rename_i hc;simp only[bXb]at hc;intro e he;rcases bYe.1 he with rfl|he
   ·exact hc.1
   ·exact aOi evs h e he
  ·cases h
theorem bAs : ∀(l:List aK) (i:Nat) {n:aK} {k:Int},n∈l->k∈n.kids-> ∃e∈jF i l,e.2=k/\ 0<=e.1
 |[],_,_,_,h,_=>by cases h
 |m::l,i,n,k,h,hk=>by
  simp only[jF,bX1,bXy];rcases bYe.1 h with rfl|h
  ·exact⟨_,.inl ⟨k,hk,rfl⟩,rfl,by simp only;omega⟩
  ·obtain⟨e,he,h1,h2⟩:=bAs l (i+1) h hk;exact⟨e,.inr he,h1,h2⟩
structure cJ (p:aP):Prop where
 nodes: ∀n∈p.nodes,eG p n=true
 kids: ∀n∈p.nodes,∀k∈n.kids,inR k 0 ((p.nodes.length:Int)-1)=true
 funs: ∀k∈p.funs,inR k 0 ((p.nodes.length:Int)-1)=true
 cons: ∀c∈p.cons,inR c.args 0 3=true
 main:inR p.main 0 ((p.funs.length:Int)-1)=true
theorem aW9 {p:aP}(h:fZ p=true):cJ p:=by
 simp only[fZ,bXb,cAg]at h;obtain⟨⟨⟨⟨_,_⟩,hm⟩,hc⟩,h⟩:=h;simp only[aKv,sD]at h
 by_cases hn:p.nodes.all (eG p)=true
 ·simp only[hn,if_true]at h;rw[<-qJ]at h;have hs: ∃u',pU (↑p.nodes.length-1) (List.replicate p.nodes.length false) (List.map (fun x=>((0:Int),x)) p.funs++jF 0 p.nodes)=some u':=by
   cases he:pU (↑p.nodes.length-1) (List.replicate p.nodes.length false) (List.map (fun x=>((0:Int),x)) p.funs++jF 0 p.nodes)with
   |some u=>exact⟨u,rfl⟩
   |none=>rw[he]at h;cases h
  obtain⟨u',hu⟩:=hs;have hin:=aOi _ hu
  refine⟨bXo.1 hn,fun n hn k hk=>?_,fun k hk=>?_,fun c hc'=>?_,hm⟩
  ·obtain⟨e,he,h1,h2⟩:=bAs p.nodes 0 hn hk;have:=hin e (bYl _ he);rw[h1]at this;simp only[inR,cAg]at this⊢;omega
  ·exact hin (0,k) (bYo _ (bXy.2 ⟨k,hk,rfl⟩))
  ·simp only[uL,bXb]at hc;have:=bXo.1 hc.1.1 c hc';simp only[sA,bXb]at this;exact this.2
 ·simp only[hn,if_false,bXc]at h;cases he:pU (↑p.nodes.length-1) (List.replicate p.nodes.length false) (List.map (fun x=>((0:Int),x)) p.funs)with
  |none=>rw[he]at h;cases h
  |some u=>rw[he]at h;cases h
theorem bV {p:aP}{i:Int}(h:inR i 0 ((p.nodes.length:Int)-1)=true):p.node i∈p.nodes:=by
 simp only[inR,cAg]at h;have hj:i.toNat<p.nodes.length:=by omega
 simp only[aP.node,bXm,bYs hj,bX3];exact bXn hj
theorem lR {α:Type}{l:List α}{i:Nat}{d:α}(h:i<l.length):l.getD i d∈l:=by
 simp only[bXm,bYs h,bX3];exact bXn h
def jG (o:aI):List aG:=o.vals++o.frames.flatMap fun f=>f.env++f.vals
theorem aOj {p:aP}{w w':aB}{v:aG}(h:w.objs.length<=w'.objs.length)(hv:cO p w v=true):cO p w' v=true:=by
 unfold cO at hv⊢;split
 ·rename_i h1;rw[if_pos h1]at hv;exact hv
 rename_i h1;rw[if_neg h1]at hv;split
 ·rename_i h2;rw[if_pos h2]at hv;exact hv
 rename_i h2;rw[if_neg h2]at hv;split
 ·rename_i h3;rw[if_pos h3]at hv;exact hv
 rename_i h3;rw[if_neg h3]at hv;split
 ·rename_i h4;rw[if_pos h4]at hv;exact hv
 rename_i h4;rw[if_neg h4]at hv;split
 ·rename_i h5;rw[if_pos h5]at hv;simp only[inR,cAg]at hv⊢;omega
 ·rename_i h5;rw[if_neg h5]at hv;exact hv
theorem nS {p:aP}{w w':aB}{l:List aG}{m:Int}(h:w.objs.length<=w'.objs.length)(hv:aR p w l m=true):aR p w' l m=true:=by
 simp only[aR,bXb,bXo]at hv⊢;exact⟨hv.1,fun v hm=>aOj h (hv.2 v hm)⟩
theorem aOk {p:aP}{w w':aB}{f:aC}(h:w.objs.length<=w'.objs.length)(hv:bG p w f=true):bG p w' f=true:=by
 simp only[bG,bXb]at hv⊢;exact⟨⟨hv.1.1,nS h hv.1.2⟩,nS h hv.2⟩
theorem aJl {p:aP}{w w':aB}{l:List aC}(h:w.objs.length<=w'.objs.length)(hv:bK p w l=true):bK p w' l=true:=by
 simp only[bK,bXb,bXo]at hv⊢;exact⟨hv.1,fun f hm=>aOk h (hv.2 f hm)⟩
theorem xR {p:aP}{w w':aB}{o:aI}(h:w.objs.length<=w'.objs.length)(hv:dN p w o=true):dN p w' o=true:=by
 unfold dN at hv⊢;split
 ·rename_i h0;rw[if_pos h0]at hv;unfold iH at hv⊢;split
  ·rename_i h1;rw[if_pos h1]at hv;simp only[bXb]at hv⊢;exact⟨⟨⟨aJl h hv.1.1.1,nS h hv.1.1.2⟩,hv.1.2⟩,hv.2⟩
  rename_i h1;rw[if_neg h1]at hv;split
  ·rename_i h2;rw[if_pos h2]at hv;simp only[bXb]at hv⊢;exact⟨hv.1,nS h hv.2⟩
  ·rename_i h2;rw[if_neg h2]at hv;exact hv
 rename_i h0;rw[if_neg h0]at hv;split
 ·rename_i h1;rw[if_pos h1]at hv;simp only[bXb]at hv⊢;exact⟨⟨⟨hv.1.1.1,aJl h hv.1.1.2⟩,hv.1.2⟩,hv.2⟩
 rename_i h1;rw[if_neg h1]at hv;split
 ·rename_i h2;rw[if_pos h2]at hv;exact hv
 rename_i h2;rw[if_neg h2]at hv;split
 ·rename_i h3;rw[if_pos h3]at hv;simp only[bXb]at hv⊢;exact⟨hv.1,nS h hv.2⟩
 rename_i h3;rw[if_neg h3]at hv;split
 ·rename_i h4;rw[if_pos h4]at hv;simp only[bXb]at hv⊢;exact⟨hv.1,nS h hv.2⟩
 rename_i h4;rw[if_neg h4]at hv;split
 ·rename_i h5;rw[if_pos h5]at hv;simp only[bXb]at hv⊢;exact⟨hv.1,nS h hv.2⟩
 rename_i h5;rw[if_neg h5]at hv;split
 ·rename_i h6;rw[if_pos h6]at hv;simp only[bXb]at hv⊢;exact⟨hv.1,nS h hv.2⟩
 ·rename_i h6;rw[if_neg h6]at hv;exact hv
theorem aDc {p:aP}{w:aB}{o:aI}(hv:dN p w o=true):(∀v∈o.vals,cO p w v=true)/\ bK p w o.frames=true:=by
 have vs: ∀{l:List aG} {m:Int},aR p w l m=true-> ∀v∈l,cO p w v=true:=fun h=>by
  simp only[aR,bXb,bXo]at h;exact h.2
 have none_: ∀{l:List aC},(l.length:Int)=0->bK p w l=true:=fun h=>by
  have h:=List.eq_nil_of_length_eq_zero (Int.ofNat_eq_zero.1 h);subst h;simp[bK]
 have nov: ∀{l:List aG},(l.length:Int)=0-> ∀v∈l,cO p w v=true:=fun h=>by
  have h:=List.eq_nil_of_length_eq_zero (Int.ofNat_eq_zero.1 h);subst h;simp
 unfold dN at hv
 split at hv
 ·unfold iH at hv
  split at hv
  ·simp only[bXb]at hv;exact⟨vs hv.1.1.2,hv.1.1.1⟩
  split at hv
  ·simp only[bXb,cAg]at hv;exact⟨vs hv.2,none_ hv.1.1⟩
  split at hv
  ·simp only[bXb,cAg]at hv;exact⟨nov hv.2,none_ hv.1⟩
  ·cases hv
 split at hv
 ·simp only[bXb,cAg]at hv;exact⟨nov hv.1.1.1.1.2,hv.1.1.2⟩
 split at hv
 ·cases hv
 rename_i hz;have hz:=none_ (Decidable.not_not.1 hz)
 split at hv
 ·simp only[bXb]at hv;exact⟨vs hv.2,hz⟩
 split at hv
 ·simp only[bXb]at hv;exact⟨vs hv.2,hz⟩
 split at hv
 ·simp only[bXb]at hv;exact⟨vs hv.2,hz⟩
 split at hv
 ·simp only[bXb]at hv;exact⟨vs hv.2,hz⟩
 ·cases hv
theorem lS {w w':aB}(hl:w.objs.length<=w'.objs.length)(hk: ∀k,inR k 0 ((w.objs.length:Int)-1)=true->bF (w'.obj k)=bF (w.obj k)): ∀(l met:List Int),bB w met l=true->bB w' met l=true
 |[],_,_=>rfl
 |k::l,met,h=>by
  simp only[bB,bXb]at h⊢;obtain⟨⟨⟨h1,h2⟩,h3⟩,h4⟩:=h
  refine⟨⟨⟨?_,by rw[hk k h1];exact h2⟩,h3⟩,lS hl hk l _ h4⟩
  simp only[inR,cAg]at h1⊢;omega
theorem aB3 {w:aB}{k:Int}(h1:inR k 0 ((w.objs.length:Int)-1)=true)(h2:bF (w.obj k)=true): ∀(l met:List Int),bB w met l=true->k∉met->k∉l->bB w met (l++[k])=true
 |[],met,_,hm,_=>by
  simp only[bYw,bB,h1,h2,bY6,bX0,bYh,<-bYf,bZm,cAg]
  rintro⟨x,hx,rfl⟩
  exact hm hx
 |x::l,met,h,hm,hl=>by
  simp only[bZg,bB,bXb]at h⊢
  refine⟨h.1,aB3 h1 h2 l _ h.2 (fun hc=>?_) (fun hc=>hl (cAa _ hc))⟩
  rcases bX1.1 hc with hc|hc
  ·exact hm hc
  ·simp only[bYi]at hc;exact hl (by rw[hc];simp)
theorem xS {w:aB}: ∀(l met:List Int),bB w met l=true-> ∀k∈l,inR k 0 ((w.objs.length:Int)-1)=true/\ bF (w.obj k)=true
 |[],_,_=>fun k hk=>by cases hk
 |x::l,met,h=>by
  simp only[bB,bXb]at h;intro k hk;rcases bYe.1 hk with rfl|hk
  ·exact⟨h.1.1.1,h.1.1.2⟩
  ·exact xS l _ h.2 k hk
structure bP (p:aP) (w0:aB) (S:Nat->Prop) (w:aB):Prop where
 ok:gG p w=true
 le:w0.objs.length<=w.objs.length
 form: ∀i:Nat,i<w0.objs.length->(w.obj i).form=(w0.obj i).form
 pre:w0.tasks<+:w.tasks
 shut: ∀i:Nat,i<w.objs.length->S i-> ∀v∈jG (w.obj i),v.kind=5->S v.n.toNat
 ts: ∀t∈w.tasks,S t.toNat
 new: ∀i,w0.objs.length<=i->S i
structure VOk (p:aP) (S:Nat->Prop) (w:aB) (v:aG):Prop where
 ok:cO p w v=true
 ref:v.kind=5->S v.n.toNat
structure OOk (p:aP) (S:Nat->Prop) (w:aB) (o:aI):Prop where
 ok:dN p w o=true
 ref: ∀v∈jG o,v.kind=5->S v.n.toNat
structure FOk (p:aP) (S:Nat->Prop) (w:aB) (f:aC):Prop where
 ok:bG p w f=true
 ref: ∀v∈f.env++f.vals,v.kind=5->S v.n.toNat
variable {p :aP}{w0 w w':aB}{S:Nat->Prop}
theorem VOk.le {v:aG}(h:VOk p S w v)(hl:w.objs.length<=w'.objs.length):VOk p S w' v:=⟨aOj hl h.ok,h.ref⟩
theorem OOk.le {o:aI}(h:OOk p S w o)(hl:w.objs.length<=w'.objs.length):OOk p S w' o:=⟨xR hl h.ok,h.ref⟩
theorem FOk.le {f:aC}(h:FOk p S w f)(hl:w.objs.length<=w'.objs.length):FOk p S w' f:=⟨aOk hl h.ok,h.ref⟩
theorem FOk.env {f:aC}(h:FOk p S w f){v:aG}(hv:v∈f.env):VOk p S w v:=by
 have:=h.ok;simp only[bG,aR,bXb,bXo]at this;exact⟨this.1.2.2 v hv,h.ref v (bYo _ hv)⟩
theorem FOk.vals {f:aC}(h:FOk p S w f){v:aG}(hv:v∈f.vals):VOk p S w v:=by
 have:=h.ok;simp only[bG,aR,bXb,bXo]at this;exact⟨this.2.2 v hv,h.ref v (bYl _ hv)⟩
theorem OOk.vals {o:aI}(h:OOk p S w o){v:aG}(hv:v∈o.vals):VOk p S w v:=⟨(aDc h.ok).1 v hv,h.ref v (bYo _ hv)⟩
theorem OOk.frames {o:aI}(h:OOk p S w o){f:aC}(hf:f∈o.frames):FOk p S w f:=by
 have:=(aDc h.ok).2;simp only[bK,bXb,bXo]at this;exact⟨this.2 f hf,fun v hv=>h.ref v (bYl _ (bYk.2 ⟨f,hf,hv⟩))⟩
theorem eY {p:aP}{w:aB}:gG p w=true↔w.objs.length<=120/\ w.outs.length<=100/\ mN w.ins 50=true/\ inR w.used 0 1000000000=true/\ iP w=true/\ (∀o∈w.objs,dN p w o=true)/\ ∀o∈w.outs,rX o=true:=by
 simp only[gG,bXb,cAg,bXo,and_assoc];constructor
 ·rintro⟨a,b,c⟩;exact⟨by omega,by omega,c⟩
 ·rintro⟨a,b,c⟩;exact⟨by omega,by omega,c⟩
theorem bDm {w:aB}{i:Int}(h:inR i 0 ((w.objs.length:Int)-1)=true):w.obj i∈w.objs:=by
 simp only[inR,cAg]at h;exact lR (by omega)
theorem bP.obj (h:bP p w0 S w){i:Int}(hi:inR i 0 ((w.objs.length:Int)-1)=true)(hs:S i.toNat):OOk p S w (w.obj i):=by
 have hi':=hi;simp only[inR,cAg]at hi'
 refine⟨(eY.1 h.ok).2.2.2.2.2.1 _ (bDm hi),fun v hv=>?_⟩
 have e:w.obj i=w.obj (i.toNat:Nat):=by rw[bZo hi'.1]
 rw[e]at hv;exact h.shut _ (by omega) hs v hv
theorem bP.ref (h:bP p w0 S w){v:aG}(hv:VOk p S w v)(h5:v.kind=5):inR v.n 0 ((w.objs.length:Int)-1)=true/\ OOk p S w (w.obj v.n):=by
 have h1:=hv.ok;simp only[cO,h5]at h1;have h1:inR v.n 0 ((w.objs.length:Int)-1)=true:=by simpa using h1
 exact⟨h1,h.obj h1 (hv.ref h5)⟩
theorem bP.task (h:bP p w0 S w){a:Int}(ha:inR a 0 ((w.tasks.length:Int)-1)=true):inR (jA w a) 0 ((w.objs.length:Int)-1)=true/\ (w.obj (jA w a)).form=6/\ S (jA w a).toNat:=by
 simp only[inR,cAg]at ha;have hm:jA w a∈w.tasks:=lR (by omega)
 have ht:=(eY.1 h.ok).2.2.2.2.1;simp only[iP,bXb]at ht;obtain⟨h1,h2⟩:=xS _ _ ht.2 _ hm;exact⟨h1,of_decide_eq_true h2,h.ts _ hm⟩
theorem aLf {i:Int}{o:aI}{j:Nat}(hi:inR i 0 ((w.objs.length:Int)-1)=true):(gK w i o).obj j=if(i.toNat=j)then o else w.obj j:=by
 simp only[inR,cAg]at hi;simp only[aB.obj,gK,bXm,bXx,bZh]
 by_cases h:i.toNat=j
 ·subst h;simp only[if_true];rw[if_pos (by omega)];rfl
 ·simp[h]
theorem oM {i:Int}{o:aI}:(gK w i o).objs.length=w.objs.length:=by simp[gK]
theorem aXa {l:List aI}{i:Nat}{o:aI}(hi:i<l.length)(h:bF o=bF l[i]):(l.set i o).countP bF=l.countP bF:=by
 rw[List.countP_set hi,h];have:bF l[i]=true->0<l.countP bF:=fun h=>List.countP_pos_iff.2 ⟨_,bXn hi,h⟩
 split
 ·rename_i h1;have:=this h1;omega
 ·omega
theorem aU7 {w:aB}{i:Nat}(h:i<w.objs.length):w.obj i=w.objs[i]:=by
 simp only[aB.obj,bXx,bXm,bYs h,bX3]
theorem bP.set (h:bP p w0 S w){i:Int}{o:aI}(hi:inR i 0 ((w.objs.length:Int)-1)=true)(ho:OOk p S w o)(hf:o.form=(w.obj i).form):bP p w0 S (gK w i o):=by
 have hi':=hi;simp only[inR,cAg]at hi';have hit:i.toNat<w.objs.length:=by omega
 have e:w.obj i=w.objs[i.toNat]:=by rw[<-aU7 hit,bZo hi'.1]
 have hk:bF o=bF w.objs[i.toNat]:=by simp only[bF,hf,e]
 obtain⟨a1,a2,a3,a4,a5,a6,a7⟩:=eY.1 h.ok;have hle:w.objs.length<=(gK w i o).objs.length:=by rw[oM];exact bXd _
 refine⟨eY.2 ⟨by rw[oM];exact a1,a2,a3,a4,?_,fun x hx=>?_,a7⟩,by rw[oM];exact h.le,fun j hj=>?_,h.pre,fun j hj hs v hv=>?_,h.ts,h.new⟩
 ·simp only[iP,bXb,cAg]at a5⊢
  refine⟨?_,lS hle (fun k hk'=>?_) _ _ a5.2⟩
  ·show w.tasks.length=(w.objs.set i.toNat o).countP bF;rw[aXa hit hk];exact a5.1
  ·simp only[inR,cAg]at hk';obtain⟨j,rfl⟩:=bYr hk'.1;rw[aLf hi];split
   ·rename_i hj;subst hj;rw[hk,aU7 hit]
   ·rfl
 ·rcases cAe hx with hx|rfl
  ·exact xR hle (a6 x hx)
  ·exact xR hle ho.ok
 ·rw[aLf hi];split
  ·rename_i hj';subst hj';rw[hf,<-h.form _ hj,bZo hi'.1]
  ·exact h.form j hj
 ·rw[aLf hi]at hv;rw[oM]at hj
  split at hv
  ·exact ho.ref v hv
  ·exact h.shut j hj hs v hv
theorem kX {o:aI}:(iD w o).objs.length=w.objs.length+1:=by simp[iD]
theorem vE {o:aI}{j:Nat}(hj:j<w.objs.length+1):(iD w o).obj j=if j=w.objs.length then o else w.obj j:=by
 simp only[aB.obj,iD,bXx,bXm];split
 ·rename_i h;subst h;simp
 ·rename_i h;rw[cAc (by omega)]
theorem bP.add (h:bP p w0 S w){o:aI}(hl:w.objs.length<120)(ho:OOk p S w o)(hf: ¬o.form=6):bP p w0 S (iD w o):=by
 obtain⟨a1,a2,a3,a4,a5,a6,a7⟩:=eY.1 h.ok;have hle:w.objs.length<=(iD w o).objs.length:=by rw[kX];omega
 have hk:bF o=false:=decide_eq_false hf;have hl0:=h.le
 refine⟨eY.2 ⟨by rw[kX];omega,a2,a3,a4,?_,fun x hx=>?_,a7⟩,by rw[kX];omega,fun j hj=>?_,h.pre,fun j hj hs v hv=>?_,h.ts,h.new⟩
 ·simp only[iP,bXb,cAg]at a5⊢
  refine⟨?_,lS hle (fun k hk'=>?_) _ _ a5.2⟩
  ·show w.tasks.length=(w.objs++[o]).countP bF;rw[List.countP_append];simp[hk,a5.1]
  ·simp only[inR,cAg]at hk';obtain⟨j,rfl⟩:=bYr hk'.1;rw[vE (by omega),if_neg (by omega)]
 ·rcases bX1.1 hx with hx|hx
  ·exact xR hle (a6 x hx)
  ·simp only[bYi]at hx;subst hx;exact xR hle ho.ok
 ·rw[vE (by omega),if_neg (by omega)];exact h.form j hj
 ·rw[kX]at hj;rw[vE hj]at hv
  split at hv
  ·exact ho.ref v hv
  ·exact h.shut j (by omega) hs v hv
theorem bP.born (h:bP p w0 S w){o:aI}(hl:w.objs.length<120)(ho:OOk p S w o)(hf:o.form=6):bP p w0 S (yW (iD w o)):=by
 obtain⟨a1,a2,a3,a4,a5,a6,a7⟩:=eY.1 h.ok;have hlen:(yW (iD w o)).objs.length=w.objs.length+1:=kX;have hle:w.objs.length<=(yW (iD w o)).objs.length:=by rw[hlen];omega
 have hk:bF o=true:=decide_eq_true hf;have hl0:=h.le;have hT:(yW (iD w o)).tasks=w.tasks++[(w.objs.length:Int)]:=by
  show w.tasks++[((iD w o).objs.length:Int)-1]=_;rw[kX];congr 2;omega
 have hO: ∀j:Int,(yW (iD w o)).obj j=(iD w o).obj j:=fun j=>rfl
 refine⟨eY.2 ⟨by rw[hlen];omega,a2,a3,a4,?_,fun x hx=>?_,a7⟩,by rw[hlen];omega,fun j hj=>?_,?_,fun j hj hs v hv=>?_,fun t ht=>?_,h.new⟩
 ·simp only[iP,bXb,cAg]at a5⊢;rw[hT]
  refine⟨?_,aB3 ?_ ?_ _ _ (lS hle (fun k hk'=>?_) _ _ a5.2) (by simp) (fun hc=>?_)⟩
  ·show(w.tasks++[_]).length=(w.objs++[o]).countP bF;rw[List.countP_append];simp[hk,a5.1]
  ·rw[hlen];simp only[inR,cAg];omega
  ·rw[hO,vE (by omega),if_pos rfl];exact hk
  ·simp only[inR,cAg]at hk';obtain⟨j,rfl⟩:=bYr hk'.1;rw[hO,vE (by omega),if_neg (by omega)]
  ·have:=(xS _ _ a5.2 _ hc).1;simp only[inR,cAg]at this;omega
 ·rcases bX1.1 hx with hx|hx
  ·exact xR hle (a6 x hx)
  ·simp only[bYi]at hx;subst hx;exact xR hle ho.ok
 ·rw[hO,vE (by omega),if_neg (by omega)];exact h.form j hj
 ·rw[hT];exact h.pre.trans (List.prefix_append _ _)
 ·rw[hlen]at hj;rw[hO,vE hj]at hv
  split at hv
  ·exact ho.ref v hv
  ·exact h.shut j (by omega) hs v hv
 ·rw[hT]at ht;rcases bX1.1 ht with ht|ht
  ·exact h.ts t ht
  ·simp only[bYi]at ht;subst ht;exact h.new _ (by simp only[bXx];omega)
end Go.Proofs.YthpmfghgoabnhaaGreat
namespace Go.Proofs.YthpmfghgoabnhaaGreat
open Go.Abs Go.Proofs
variable {p :aP}{w0 w w':aB}{S:Nat->Prop}{a:Int}{left:List aC}
structure LOk (p:aP) (S:Nat->Prop) (w:aB) (l:List aC):Prop where
 len:l.length<=40
 ok: ∀f∈l,FOk p S w f
 opn: ∀f∈l,cS p f=true
theorem LOk.le {l:List aC}(h:LOk p S w l)(hl:w.objs.length<=w'.objs.length):LOk p S w' l:=⟨h.len,fun f hf=>(h.ok f hf).le hl,h.opn⟩
theorem LOk.frames {l:List aC}(h:LOk p S w l):bK p w l=true:=by
 simp only[bK,bXb,cAg,bXo];exact⟨by have:=h.len;omega,fun f hf=>(h.ok f hf).ok⟩
theorem LOk.sub {l l':List aC}(h:LOk p S w l)(hs: ∀f∈l',f∈l)(hl:l'.length<=40):LOk p S w l':=⟨hl,fun f hf=>h.ok f (hs f hf),fun f hf=>h.opn f (hs f hf)⟩
theorem aLg {n:Int}(h:inR n (-1000000000) 1000000000=true):VOk p S w (tU n):=⟨by simp[cO,tU,h],fun h=>by cases h⟩
theorem aHb {b:Bool}:VOk p S w (rL b):=⟨by cases b<;>rfl,fun h=>by cases b<;>cases h⟩
theorem oN :VOk p S w eK:=⟨rfl,fun h=>by cases h⟩
theorem aLh (h:bP p w0 S w){o:aI}:VOk p S (iD w o) (nH w.objs.length):=by
 refine⟨?_,fun _=>h.new _ (by simp only[nH,bXx];exact h.le)⟩
 simp only[cO,nH,inR,kX];simp
theorem aOl {l:List aC}{v:aG}(hl:LOk p S w l)(hv:VOk p S w v):OOk p S w ⟨6,0,[v],l⟩:=by
 refine⟨?_,fun u hu=>?_⟩
 ·rw[dN,if_pos rfl,iH,if_pos rfl];simp only[bXb,cAg,bXo]
  refine⟨⟨⟨hl.frames,?_⟩,?_⟩,fun f hf=>?_⟩
  ·simp[aR,hv.ok]
  ·simp only[bXu,bYb];omega
  ·exact hl.opn f (bZt hf)
 ·simp only[jG,bZg,bYw,bYe,bYk]at hu;rcases hu with rfl|⟨f,hf,hu⟩
  ·exact hv.ref
  ·exact(hl.ok f hf).ref u hu
theorem aHc {l:List aC}{f:aC}(hl:LOk p S w l)(hlen:l.length<40)(hf:FOk p S w f):OOk p S w ⟨6,0,[],l++[f]⟩:=by
 refine⟨?_,fun u hu=>?_⟩
 ·rw[dN,if_pos rfl,iH,if_pos rfl];simp only[bXb,cAg,bXo,bK]
  refine⟨⟨⟨⟨?_,fun g hg=>?_⟩,rfl⟩,?_⟩,fun g hg=>?_⟩
  ·simp only[bX8,bXu,bYb];omega
  ·rcases bX1.1 hg with hg|hg
   ·exact(hl.ok g hg).ok
   ·simp only[bYi]at hg;subst hg;exact hf.ok
  ·simp only[bX8,bXu,bYb];omega
  ·rw[List.take_append_of_le_length (by simp)]at hg
   exact hl.opn g (bZt hg)
 ·simp only[jG,bYw,bYk]at hu;obtain⟨g,hg,hu⟩:=hu;rcases bX1.1 hg with hg|hg
  ·exact(hl.ok g hg).ref u hu
  ·simp only[bYi]at hg;subst hg;exact hf.ref u hu
theorem bAt {st:Int}(h:st=2 \/st=3 \/st=4):OOk p S w ⟨6,st,[],[]⟩:=by
 refine⟨?_,fun u hu=>by simp[jG]at hu⟩
 rcases h with rfl|rfl|rfl<;>rfl
theorem bAu {v:aG}(hv:VOk p S w v):OOk p S w ⟨6,1,[v],[]⟩:=by
 refine⟨?_,fun u hu=>?_⟩
 ·simp[dN,iH,aR,hv.ok]
 ·simp only[jG,bZw,bYx,bYi]at hu;subst hu;exact hv.ref
theorem bDn (n:aK):0<=n.asks:=by
 unfold aK.asks;split
 ·decide
 split
 ·exact bZ4 _
 split<;>decide
theorem aU8 {node:Int}{env:List aG}(hn:inR node 0 ((p.nodes.length:Int)-1)=true)(he: ∀v∈env,VOk p S w v)(hl:env.length<=30):FOk p S w ⟨node,env,[]⟩:=by
 refine⟨?_,fun v hv=>?_⟩
 ·simp only[bG,aR,bXb,cAg,bXo,hn,true_and]
  refine⟨⟨by omega,fun v hv=>(he v hv).ok⟩,by simpa using bDn _,fun v hv=>by cases hv⟩
 ·simp only[bYx]at hv;exact(he v hv).ref
theorem cN (h:bP p w0 S w)(ha:inR a 0 ((w.tasks.length:Int)-1)=true){st:Int}(hs:st=2 \/st=3 \/st=4):bP p w0 S (bJ w a st).w:=by
 obtain⟨h1,h2,_⟩:=h.task ha;exact h.set h1 (bAt hs) h2.symm
theorem dT (h:bP p w0 S w)(ha:inR a 0 ((w.tasks.length:Int)-1)=true){v:aG}(hl:LOk p S w left)(hv:VOk p S w v):bP p w0 S (bW w a left v).w:=by
 obtain⟨h1,h2,_⟩:=h.task ha;exact h.set h1 (aOl hl hv) h2.symm
theorem qR (h:bP p w0 S w)(ha:inR a 0 ((w.tasks.length:Int)-1)=true){node:Int}{env:List aG}(hl:LOk p S w left)(hn:inR node 0 ((p.nodes.length:Int)-1)=true)(he: ∀v∈env,VOk p S w v):
  bP p w0 S (fH w a left node env).w:=by
 obtain⟨h1,h2,_⟩:=h.task ha;unfold fH;split
 ·exact cN h ha (by simp)
 ·exact h.set h1 (aHc hl (by omega) (aU8 hn he (by omega))) h2.symm
theorem yQ (h:bP p w0 S w)(ha:inR a 0 ((w.tasks.length:Int)-1)=true){o:aI}(hl:LOk p S w left)(ho:OOk p S w o)(hf: ¬o.form=6):bP p w0 S (gZ w a left o).w:=by
 unfold gZ;split
 ·exact cN h ha (by simp)
 ·exact dT (h.add (by omega) ho hf) ha (hl.le (by rw[kX];omega)) (aLh h)
theorem oO {d:Did}{act n:Int}{v:aG}:(dK d a act n v).w=d.w:=by unfold dK;split<;>rfl
theorem aJm (h:bP p w0 S w)(ha:inR a 0 ((w.tasks.length:Int)-1)=true){o:aI}(hl:LOk p S w left)(ho:OOk p S w o)(hf:o.form=6):bP p w0 S (zK w a left o).w:=by
 unfold zK;simp only[oO];unfold gZ;split
 ·rw[if_pos (show(bJ w a 4).what=1 from rfl)];exact cN h ha (by simp)
 ·rename_i hc;rw[if_neg (by simp[bW])]
  have hb:=h.born (by omega) ho hf
  have ha':inR a 0 (((yW (iD w o)).tasks.length:Int)-1)=true:=by
   simp only[inR,cAg,yW,bX8,bXu,bYb]at ha⊢;have e:(iD w o).tasks=w.tasks:=rfl;rw[e];omega
  have hT:jA (yW (iD w o)) a=jA (iD w o) a:=by
   simp only[inR,cAg]at ha;show(w.tasks++_).getD a.toNat 0=w.tasks.getD a.toNat 0;simp only[bXm];rw[cAc (by omega)]
  have:=dT hb ha' (left:=left) (v:=nH w.objs.length) (hl.le (by show _<=(iD w o).objs.length;rw[kX];omega)) ((aLh h (o:=o)).le (bXd _))
  have e:yW (bW (iD w o) a left (nH w.objs.length)).w=(bW (yW (iD w o)) a left (nH w.objs.length)).w:=by
   simp only[bW,hT];simp only[yW,gK,bZu]
  show bP p w0 S (yW (bW (iD w o) a left (nH w.objs.length)).w);rw[e];exact this
theorem bP.io (h:bP p w0 S w){outs:List aN}{ins:List Int}{used:Int}(h1:outs.length<=100)(h2: ∀o∈outs,rX o=true)(h3:mN ins 50=true)(h4:inR used 0 1000000000=true):bP p w0 S ⟨w.objs,w.tasks,outs,ins,used⟩:=by
 obtain⟨a1,a2,a3,a4,a5,a6,a7⟩:=eY.1 h.ok
 refine⟨eY.2 ⟨a1,h1,h3,h4,?_,fun o ho=>xR (bXd _) (a6 o ho),h2⟩,h.le,h.form,h.pre,h.shut,h.ts,h.new⟩
 simp only[iP,bXb]at a5⊢;exact⟨a5.1,lS (w:=w) (w':=⟨w.objs,w.tasks,outs,ins,used⟩) (bXd _) (fun _ _=>rfl) _ _ a5.2⟩
theorem bS {n:aK}(h:eG p n=true):(n.kids.length:Int)=fX n.op n.pats.length (oZ p n):=by
 simp only[eG,bXb,cAg]at h;exact h.2
theorem aJn {n:aK}(h:eG p n=true):n.asks<=n.kids.length:=by
 have:=bS h;unfold aK.asks;unfold fX at this
 repeat' split at this
 all_goals (repeat' split)
 all_goals omega
theorem aQv (hp:cJ p){i:Int}(hi:inR i 0 ((p.nodes.length:Int)-1)=true){k:Int}(h0:0<=k)(hk:k<(p.node i).kids.length):inR (vD (p.node i) k) 0 ((p.nodes.length:Int)-1)=true:=
 hp.kids _ (bV hi) _ (lR (by omega))
theorem jN (h:bP p w0 S w){f:aG}{k:Int}(hv:VOk p S w f)(hi:kJ w f k=true):inR f.n 0 ((w.objs.length:Int)-1)=true/\ OOk p S w (w.obj f.n)/\ (w.obj f.n).form=k/\ f.kind=5:=by
 simp only[kJ,bXb,cAg]at hi;obtain⟨h1,h2⟩:=h.ref hv hi.1;exact⟨h1,h2,hi.2,hi.1⟩
theorem aAq (hp:cJ p)(h:bP p w0 S w){f v:aG}(hf:VOk p S w f)(hv:VOk p S w v){b:aC}(hb:oK p w f v=some b):
  inR b.node 0 ((p.nodes.length:Int)-1)=true/\ (∀u∈b.env,VOk p S w u)/\ b.vals=[]:=by
 unfold oK at hb
 split at hb
 ·rename_i h4;simp only[bXa]at hb;subst hb;have h1:=hf.ok;simp only[cO,h4]at h1;have h1:inR f.n 0 ((p.funs.length:Int)-1)=true:=by simpa using h1
  simp only[inR,cAg]at h1;exact⟨hp.funs _ (lR (by omega)),fun u hu=>by simp only[bYi]at hu;subst hu;exact hv,rfl⟩
 ·split at hb
  ·rename_i h2;simp only[bXa]at hb;subst hb;obtain⟨a1,a2,a3,_⟩:=jN h hf h2;have hk:=a2.ok;simp only[dN,a3]at hk
   simp at hk
   obtain⟨_,⟨b1,b2⟩,_⟩:=hk
   refine⟨aQv hp b1 (by decide) ?_,fun u hu=>?_,rfl⟩
   ·rw[bS (hp.nodes _ (bV b1)),b2];simp[fX]
   ·rcases bX1.1 hu with hu|hu
    ·exact a2.vals hu
    ·simp only[bYi]at hu;subst hu;exact hv
  ·cases hb
theorem aDd {o:aI}(h:OOk p S w o)(h5:o.form=5):LOk p S w o.frames:=by
 have hk:=h.ok;simp only[dN,h5]at hk;simp[bK]at hk;exact⟨by omega,fun f hf=>h.frames hf,hk.1.2⟩
theorem LOk.app {l m:List aC}(h:LOk p S w l)(k:LOk p S w m)(hl:(l++m).length<=40):LOk p S w (l++m):=
 ⟨hl,fun f hf=>(bX1.1 hf).elim (h.ok f) (k.ok f),fun f hf=>(bX1.1 hf).elim (h.opn f) (k.opn f)⟩
theorem aLi (hp:cJ p)(h:bP p w0 S w)(ha:inR a 0 ((w.tasks.length:Int)-1)=true)(hl:LOk p S w left){f v:aG}(hf:VOk p S w f)(hv:VOk p S w v):bP p w0 S (eL p w a left f v).w:=by
 unfold eL;split
 ·rename_i h5;obtain⟨_,a2,a3,_⟩:=jN h hf h5;split
  ·exact cN h ha (by simp)
  ·exact dT h ha (hl.app (aDd a2 a3) (by omega)) hv
 ·split
  ·exact cN h ha (by simp)
  ·rename_i b hb;obtain⟨b1,b2,_⟩:=aAq hp h hf hv hb;exact qR h ha hl b1 b2
theorem aLj (h:bP p w0 S w)(ha:inR a 0 ((w.tasks.length:Int)-1)=true)(hl:LOk p S w left){op:Int}{u v:aG}:bP p w0 S (cH w a left op u v).w:=by
 unfold cH;split
 ·split
  ·exact cN h ha (by simp)
  ·exact dT h ha hl aHb
 split
 ·exact cN h ha (by simp)
 split
 ·exact dT h ha hl aHb
 split
 ·rename_i hr;exact dT h ha hl (aLg hr)
 ·exact cN h ha (by simp)
mutual
theorem aHd (h:bP p w0 S w): ∀(q:Pat) {v:aG} {l:List aG},VOk p S w v->kA w q v=some l-> ∀u∈l,VOk p S w u
 | .mk f n t ps,v,l,hv,hm=>by
  unfold kA at hm
  split at hm
  ·cases hm;intro u hu;cases hu
  split at hm
  ·cases hm;intro u hu;simp only[bYi]at hu;subst hu;exact hv
  split at hm
  ·split at hm
   ·cases hm;intro u hu;cases hu
   ·cases hm
  split at hm
  ·split at hm
   ·cases hm;intro u hu;cases hu
   ·cases hm
  split at hm
  ·split at hm
   ·cases hm;intro u hu;cases hu
   ·cases hm
  split at hm
  ·rename_i hc;obtain⟨_,a2,_,_⟩:=jN h hv hc.1;exact aEk h ps (fun u hu=>a2.vals hu) hm
  ·cases hm
theorem aEk (h:bP p w0 S w): ∀(ps:List Pat) {vs l:List aG},(∀v∈vs,VOk p S w v)->fW w ps vs=some l-> ∀u∈l,VOk p S w u
 |[],vs,l,hv,hm=>by
  simp only[fW,bXa]at hm;subst hm;intro u hu;cases hu
 |q::ps,[],l,hv,hm=>by
  simp only[fW,bXa]at hm;subst hm;intro u hu;cases hu
 |q::ps,v::vs,l,hv,hm=>by
  simp only[fW]at hm
  split at hm
  ·cases hm
  rename_i l1 h1
  split at hm
  ·cases hm
  rename_i l2 h2;simp only[bXa]at hm;subst hm;intro u hu;rcases bX1.1 hu with hu|hu
  ·exact aHd h q (hv v (by simp)) h1 u hu
  ·exact aEk h ps (fun u hu=>hv u (by simp[hu])) h2 u hu
end
theorem aB4 (h:bP p w0 S w)(ha:inR a 0 ((w.tasks.length:Int)-1)=true)(hl:LOk p S w left){kids:List Int}(hk: ∀k∈kids,inR k 0 ((p.nodes.length:Int)-1)=true){env:List aG}(he: ∀v∈env,VOk p S w v){u:aG}(hu:VOk p S w u):
  ∀(l:List Pat) (i:Nat),1+i+l.length<=kids.length->bP p w0 S (mF w a left kids env u i l).w
 |[],i,_=>cN h ha (by simp)
 |q::qs,i,hi=>by
  unfold mF;simp only[bXu]at hi;split
  ·rename_i l hm
   refine qR h ha hl (hk _ (lR (by omega))) fun v hv=>?_
   rcases bX1.1 hv with hv|hv
   ·exact he v hv
   ·exact aHd h q hu hm v hv
  ·exact aB4 h ha hl hk he hu qs (i+1) (by omega)
theorem aOm {left:List aC}: ∀{m k:Nat},qN p left m=k+1->k<m/\ (p.node (left.getD k default).node).op=26
 |0,k,h=>by simp[qN]at h
 |m+1,k,h=>by
  unfold qN at h
  split at h
  ·rename_i hc;have:m=k:=by omega
   subst this;exact⟨by omega,hc⟩
  ·obtain⟨a,b⟩:=aOm h;exact⟨by omega,b⟩
theorem bAv {l:List aC}(h:LOk p S w l)(h0:0<l.length)(hr:(p.node (l.headD default).node).op=26):OOk p S w ⟨5,0,[],l⟩:=by
 refine⟨?_,fun u hu=>?_⟩
 ·rw[dN,if_neg (by simp),if_pos rfl]
  simp only[bXb,cAg,bXo];exact⟨⟨⟨⟨⟨by simp,by simp⟩,by omega⟩,h.frames⟩,h.opn⟩,hr⟩
 ·simp only[jG,bYw,bYk]at hu;obtain⟨f,hf,hu⟩:=hu;exact(h.ok f hf).ref u hu
theorem aXb {node:Int}{env:List aG}:(fH w a left node env).what=1->(fH w a left node env).e.n=4:=by
 unfold fH;split
 ·intro _;rfl
 ·intro h;cases h
theorem aLk (h:bP p w0 S w)(ha:inR a 0 ((w.tasks.length:Int)-1)=true)(hl:LOk p S w left){kid:Int}(hk:inR kid 0 ((p.nodes.length:Int)-1)=true){env:List aG}(he: ∀v∈env,VOk p S w v):bP p w0 S (eN p w a left kid env).w:=by
 unfold eN;split
 ·exact cN h ha (by simp)
 ·rename_i k hr;obtain⟨hkl,hop⟩:=aOm hr;split
  ·exact cN h ha (by simp)
  ·rename_i hc
   simp only
   split
   ·rename_i hw;rw[aXb hw];exact cN h ha (by simp)
   ·have hld:=hl.len;have hd:LOk p S w (left.drop k):=hl.sub (fun f hf=>List.mem_of_mem_drop hf) (by simp only[bZi];omega)
    have hh:(p.node ((left.drop k).headD default).node).op=26:=by
     rw[bXm]at hop;rw[List.headD_eq_head?_getD,List.head?_drop];exact hop
    have hF:=h.add (o:=⟨5,0,[],left.drop k⟩) (by omega) (bAv hd (by simp only[bZi];omega) hh) (by simp)
    have hle:w.objs.length<=(iD w ⟨5,0,[],left.drop k⟩).objs.length:=by rw[kX];omega
    refine qR hF ha ((hl.sub (fun f hf=>bZt hf) (by simp only[bZc];omega)).le hle) hk fun v hv=>?_
    rcases bX1.1 hv with hv|hv
    ·exact(he v hv).le hle
    ·simp only[bYi]at hv;subst hv;exact aLh h
theorem aLl (hp:cJ p)(h:bP p w0 S w)(ha:inR a 0 ((w.tasks.length:Int)-1)=true)(hl:LOk p S w left){f:aG}(hf:VOk p S w f):bP p w0 S (dY p w a left f).w:=by
 unfold dY;split
 ·rename_i h5;obtain⟨_,a2,a3,_⟩:=jN h hf h5;exact aJm h ha hl (aOl (aDd a2 a3) oN) rfl
 ·split
  ·exact cN h ha (by simp)
  ·rename_i b hb;obtain⟨b1,b2,b3⟩:=aAq hp h hf oN hb;split
   ·exact cN h ha (by simp)
   ·have e:b=⟨b.node,b.env,[]⟩:=by rw[<-b3]
    have h0:LOk p S w []:=⟨by simp,by simp,by simp⟩
    have:=aHc h0 (by simp) (aU8 b1 b2 (by omega))
    rw[<-e]at this;exact aJm h ha hl this rfl
theorem cQ {l:List aG}{i:Nat}(h:i<l.length):aZ l i∈l:=lR h
theorem aOn {v:aG}(hv:VOk p S w v):OOk p S w ⟨3,0,[v],[]⟩:=by
 refine⟨?_,fun u hu=>?_⟩
 ·simp[dN,aR,hv.ok]
 ·simp only[jG,bZw,bYx,bYi]at hu;subst hu;exact hv.ref
theorem aHe {l:List aG}(hl:l.length<=4)(hv: ∀v∈l,VOk p S w v):OOk p S w ⟨4,0,l,[]⟩:=by
 refine⟨?_,fun u hu=>?_⟩
 ·simp only[dN,aR,bXb,bXo];simp;exact⟨by omega,fun v h=>(hv v h).ok⟩
 ·simp only[jG,bZw,bYx]at hu;exact(hv u hu).ref
theorem aOo (h:bP p w0 S w)(ha:inR a 0 ((w.tasks.length:Int)-1)=true)(hl:LOk p S w left){op:Int}{l:List aG}(hv: ∀v∈l,VOk p S w v)(h0:0<l.length)(h1: ¬op=16-> ¬op=17->1<l.length):bP p w0 S (eP w a left op l).w:=by
 unfold eP;have hv0:=hv _ (cQ h0);split
 ·rw[oO];exact yQ h ha hl (aOn hv0) (by simp)
 rename_i n16;split
 ·rename_i h3;obtain⟨a1,a2,a3,_⟩:=jN h hv0 h3;split
  ·rw[oO];have hk:=a2.ok;simp only[dN,a3]at hk
   simp at hk
   exact dT h ha hl (a2.vals (cQ (by omega)))
  ·rename_i n17;rw[oO];have hF:=h.set a1 (aOn (hv _ (cQ (h1 n16 n17)))) a3.symm;exact dT hF ha (hl.le (by rw[oM];exact bXd _)) oN
 ·exact cN h ha (by simp)
theorem aHf (h:bP p w0 S w)(ha:inR a 0 ((w.tasks.length:Int)-1)=true)(hl:LOk p S w left){op:Int}{l:List aG}(hv: ∀v∈l,VOk p S w v)(h0:0<l.length)(h1:op=22->1<l.length):bP p w0 S (cC w a left op l).w:=by
 unfold cC;have hv0:=hv _ (cQ h0);split
 ·rename_i h3;obtain⟨a1,a2,a3,_⟩:=jN h hv0 h3;have hk:=a2.ok;simp only[dN,a3]at hk;simp[aR]at hk;split
  ·rename_i h22;split
   ·exact h
   ·rw[oO];have hF:=h.set a1 (aHe (l:=(w.obj (aZ l 0).n).vals++[aZ l 1]) (by simp only[bX8,bXu,bYb];omega) fun v hv'=>by
     rcases bX1.1 hv' with hv'|hv'
     ·exact a2.vals hv'
     ·simp only[bYi]at hv';subst hv';exact hv _ (cQ (h1 h22))) a3.symm
    exact dT hF ha (hl.le (by rw[oM];exact bXd _)) oN
  ·split
   ·exact h
   ·rename_i hne;rw[oO];have hF:=h.set a1 (aHe (l:=(w.obj (aZ l 0).n).vals.drop 1) (by simp only[bZi];omega) fun v hv'=>a2.vals (List.mem_of_mem_drop hv')) a3.symm
    exact dT hF ha (hl.le (by rw[oM];exact bXd _)) ((a2.vals (cQ (by omega))).le (by rw[oM];exact bXd _))
 ·exact cN h ha (by simp)
theorem aOp (h:bP p w0 S w)(ha:inR a 0 ((w.tasks.length:Int)-1)=true)(hl:LOk p S w left){v:aG}(hv:VOk p S w v):bP p w0 S (eX w a left v).w:=by
 unfold eX;split
 ·rename_i h6;obtain⟨a1,a2,a3,_⟩:=jN h hv h6;have hk:=a2.ok;rw[dN,if_pos a3,iH]at hk;split
  ·exact h
  rename_i n0;rw[if_neg n0]at hk;split
  ·rename_i n1;rw[if_neg n1]at hk
   split at hk
   ·rename_i hst;exact cN h ha hst
   ·cases hk
  ·rename_i n1;rw[if_pos (Decidable.not_not.1 n1)]at hk;simp only[bXb,cAg]at hk;rw[oO];exact dT h ha hl (a2.vals (cQ (by omega)))
 ·exact cN h ha (by simp)
theorem aLm (h:bP p w0 S w)(ha:inR a 0 ((w.tasks.length:Int)-1)=true)(hl:LOk p S w left){op port:Int}{l:List aG}(hv: ¬op=25->0<l.length/\ inR port 0 3=true)(hv': ∀v∈l,VOk p S w v):bP p w0 S (cY w a left op port l).w:=by
 obtain⟨a1,a2,a3,a4,a5,a6,a7⟩:=eY.1 h.ok;unfold cY;split
 ·split
  ·exact h
  ·rename_i x xs hi;split
   ·exact cN h ha (by simp)
   ·rename_i hu;rw[oO];simp only[mN,hi,bXu,bXe,bXb,cAg]at a3;simp only[inR,cAg]at a4;have hF:=h.io (outs:=w.outs) (ins:=xs) (used:=w.used+1) a2 a7 (by simp only[mN,bXb,cAg];exact⟨by omega,a3.2.2⟩) (by simp only[inR,cAg];omega)
    exact dT hF ha (hl.le (bXd _)) (aLg a3.2.1)
 ·rename_i hop;obtain⟨h0,hport⟩:=hv hop;split
  ·exact cN h ha (by simp)
  ·rename_i hk;split
   ·exact cN h ha (by simp)
   ·rw[oO];have h1:=(hv' _ (cQ h0)).ok;rw[cO,if_pos (Decidable.not_not.1 hk)]at h1;have hF:=h.io (outs:=w.outs++[⟨port,(aZ l 0).n⟩]) (ins:=w.ins) (used:=w.used) (by simp only[bX8,bXu,bYb];omega) (fun o ho=>by
     rcases bX1.1 ho with ho|ho
     ·exact a7 o ho
     ·simp only[bYi]at ho;subst ho;simp only[rX,hport,h1,Bool.and_self]) a3 a4
    exact dT hF ha (hl.le (bXd _)) oN
theorem aXc (hp:cJ p)(h:bP p w0 S w)(ha:inR a 0 ((w.tasks.length:Int)-1)=true)(hl:LOk p S w left){f:aC}(hf:FOk p S w f)(hfull:(f.vals.length:Int)=(p.node f.node).asks):bP p w0 S (rM p w a left f).w:=by
 have hni:inR f.node 0 ((p.nodes.length:Int)-1)=true:=by
  have:=hf.ok;simp only[bG,bXb]at this;exact this.1.1
 have hok:=hp.nodes _ (bV hni);have hkd:=bS hok;have hnum:nN p (p.node f.node)=true:=by simp only[eG,bXb]at hok;exact hok.1.1.1
 have hv: ∀v∈f.vals,VOk p S w v:=fun v hv=>hf.vals hv
 unfold rM;generalize hn:p.node f.node=n at*;have ik: ∀k:Int,0<=k->k<n.kids.length->inR (vD n k) 0 ((p.nodes.length:Int)-1)=true:=fun k h1 h2=>by
  rw[<-hn]at h2⊢;exact aQv hp hni h1 h2
 unfold aD
 by_cases e:n.op=1
 ·rw[if_pos e];rw[nN,if_pos e]at hnum;exact dT h ha hl (aLg hnum)
 rw[if_neg e]
 by_cases e:n.op=2
 ·rw[if_pos e];exact dT h ha hl aHb
 rw[if_neg e]
 by_cases e:n.op=3
 ·rw[if_pos e];exact dT h ha hl oN
 rw[if_neg e]
 by_cases e:n.op=4
 ·rw[if_pos e];simp only[nN,e]at hnum;simp[inR]at hnum;split
  ·refine dT h ha hl ⟨?_,fun h=>by cases h⟩
   simp only[cO,inR];simp;omega
  ·split
   ·exact cN h ha (by simp)
   ·exact dT h ha hl (hf.env (cQ (by omega)))
 rw[if_neg e]
 by_cases e:n.op=5
 ·rw[if_pos e]
  refine yQ h ha hl ⟨?_,fun u hu=>?_⟩ (by simp)
  ·have:=hf.ok;simp only[bG,bXb]at this;simp only[dN,hn,e,this.1.1,this.1.2];simp
  ·simp only[jG,bZw,bYx]at hu;exact(hf.env hu).ref
 rw[if_neg e]
 by_cases e:n.op=6
 ·rw[if_pos e];have:n.asks=2:=by simp[aK.asks,e]
  exact aLi hp h ha hl (hv _ (cQ (by omega))) (hv _ (cQ (by omega)))
 rw[if_neg e]
 by_cases e:n.op=7
 ·rw[if_pos e];have h1:n.asks=1:=by simp[aK.asks,e]
  refine qR h ha hl (ik 1 (by decide) ?_) fun v hv'=>?_
  ·rw[hkd];simp[fX,e]
  ·rcases bX1.1 hv' with hv'|hv'
   ·exact hf.env hv'
   ·simp only[bYi]at hv';subst hv';exact hv _ (cQ (by omega))
 rw[if_neg e]
 by_cases e:n.op=8
 ·rw[if_pos e];have h1:n.asks=1:=by simp[aK.asks,e]
  split
  ·exact cN h ha (by simp)
  ·rename_i hk;have h2:=(hv _ (cQ (i:=0) (by omega))).ok
   simp only[cO,Decidable.not_not.1 hk]at h2;simp[inR]at h2
   refine qR h ha hl (ik _ (by omega) ?_) fun v hv'=>hf.env hv'
   have:(n.kids.length:Int)=3:=by rw[hkd];simp[fX,e]
   omega
 rw[if_neg e]
 by_cases e:n.op=9 \/n.op=10 \/n.op=11 \/n.op=12 \/n.op=13
 ·rw[if_pos e];exact aLj h ha hl
 rw[if_neg e]
 by_cases e:n.op=14
 ·rw[if_pos e];have h1:n.asks=n.kids.length:=by simp[aK.asks,e]
  simp only[nN,e]at hnum
  simp at hnum
  have h2:(n.kids.length:Int)=(p.cons.getD n.n.toNat default).args:=by rw[hkd];simp[fX,oZ,e,hnum]
  have h3:inR (p.cons.getD n.n.toNat default).args 0 3=true:=hp.cons _ (lR (by simp only[inR,cAg]at hnum;omega))
  simp only[inR,cAg]at h3
  refine yQ h ha hl ⟨?_,fun u hu=>?_⟩ (by simp)
  ·rw[dN,if_neg (by simp),if_neg (by simp),if_neg (by simp),if_pos rfl]
   simp only[bXb,cAg,aR,bXo];exact⟨⟨hnum,by omega⟩,by omega,fun v h'=>(hv v h').ok⟩
  ·simp only[jG,bZw,bYx]at hu;exact(hv u hu).ref
 rw[if_neg e]
 by_cases e:n.op=15
 ·rw[if_pos e];have h1:n.asks=1:=by simp[aK.asks,e]
  have h2:(n.kids.length:Int)=1+n.pats.length:=by rw[hkd];simp[fX,e]
  refine aB4 h ha hl (fun k hk=>?_) (fun v hv'=>hf.env hv') (hv _ (cQ (by omega))) n.pats 0 (by omega)
  rw[<-hn]at hk;exact hp.kids _ (bV hni) k hk
 rw[if_neg e]
 by_cases e:n.op=26
 ·rw[if_pos e];have h1:n.asks=1:=by simp[aK.asks,e]
  exact dT h ha hl (hv _ (cQ (by omega)))
 rw[if_neg e]
 by_cases e:n.op=27
 ·rw[if_pos e]
  refine aLk h ha hl (ik 0 (by decide) ?_) fun v hv'=>hf.env hv'
  rw[hkd];simp[fX,e]
 rw[if_neg e]
 by_cases e:n.op=16 \/n.op=17 \/n.op=18
 ·rw[if_pos e]
  refine aOo h ha hl hv ?_ ?_
  ·have:1<=n.asks:=by rcases e with e|e|e<;>simp[aK.asks,e]
   omega
  ·intro h1 h2;have e:n.op=18:=by omega
   have:n.asks=2:=by simp[aK.asks,e]
   omega
 rw[if_neg e]
 by_cases e:n.op=19
 ·rw[if_pos e];have h1:n.asks=1:=by simp[aK.asks,e]
  exact aLl hp h ha hl (hv _ (cQ (by omega)))
 rw[if_neg e]
 by_cases e:n.op=20
 ·rw[if_pos e];have h1:n.asks=1:=by simp[aK.asks,e]
  exact aOp h ha hl (hv _ (cQ (by omega)))
 rw[if_neg e]
 by_cases e:n.op=21
 ·rw[if_pos e];rw[oO];exact yQ h ha hl (aHe (by simp) (by simp)) (by decide)
 rw[if_neg e]
 by_cases e:n.op=22 \/n.op=23
 ·rw[if_pos e]
  refine aHf h ha hl hv ?_ ?_
  ·have:1<=n.asks:=by rcases e with e|e<;>simp[aK.asks,e]
   omega
  ·intro e;have:n.asks=2:=by simp[aK.asks,e]
   omega
 rw[if_neg e]
 by_cases e:n.op=24 \/n.op=25
 ·rw[if_pos e]
  refine aLm h ha hl (fun h25=>?_) hv
  have e:n.op=24:=by omega
  have h1:n.asks=1:=by simp[aK.asks,e]
  simp only[nN,e]at hnum
  simp at hnum
  exact⟨by omega,hnum⟩
 rw[if_neg e];rw[oO];exact dT h ha hl oN
theorem aEl {o:aI}(h0:0<o.frames.length):o.frames=o.frames.take (o.frames.length-1)++[o.frames.getD (o.frames.length-1) oJ]:=by
 have h:o.frames.length-1<o.frames.length:=by omega
 simp only[bXm,bYs h,bX3];rw[List.take_append_getElem h];rw[bXs (by omega)]
theorem tV (hp:cJ p)(h:bP p w0 S w)(ha:inR a 0 ((w.tasks.length:Int)-1)=true):bP p w0 S (eC p w a).w:=by
 obtain⟨h1,h2,h3⟩:=h.task ha;have hO:=h.obj h1 h3;unfold eC
 simp only
 generalize ho:w.obj (jA w a)=o at hO h2⊢;have hk:=hO.ok;rw[dN,if_pos h2,iH]at hk;split
 ·exact h
 rename_i n0;rw[if_pos (Decidable.not_not.1 n0)]at hk;simp only[bK,bXb,cAg,bXo,aR]at hk;obtain⟨⟨⟨⟨k1,k2⟩,k3,k4⟩,k5⟩,k6⟩:=hk;have hF: ∀f∈o.frames,FOk p S w f:=fun f hf=>hO.frames hf
 split
 ·rename_i hv1;have hv:VOk p S w (aZ o.vals 0):=hO.vals (cQ (by omega))
  split
  ·exact h.set h1 (bAu hv) (by rw[ho,h2])
  ·rename_i hf0;rw[bXs (by omega)]at k6
   refine h.set h1 ?_ (by rw[ho,h2])
   have hm:o.frames.getD (o.frames.length-1) oJ∈o.frames:=lR (by omega)
   have hl:LOk p S w (o.frames.take (o.frames.length-1)):=⟨by simp only[bZc];omega,fun f hf=>hF f (bZt hf),fun f hf=>k6 f (bZt hf)⟩
   have e:aOh o.frames (aZ o.vals 0)=o.frames.take (o.frames.length-1)++[⟨(o.frames.getD (o.frames.length-1) oJ).node,(o.frames.getD (o.frames.length-1) oJ).env,(o.frames.getD (o.frames.length-1) oJ).vals++[aZ o.vals 0]⟩]:=by
    unfold aOh;generalize hx:(⟨(o.frames.getD (o.frames.length-1) oJ).node,(o.frames.getD (o.frames.length-1) oJ).env,(o.frames.getD (o.frames.length-1) oJ).vals++[aZ o.vals 0]⟩:aC)=x;have:=aEl (o:=o) (by omega)
    generalize o.frames.getD (o.frames.length-1) oJ=y at this;have hlen:(o.frames.take (o.frames.length-1)).length=o.frames.length-1:=by simp only[bZc];omega
    conv=>lhs;rw[this]
    rw[List.set_append_right _ _ (by simp only[bX8,bXu,bYb,hlen];omega)]
    simp only[bX8,bXu,bYb,hlen];simp
   rw[e]
   refine aHc hl (by simp only[bZc];omega) ⟨?_,fun v hv'=>?_⟩
   ·have a1:=(hF _ hm).ok;have a2:=k6 _ hm;simp only[cS,cAg]at a2;simp only[bG,aR,bXb,cAg,bXo]at a1⊢
    refine⟨a1.1,by simp only[bX8,bXu,bYb];omega,fun v hv'=>?_⟩
    rcases bX1.1 hv' with hv'|hv'
    ·exact a1.2.2 v hv'
    ·simp only[bYi]at hv';subst hv';exact hv.ok
   ·simp only at hv'
    rw[<-List.append_assoc]at hv';rcases bX1.1 hv' with hv'|hv'
    ·exact(hF _ hm).ref v hv'
    ·simp only[bYi]at hv';subst hv';exact hv.ref
 ·rename_i hv1;have hz:o.vals.length=0:=by omega
  have hf0:0<o.frames.length:=by omega
  have hm:o.frames.getD (o.frames.length-1) oJ∈o.frames:=lR (by omega)
  have hl:LOk p S w (o.frames.take (o.frames.length-1)):=⟨by simp only[bZc];omega,fun f hf=>hF f (bZt hf),fun f hf=>k6 f (by rw[hz,bY2];exact hf)⟩
  have hfo:=hF _ hm;have hni:inR (o.frames.getD (o.frames.length-1) oJ).node 0 ((p.nodes.length:Int)-1)=true:=by
   have:=hfo.ok;simp only[bG,bXb]at this;exact this.1.1
  split
  ·rename_i hop;have hL:LOk p S w o.frames:=by
    refine⟨by omega,hF,fun f hf=>?_⟩
    rw[aEl hf0]at hf;rcases bX1.1 hf with hf|hf
    ·exact hl.opn f hf
    ·simp only[bYi]at hf;subst hf;simpa[cS]using hop
   refine qR h ha hL (aQv hp hni (by omega) ?_) fun v hv=>hfo.env hv
   have:=aJn (hp.nodes _ (bV hni));omega
  ·rename_i hop
   refine aXc hp h ha hl hfo ?_
   have:=hfo.ok;simp only[bG,aR,bXb,cAg]at this;omega
theorem aHg (h:eV p w0=true)(hs: ∀i:Nat,i<w0.objs.length->S i-> ∀v∈jG (w0.obj i),v.kind=5->S v.n.toNat)(ht: ∀t∈w0.tasks,S t.toNat)(hn: ∀i,w0.objs.length<=i->S i):bP p w0 S w0:=by
 simp only[eV,bXb]at h;exact⟨h.2,bXd _,fun _ _=>rfl,List.prefix_refl _,hs,ht,hn⟩
end Go.Proofs.YthpmfghgoabnhaaGreat
namespace Go.Proofs.YthpmfghgoabnhaaGreat
open Go.Abs Go.Proofs
theorem aB5 {p:aP}{w0 w:aB}{S:Nat->Prop}(h:bP p w0 S w):fV w0 w=true:=by
 simp only[fV,bXb,cAg,sF,bXo,bYz];exact⟨⟨⟨h.le,h.pre.length_le⟩,(List.prefix_iff_eq_take.1 h.pre)⟩,fun i hi=>(h.form i hi).symm⟩
theorem aXd {o:aI}{v:aG}(hv:v∈jG o)(h5:v.kind=5):v.n∈dG o:=by
 have hr:jK v=true:=decide_eq_true h5;unfold jG at hv;unfold dG;rcases bX1.1 hv with hv|hv
 ·exact bYo _ (nQ hv hr)
 ·obtain⟨f,hf,hv⟩:=bYk.1 hv
  refine bYl _ (bYk.2 ⟨f,hf,?_⟩)
  unfold cX;rcases bX1.1 hv with hv|hv
  ·exact bYo _ (nQ hv hr)
  ·exact bYl _ (nQ hv hr)
theorem aXe {o:aI}{x:Int}(hx:x∈dG o): ∃v∈jG o,v.kind=5/\ v.n=x:=by
 have key: ∀{l:List aG},x∈cP l-> ∃v∈l,v.kind=5/\ v.n=x:=by
  intro l h;obtain⟨v,hv,rfl⟩:=bXy.1 h;obtain⟨h1,h2⟩:=bY0.1 hv;exact⟨v,h1,of_decide_eq_true h2,rfl⟩
 unfold dG at hx;unfold jG;rcases bX1.1 hx with hx|hx
 ·obtain⟨v,h1,h2⟩:=key hx;exact⟨v,bYo _ h1,h2⟩
 ·obtain⟨f,hf,hx⟩:=bYk.1 hx;unfold cX at hx;rcases bX1.1 hx with hx|hx
  ·obtain⟨v,h1,h2⟩:=key hx;exact⟨v,bYl _ (bYk.2 ⟨f,hf,bYo _ h1⟩),h2⟩
  ·obtain⟨v,h1,h2⟩:=key hx;exact⟨v,bYl _ (bYk.2 ⟨f,hf,bYl _ h1⟩),h2⟩
theorem bAw {p:aP}{w:aB}(h:eV p w=true):bP p w (fun _=>True) w:=aHg h (fun _ _ _ _ _ _=>trivial) (fun _ _=>trivial) (fun _ _=>trivial)
def Now (w:aB)(i:Nat):Prop:=mQ w i \/w.objs.length<=i
theorem bAx {p:aP}{w:aB}(h:eV p w=true):bP p w (Now w) w:=by
 refine aHg h (fun i hi hs v hv h5=>?_) (fun t ht=>?_) (fun i hi=> .inr hi)
 ·rcases hs with hs|hs
  ·exact .inl (.ref hs (aXd hv h5))
  ·omega
 ·obtain⟨i,rfl,h1,h2⟩:=(sH h).1 t ht;rw[bXx];exact .inl (.task h1 h2)
def aQw (S:Nat->Prop)(m:List Int):Prop:= ∀j,j<m.length-> ¬bQ m j=0->S j
theorem aXf {p:aP}{w0 w:aB}{S:Nat->Prop}(hF:bP p w0 S w){m:List Int}(hl:m.length=w.objs.length)(ht:aQw S m){n:Nat}(hn:n<m.length)(h1:bQ m n=1):aQw S (eH w m n):=by
 intro j hj hne;unfold eH at hne hj;rw[fL]at hj;rw[kI hj]at hne;have hsn:=ht n hn (by rw[h1];decide)
 split at hne
 ·rename_i h;rw[h];exact hsn
 ·split at hne
  ·rename_i h;have hm:=aBu.1 h.2;obtain⟨v,hv,h5,he⟩:=aXe hm;have:=hF.shut n (by omega) hsn v hv h5
   rw[he,bXx]at this;exact this
  ·exact ht j hj hne
theorem aHh {p:aP}{w0 w:aB}{S:Nat->Prop}(hF:bP p w0 S w): ∀(k:Nat) {m:List Int},m.length=w.objs.length->aQw S m->aQw S (cU w k m)
 |0,_,_,h=>h
 |k+1,m,hl,h=>by
  rw[cU];split
  ·rename_i hg;exact aHh hF k (by rw[eH,fL];exact hl) (aXf hF hl h hg ((lM m).2.2 hg))
  ·exact h
theorem aOq {p:aP}{s:aX}{w0 w:aB}{S:Nat->Prop}(hm:s.marks.length=s.world.objs.length)(h:aQw S s.marks)(hF:bP p w0 S w)(h0:w0.objs.length<=s.world.objs.length):aQw S (cK s w).marks:=by
 intro j hj hne;have hj:j<w.objs.length:=by simpa[cK,pD]using hj
 have hne: ¬iF s w j=0:=fun e=>hne ((nR hj).trans e)
 unfold iF at hne
 split at hne
 ·rename_i hl
  refine h j hl fun e=>hne ?_
  rw[if_neg,gY]
  ·exact e
  ·simp[qD,gY,e]
 ·rename_i hl;exact hF.new j (by omega)
theorem aIe {s:aX}{k:Nat}(hE:gJ s k=false):bI s k=⟨s.world,s.ages,cU s.world k s.marks,s.cycle⟩/\ dX (cU s.world k s.marks)<(cU s.world k s.marks).length:=by
 have hfg:dX (cU s.world k s.marks)<(cU s.world k s.marks).length:=by
  unfold gJ at hE
  simpa using hE
 exact⟨by rw[bI,if_pos hfg],hfg⟩
theorem aHi {s:aX}{k:Nat}(hE:gJ s k=true):bI s k=lP s (cU s.world k s.marks)/\ pF s k=kP (cU s.world k s.marks) s.world.objs.length:=by
 have hfg: ¬dX (cU s.world k s.marks)<(cU s.world k s.marks).length:=by
  unfold gJ at hE
  simpa using hE
 exact⟨by rw[bI,if_neg hfg],by rw[pF,if_neg hfg]⟩
theorem aOr {s:aX}{k:Nat}(hE:gJ s k=true)(hc:(bI s k).cycle=3): ∀j,j<(bI s k).world.objs.length-> ¬bQ (bI s k).marks j=0->bF ((bI s k).world.obj j)=true:=by
 intro j hj hne;have hS:=(aHi hE).1;have hmk:(bI s k).marks=gH lt2 (bI s k).world (bI s k).ages (bI s k).cycle:=by rw[hS];rfl
 rw[hmk,pG hj,dI]at hne
 split at hne
 ·assumption
 ·rw[hc]at hne
  simp at hne
structure aHj (p:aP) (w0:aB) (s:aX):Prop where
 few:s.few
 small:bO s=true
 ok:cE p s=true
 cyc:s.cycle=3
 fine:bP p w0 (Now w0) s.world
 only:aQw (Now w0) s.marks
theorem aQx {p:aP}{s:aX}{k:Nat}(hf:(bI s k).few)(hs:bO (bI s k)=true)(h:cE p (bI s k)=true)(hE:gJ s k=true)(hc:(bI s k).cycle=3):aHj p (bI s k).world (bI s k):=by
 obtain⟨hgv,hm,_,_,_,_⟩:=eB.1 h
 refine⟨hf,hs,h,hc,bAx hgv,fun j hj hne=>?_⟩
 have hl:=hm.len;exact .inl (.task (by omega) (aOr hE hc j (by omega) hne))
theorem aXg {p:aP}{w0 w:aB}{s:aX}(h:aHj p w0 s)(hF:bP p w0 (Now w0) w)(hF':bP p s.world (fun _=>True) w)(hfw:w.few)(hsw:aY w=true):aHj p w0 (cK s w):=by
 obtain⟨hgv,hm,_,_,_,_⟩:=eB.1 h.ok;have hgw:eV p w=true:=by
  simp only[eV,bXb]at hgv⊢;exact⟨hgv.1,hF.ok⟩
 exact⟨aG9 hfw,aB2 hsw,aB1 h.ok hgw (aB5 hF'),h.cyc,hF,aOq hm.len h.only hF h.fine.le⟩
theorem aHk {p:aP}{w0:aB}{s:aX}{k:Nat}(h:aHj p w0 s)(hE:gJ s k=false):aHj p w0 (bI s k)/\ eW (bI s k).marks+k<=eW s.marks:=by
 obtain⟨hgv,hm,_,_,_,_⟩:=eB.1 h.ok;have hfy:=vC (k:=k) h.few h.small h.ok;have hsy:=sJ (most:=k) h.ok h.small;have hty:=sI (most:=k) h.ok;obtain⟨hS,hfg⟩:=aIe hE
 refine⟨⟨hfy,hsy,hty,by rw[hS];exact h.cyc,by rw[hS];exact h.fine,by rw[hS];exact aHh h.fine k hm.len h.only⟩,by rw[hS];exact aDa k hfg⟩
theorem aXh {p:aP}{w0:aB}{s:aX}{k:Nat}(h:aHj p w0 s)(hE:gJ s k=true): ∀i:Nat,i<w0.objs.length-> ¬mQ w0 i->(i:Int)∈pF s k:=by
 intro i hi hr;obtain⟨_,hm,_,_,_,_⟩:=eB.1 h.ok;have hle:=h.fine.le;rw[(aHi hE).2,bAp]
 refine⟨i,rfl,by omega,?_⟩
 by_cases h0:bQ (cU s.world k s.marks) i=0
 ·exact h0
 ·have:=aHh h.fine k hm.len h.only i (by rw[aBw,hm.len];omega) h0
  rcases this with h1|h1
  ·exact absurd h1 hr
  ·omega
theorem aLn {s:aX}{w:aB}(hl:s.marks.length<=w.objs.length):eW (cK s w).marks<=eW s.marks+kO s w w.objs.length:=by
 have hlen:(cK s w).marks.length=w.objs.length:=by simp[cK,pD]
 have key: ∀n,n<=w.objs.length->((List.range n).map fun i=>if bQ (cK s w).marks i=2 then 0 else 1).sum<=((List.range (min n s.marks.length)).map fun i=>if bQ s.marks i=2 then 0 else 1).sum+kO s w n:=by
  intro n
  induction n with
  |zero=>intro _;exact bXl _
  |succ n ih=>
   intro hn;have ih:=ih (by omega)
   rw[sG];have hmk:bQ (cK s w).marks n=iF s w n:=nR (by omega)
   simp only[bY1,bXw,bYa,bXv,List.sum_append,List.sum_cons,List.sum_nil,hmk]
   by_cases hlt:n<s.marks.length
   ·rw[show min (n+1) s.marks.length=min n s.marks.length+1 by omega]
    simp only[bY1,bXw,bYa,bXv,List.sum_append,List.sum_cons,List.sum_nil];rw[show min n s.marks.length=n by omega]at ih⊢
    simp only[iF,aK5,if_pos hlt]
    by_cases hg:qD s w n=true
    ·simp only[hg,if_true];simp;omega
    ·simp only[hg,if_false,bXc];rw[gY];omega
   ·rw[show min (n+1) s.marks.length=min n s.marks.length by omega]
    simp only[iF,aK5,if_neg hlt];simp;omega
 have:=key w.objs.length (bXd _);rw[show min w.objs.length s.marks.length=s.marks.length by omega]at this
 unfold eW at*;rw[hlen];exact this
end Go.Proofs.YthpmfghgoabnhaaGreat
namespace Go.Proofs.YthpmfghgoabnhaaGreat
open Go.Abs Go.Proofs
section
variable {L :cV}{fr:Nat->Val}{en:En}{cnt:Nat->Nat->Nat}{Q:St->Prop}{l:List bH}{d g:Nat}{dst:Option Nat}{get:Opd->Val}
def aQy (d g:Nat)(en:En)(size:Nat)(x:Val)(s:Option (List Val×List R)):Option Res:=
 match s with
 |some (ys,rs)=>if cZ size ys=true then
   match x with
   | .cl xs=>if ys.isEmpty then some {v:= .cl xs,rs}else if xs.length+ys.length<=16777216/\ cZ size xs=true then
     some {v:= .bl ⟨0,d,g⟩ 0 (xs.length+ys.length),ws:=[.ent ⟨0,d,g⟩ (some (.blk size (xs++ys) (!xs.isEmpty)))],rs,bump:=true}else none
   | .bl k off len=>match en k with
    |some (.blk sz xs f)=>if(off+len=xs.length \/f=false/\ off+len<=xs.length)/\ len+ys.length<=16777216/\ sz=size then
      some {v:= .bl ⟨0,d,g⟩ 0 (len+ys.length),ws:=[.ent k none,.ent ⟨0,d,g⟩ (some (.blk size ((xs.take (off+len)).drop off++ys) f))],rs:= .val k:: .flag k::rs,bump:=true}else none
    |_=>none
   |_=>none
   else none
 |none=>none
theorem hH {x y:Opd}{size:Nat}:cT d g en get (.append size x y)=aQy d g en size (get x) (jP en (get y)):=(rfl)
theorem lV {size:Nat}{rs:List R}:aQy d g en size (.cl []) (some ([],rs))=some {v:= .cl [],rs}:=by simp[aQy,cZ]
theorem hZ {size:Nat}{ys:List Val}{rs:List R}(h0:ys.isEmpty=false)(h1:cZ size ys=true)(hl:ys.length<=16777216):
  aQy d g en size (.cl []) (some (ys,rs))=some {v:= .bl ⟨0,d,g⟩ 0 ys.length,ws:=[.ent ⟨0,d,g⟩ (some (.blk size ys false))],rs,bump:=true}:=by
 have hz:cZ size []=true:=rfl;simp[aQy,h1,h0,hl,hz]
def bAy (d g:Nat)(k:Key)(size n:Nat)(ys:List Val)(rs:List R)(e:Option Ent):Option Res:=
 match e with
 |some (.blk sz xs f)=>if(0+n=xs.length \/f=false/\ 0+n<=xs.length)/\ n+ys.length<=16777216/\ sz=size then
      some {v:= .bl ⟨0,d,g⟩ 0 (n+ys.length),ws:=[.ent k none,.ent ⟨0,d,g⟩ (some (.blk size ((xs.take (0+n)).drop 0++ys) f))],rs:= .val k:: .flag k::rs,bump:=true}else none
 |_=>none
theorem vF {size n:Nat}{k:Key}{ys:List Val}{rs:List R}(h1:cZ size ys=true):aQy d g en size (.bl k 0 n) (some (ys,rs))=bAy d g k size n ys rs (en k):=by
 simp only[aQy,h1,if_true];rfl
theorem mG {size n:Nat}{k:Key}{xs ys:List Val}{rs:List R}{f:Bool}(hn:n=xs.length)(hl:n+ys.length<=16777216):
  bAy d g k size n ys rs (some (.blk size xs f))=some {v:= .bl ⟨0,d,g⟩ 0 (n+ys.length),ws:=[.ent k none,.ent ⟨0,d,g⟩ (some (.blk size (xs++ys) f))],rs:= .val k:: .flag k::rs,bump:=true}:=by
 subst hn;simp[bAy,hl]
@[congr] theorem bGo {k:Key}{size n:Nat}{ys:List Val}{rs:List R}{e e':Option Ent}(h:e=e'):bAy d g k size n ys rs e=bAy d g k size n ys rs e':=by rw[h]
end
theorem aU9 (l:List aI):cZ 4 (l.map aI.enc)=true:=by cases l<;>rfl
theorem aEz (l:List Int):cZ 1 (l.map (.int .i64))=true:=by cases l<;>rfl
theorem aVa (l:List aN):cZ 2 (l.map aN.enc)=true:=by cases l<;>rfl
theorem aB6 (l:List aG):cZ 2 (l.map aG.enc)=true:=by cases l<;>rfl
theorem nV (l:List aC):cZ 3 (l.map aC.enc)=true:=by cases l<;>rfl
theorem aVb {a b:Int}:cZ 2 [.agg [.int .i64 a,.int .i64 b]]=true:=(rfl)
theorem fN {α:Type}{f:α->Val}{l:List α}:(l.map f).isEmpty=l.isEmpty:=by cases l<;>rfl
theorem aHl {α:Type}{l:List α}(h:0<l.length):l.isEmpty=false:=by cases l<;>simp at h⊢
theorem aDe (n:Int):PC L 103 [.int .i64 n] (.agg [.int .i64 (nH n).kind,.int .i64 (nH n).n]):=by
 refine aL bJb rfl rfl ?_
 simp only[go_sem,qC,qG,qW,aRo,nH]
theorem xT (n:Int):PC L 105 [.int .i64 n] (.agg [.int .i64 (tU n).kind,.int .i64 (tU n).n]):=by
 refine aL bJc rfl rfl ?_
 simp only[go_sem,qC,qG,qW,aRp,tU]
theorem iS :PC L 158 [] (.agg [.int .i64 eK.kind,.int .i64 eK.n]):=by
 refine aL bKc rfl rfl ?_
 simp only[go_sem,qC,qG,qW,aSo,eK]
theorem aB7 (b:Bool):PC L 157 [.bool b] (.agg [.int .i64 (rL b).kind,.int .i64 (rL b).n]):=by
 refine aL bKb rfl rfl ?_
 cases b<;>simp only[go_sem,qC,qG,qW,aSn,rL]
theorem aJo (v:aG):PC L 128 [.agg [.int .i64 v.kind,.int .i64 v.n]] (.agg [.int .i64 (aEj v).kind,.int .i64 (aEj v).n]):=by
 obtain⟨k,n⟩:=v
 refine aL bJt rfl rfl ?_
 by_cases h4:k=4
 ·subst h4;simp only[go_sem,qC,qG,qW,aIz,(aDe 0).ret,aEj,true_or,nH]
 ·have g4:decide (k=4)=false:=decide_eq_false h4
  by_cases h5:k=5
  ·subst h5;simp only[go_sem,qC,qG,qW,aIz,(aDe 0).ret,aEj,or_true,nH]
  ·have g5:decide (k=5)=false:=decide_eq_false h5;simp only[go_sem,qC,qG,qW,aIz,g4,g5,(aDe 0).ret,aEj,h4,h5,or_self]
theorem aB8 (l:List aG)(v:aG)(hl:l.length<1000000):PC L 129 [.fz (l.map aG.enc),.agg [.int .i64 v.kind,.int .i64 v.n]] (.fz ((l++[v]).map aG.enc)):=by
 have hlen:l.length+1<=16777216:=by omega
 have hl1:l.length<=16777216:=by omega
 refine aL bJu rfl rfl ?_
 simp only[go_sem,qC,qG,qW,aR7]
 refine aO ?_
 cases hl0:l.isEmpty with
 |true=>
  have:l=[]:=by simpa using hl0
  subst this;simp only[go_sem,qC,qG,qW,dB,hH,lV,hZ,List.isEmpty_cons,aVb,bXe,bXf,bXh,bXi,bXg,bXc,if_false]
 |false=>
  simp only[go_sem,qC,qG,qW,dB,hH,hZ,vF,fN,hl0,hl1,hlen,mG,aB6,aVb,bXj,bX8,bZz,bXd,bXs,bXw,bXe,bXf,bXh,bXi,bXg,bXc,if_false]
  trace_state
end Go.Proofs.YthpmfghgoabnhaaGreat
namespace Go.Proofs.YthpmfghgoabnhaaGreat
open Go.Abs Go.Proofs
structure bW9 (en:En) (cnt:Nat->Nat->Nat) (en':En) (cnt':Nat->Nat->Nat):Prop where
 old: ∀t g,g<cnt 0 t->en' ⟨0,t,g⟩=en ⟨0,t,g⟩
 up: ∀t,cnt 0 t<=cnt' 0 t
def tW (en:En)(cnt:Nat->Nat->Nat)(v:Val)(size:Nat)(xs:List Val)(t:Nat):Prop:=(v= .cl []/\ xs=[]) \/ ∃g,v= .bl ⟨0,t,g⟩ 0 xs.length/\ en ⟨0,t,g⟩=some (.blk size xs false)/\ g<cnt 0 t/\ xs.isEmpty=false
theorem hP {en:En}{cnt:Nat->Nat->Nat}{a ga t g:Nat}{e:Option Ent}(h:cnt 0 a<=ga)(hg:g<cnt 0 t):En.set en ⟨0,a,ga⟩ e ⟨0,t,g⟩=en ⟨0,t,g⟩:=by
 refine eE fun he=>?_
 injection he with h1 h2 h3
 subst h2;subst h3;omega
theorem mR {cnt c:Nat->Nat->Nat}{a ga:Nat}(h: ∀t,cnt 0 t<=c 0 t)(hg:ga=cnt 0 a): ∀t,cnt 0 t<=aQ c 0 a (ga+1) 0 t:=by
 intro t
 by_cases ht:t=a
 ·subst ht;rw[bFc];omega
 ·rw[bFd ht];exact h t
theorem tW.keep {en en':En}{cnt cnt':Nat->Nat->Nat}{v:Val}{size t:Nat}{xs:List Val}(h:tW en cnt v size xs t)(he: ∀g,g<cnt 0 t->en' ⟨0,t,g⟩=en ⟨0,t,g⟩)(hc:cnt 0 t<=cnt' 0 t):tW en' cnt' v size xs t:=by
 rcases h with h|⟨g,h1,h2,h3,h4⟩
 ·exact .inl h
 ·exact .inr ⟨g,h1,by rw[he g h3];exact h2,by omega,h4⟩
theorem aHm {en:En}{k:Key}{off len:Nat}:jP en (.bl k off len)=(match en k with
  |some (.blk _ xs _)=>if off+len<=xs.length then some ((xs.drop off).take len,[.val k])else none
  |_=>none):=(rfl)
def aB9 (en:En)(cnt:Nat->Nat->Nat)(w:aB)(vO vT vU vI:Val):Prop:=
 (vO= .fz (w.objs.map aI.enc)/\ vT= .fz (w.tasks.map (.int .i64))/\ vU= .fz (w.outs.map aN.enc)/\ vI= .fz (w.ins.map (.int .i64))) \/
 ∃gO gT,vO= .bl ⟨0,22,gO⟩ 0 w.objs.length/\ en ⟨0,22,gO⟩=some (.blk 4 (w.objs.map aI.enc) false)/\ gO<cnt 0 22/\ vT= .bl ⟨0,8,gT⟩ 0 w.tasks.length/\ en ⟨0,8,gT⟩=some (.blk 1 (w.tasks.map (.int .i64)) false)/\ gT<cnt 0 8/\
  tW en cnt vU 2 (w.outs.map aN.enc) 11/\ tW en cnt vI 1 (w.ins.map (.int .i64)) 14
theorem aB9.keep {en en':En}{cnt cnt':Nat->Nat->Nat}{w:aB}{vO vT vU vI:Val}(h:aB9 en cnt w vO vT vU vI)(he: ∀t g,g<cnt 0 t->en' ⟨0,t,g⟩=en ⟨0,t,g⟩)(hc: ∀t,cnt 0 t<=cnt' 0 t):aB9 en' cnt' w vO vT vU vI:=by
 rcases h with h|⟨gO,gT,h1,h2,h3,h4,h5,h6,h7,h8⟩
 ·exact .inl h
 ·exact .inr ⟨gO,gT,h1,by rw[he _ _ h3];exact h2,bYg h3 (hc _),h4,by rw[he _ _ h6];exact h5,bYg h6 (hc _),h7.keep (fun g hg=>he _ g hg) (hc _),h8.keep (fun g hg=>he _ g hg) (hc _)⟩
theorem xU (en:En)(cnt:Nat->Nat->Nat)(w:aB):aB9 en cnt w (.fz (w.objs.map aI.enc)) (.fz (w.tasks.map (.int .i64))) (.fz (w.outs.map aN.enc)) (.fz (w.ins.map (.int .i64))):= .inl ⟨rfl,rfl,rfl,rfl⟩
structure sK (en:En) (cnt:Nat->Nat->Nat) (w:aB) (tail:List Val) (v:Val) (en':En) (cnt':Nat->Nat->Nat):Prop where
 parts: ∃g5 g8 vU vI,v= .agg (.bl ⟨0,5,g5⟩ 0 w.objs.length:: .bl ⟨0,8,g8⟩ 0 w.tasks.length::vU::vI:: .int .i64 w.used::tail)/\
   en' ⟨0,5,g5⟩=some (.blk 4 (w.objs.map aI.enc) false)/\ cnt 0 5<=g5/\ g5<cnt' 0 5/\ en' ⟨0,8,g8⟩=some (.blk 1 (w.tasks.map (.int .i64)) false)/\ cnt 0 8<=g8/\ g8<cnt' 0 8/\ tW en' cnt' vU 2 (w.outs.map aN.enc) 11/\ tW en' cnt' vI 1 (w.ins.map (.int .i64)) 14
 old: ∀t g,g<cnt 0 t->en' ⟨0,t,g⟩=en ⟨0,t,g⟩
 up: ∀t,cnt 0 t<=cnt' 0 t
theorem aCa (w:aB)(h1:0<w.objs.length)(h2:0<w.tasks.length)(hl:w.objs.length<=130/\ w.tasks.length<=130/\ w.outs.length<=110/\ w.ins.length<=60){en:En}{cnt:Nat->Nat->Nat}{vO vT vU vI:Val}(hL:aB9 en cnt w vO vT vU vI):
  WIn L (.fn 154 [] []) [.agg [vO,vT,vU,vI,.int .i64 w.used]] en cnt fun v en' cnt'=>sK en cnt w [] v en' cnt':=by
 obtain⟨objs,tasks,outs,ins,used⟩:=w;dsimp only at h1 h2 hl;have hl1:objs.length<=16777216:=by omega
 have hl2:tasks.length<=16777216:=by omega
 have hl3:outs.length<=16777216:=by omega
 have hl4:ins.length<=16777216:=by omega
 have he1:objs.isEmpty=false:=aHl h1;have he2:tasks.isEmpty=false:=aHl h2;have tk1:((objs.map aI.enc).take objs.length)=objs.map aI.enc:=bXs (by simp)
 have tk2:((tasks.map (Val.int .i64)).take tasks.length)=tasks.map (.int .i64):=bXs (by simp)
 have tk3:((outs.map aN.enc).take outs.length)=outs.map aN.enc:=bXs (by simp)
 have tk4:((ins.map (Val.int .i64)).take ins.length)=ins.map (.int .i64):=bXs (by simp)
 obtain⟨g1,hg1⟩: ∃g,g=cnt 0 1:=⟨_,rfl⟩
 obtain⟨g2,hg2⟩: ∃g,g=cnt 0 2:=⟨_,rfl⟩
 obtain⟨g5,hg5⟩: ∃g,g=cnt 0 5:=⟨_,rfl⟩
 obtain⟨g8,hg8⟩: ∃g,g=cnt 0 8:=⟨_,rfl⟩
 obtain⟨g11,hg11⟩: ∃g,g=cnt 0 11:=⟨_,rfl⟩
 obtain⟨g14,hg14⟩: ∃g,g=cnt 0 14:=⟨_,rfl⟩
 have fin: ∀{vU vI:Val} {en':En} {cnt':Nat->Nat->Nat},en' ⟨0,5,g5⟩=some (.blk 4 (objs.map aI.enc) false)->g5<cnt' 0 5->en' ⟨0,8,g8⟩=some (.blk 1 (tasks.map (.int .i64)) false)->g8<cnt' 0 8->tW en' cnt' vU 2 (outs.map aN.enc) 11->tW en' cnt' vI 1 (ins.map (.int .i64)) 14->
   (∀t g,g<cnt 0 t->en' ⟨0,t,g⟩=en ⟨0,t,g⟩)->(∀t,cnt 0 t<=cnt' 0 t)->sK en cnt ⟨objs,tasks,outs,ins,used⟩ [] (.agg [.bl ⟨0,5,g5⟩ 0 objs.length,.bl ⟨0,8,g8⟩ 0 tasks.length,vU,vI,.int .i64 used]) en' cnt':=
  fun a1 a2 a3 a4 a5 a6 a7 a8=>⟨⟨g5,g8,_,_,rfl,a1,by omega,a2,a3,by omega,a4,a5,a6⟩,a7,a8⟩
 have old: ∀{t g:Nat},g<cnt 0 t-> ∀{e:En} {a ga:Nat} {x:Option Ent},ga=cnt 0 a->En.set e ⟨0,a,ga⟩ x ⟨0,t,g⟩=e ⟨0,t,g⟩:=fun hg _ _ _ _ h=>hP (bYn h.symm) hg
 refine mK bJ9 rfl rfl ?_
 rcases hL with⟨rfl,rfl,rfl,rfl⟩|⟨gO,gT,rfl,eO,lO,rfl,eT,lT,mU,mI⟩
 ·simp only[go_sem,qC,qG,qW,aM3,<-hg1,<-hg2]
  refine aO ?_
  cases hu:outs.isEmpty<;>cases hi:ins.isEmpty
  all_goals
   try(have hu':outs=[]:=(by simpa using hu);subst hu')
   try(have hi':ins=[]:=(by simpa using hi);subst hi')
   simp only[go_sem,qC,qG,qW,dB,hH,lV,hZ,fN,he1,he2,hu,hi,hl1,hl2,hl3,hl4,aU9,aEz,aVa,bXj,bXv,<-hg5,<-hg8,<-hg11,<-hg14,dC,bR,cW,bL,bXe,bXf,bXh,bXi,bXg,bXc,if_false]
   refine fin (by simp only[go_sem,qW]) (by simp[aQ]) (by simp only[go_sem,qW]) (by simp[aQ]) ?_ ?_ ?_ ?_
   ·first
     |exact .inl ⟨rfl,rfl⟩
     |exact .inr ⟨g11,by rw[bXj],by simp only[go_sem,qW],by simp[aQ],by rw[fN];exact hu⟩
   ·first
     |exact .inl ⟨rfl,rfl⟩
     |exact .inr ⟨g14,by rw[bXj],by simp only[go_sem,qW],by simp[aQ],by rw[fN];exact hi⟩
   ·intro t g hg;simp only[old hg hg1,old hg hg2,old hg hg5,old hg hg8,old hg hg11,old hg hg14]
   ·repeat' (refine mR ?_ (by assumption))
    exact fun _=>bXd _
 ·dsimp only at eO eT;have eU:=True.intro;have eI:=True.intro;rcases mU with⟨rfl,hu⟩|⟨gU,rfl,eU,lU,hu⟩<;>rcases mI with⟨rfl,hi⟩|⟨gI,rfl,eI,lI,hi⟩
  all_goals try dsimp only at eU
  all_goals try dsimp only at eI
  all_goals
   try(have hu':outs=[]:=(by simpa using hu);subst hu')
   try(have hi':ins=[]:=(by simpa using hi);subst hi')
   simp only[go_sem,qC,qG,qW,aM3,<-hg1,<-hg2,dC,bR,cW,bL]
   refine aO ?_
   try(have hu:=hu;rw[fN]at hu)
   try(have hi:=hi;rw[fN]at hi)
   simp only[go_sem,qC,qG,qW,dB,hH,aHm,lV,hZ,fN,he1,he2,hu,hi,hl1,hl2,hl3,hl4,tk1,tk2,tk3,tk4,aU9,aEz,aVa,bXj,bXv,bXd,<-hg5,<-hg8,<-hg11,<-hg14,eO,eT,eU,eI,dC,bR,cW,bL,bXe,bXf,bXh,bXi,bXg,bXc,if_false]
   refine fin (by simp only[go_sem,qW]) (by simp[aQ]) (by simp only[go_sem,qW]) (by simp[aQ]) ?_ ?_ ?_ ?_
   ·first
     |exact .inl ⟨rfl,rfl⟩
     |exact .inr ⟨g11,by rw[bXj],by simp only[go_sem,qW],by simp[aQ],by rw[fN];assumption⟩
   ·first
     |exact .inl ⟨rfl,rfl⟩
     |exact .inr ⟨g14,by rw[bXj],by simp only[go_sem,qW],by simp[aQ],by rw[fN];assumption⟩
   ·intro t g hg;simp only[old hg hg1,old hg hg2,old hg hg5,old hg hg8,old hg hg11,old hg hg14]
   ·repeat' (refine mR ?_ (by assumption))
    exact fun _=>bXd _
theorem tW.shape {en:En}{cnt:Nat->Nat->Nat}{v:Val}{size t:Nat}{xs:List Val}(h:tW en cnt v size xs t):v.one=true/\ v.cells=[v]:=by
 rcases h with⟨rfl,_⟩|⟨g,rfl,_⟩<;>exact⟨rfl,rfl⟩
structure zL (a x:Val):Prop where
 snap: ∀n en,snapD (n+1) en a=some (a,[])
 wk:a.wk0=x
 one:a.one=true
 cells:a.cells=[a]
theorem pV (xs:List Val):zL (.fz xs) (.fz xs):=⟨fun _ _=>rfl,rfl,rfl,rfl⟩
theorem aCb (xs:List Val):zL (.cl xs) (.fz xs):=⟨fun _ _=>rfl,rfl,rfl,rfl⟩
theorem aVc (w:aB)(j:Nat)(o:aI){a b:Val}(ha:zL a (.fz (o.vals.map aG.enc)))(hb:zL b (.fz (o.frames.map aC.enc)))(hj:j<w.objs.length)(ht:0<w.tasks.length)(hl:w.objs.length<=130/\ w.tasks.length<=130/\ w.outs.length<=110/\ w.ins.length<=60){en:En}{cnt:Nat->Nat->Nat}{vO vT vU vI:Val}(hL:aB9 en cnt w vO vT vU vI)
  (hs:(vO.one=true/\ vO.cells=[vO])/\ (vT.one=true/\ vT.cells=[vT])/\ (vU.one=true/\ vU.cells=[vU])/\ (vI.one=true/\ vI.cells=[vI])):
  WIn L (.fn 127 [] []) [.agg [vO,vT,vU,vI,.int .i64 w.used],.int .i64 j,.agg [.int .i64 o.form,.int .i64 o.n,a,b]] en cnt fun v en' cnt'=>sK en cnt (gK w j o) [] v en' cnt':=by
 obtain⟨g3,hg3⟩: ∃g,g=cnt 0 3:=⟨_,rfl⟩
 obtain⟨gA,hgA⟩: ∃g,g=cnt 0 5:=⟨_,rfl⟩
 obtain⟨g6,hg6⟩: ∃g,g=cnt 0 6:=⟨_,rfl⟩
 have hget:(w.objs.map aI.enc)[j]?=some (aI.enc w.objs[j]):=by simp[hj]
 have up0: ∀t,cnt 0 t<=aQ (aQ (aQ cnt 0 3 (g3+1)) 0 5 (gA+1)) 0 6 (g6+1) 0 t:=mR (mR (mR (fun _=>bXd _) hg3) hgA) hg6
 refine mK bEf rfl rfl ?_
 simp only[go_sem,qC,qG,qW,aR6,<-hg3,<-hgA,<-hg6]
 refine(aCa w (by omega) ht hl (hL.keep (fun t g hg=>?_) up0)).mono ?_
 ·rw[hP (bYn hg6.symm) hg,hP (bYn hgA.symm) hg,hP (bYn hg3.symm) hg]
 rintro v en' cnt' ⟨⟨g5,g8,vU',vI',rfl,e5,l5,m5,e8,l8,m8,mU,mI⟩,old,up⟩
 have e3:=old 3 g3 (by simp[aQ])
 have eA:=old 5 gA (by simp[aQ])
 have e6:=old 6 g6 (by simp[aQ])
 have l5':gA<g5:=by have:=l5;simp[aQ]at this;omega
 try simp only[go_sem,qW]at e3 eA e6
 simp only[go_sem,qC,qG,qW,e3,eA,e6,e5,hget,hj,ha.snap,hb.snap,ha.wk,hb.wk,cW,bL,bZ4,bXx]
 refine⟨⟨g5,g8,vU',vI',?_,?_,by omega,m5,?_,bYd (up0 8) l8,m8,?_,?_⟩,fun t g hg=>?_,fun t=>bYd (up0 t) (up t)⟩
 ·simp only[gK,bXx,bZu]
 ·simp only[go_sem,qW,gK,bYu,bXx]
 ·simp only[go_sem,qW,e8,gK]
 ·exact mU.keep (fun g _=>by simp only[go_sem,qW]) (bXd _)
 ·exact mI.keep (fun g _=>by simp only[go_sem,qW]) (bXd _)
 ·rw[hP (bYn hg6.symm) hg,hP (by omega) hg,hP (bYn hg3.symm) hg,old t g (bYg hg (up0 t)),hP (bYn hg6.symm) hg,hP (bYn hgA.symm) hg,hP (bYn hg3.symm) hg]
theorem aB9.shape {en:En}{cnt:Nat->Nat->Nat}{w:aB}{vO vT vU vI:Val}(h:aB9 en cnt w vO vT vU vI):
  (vO.one=true/\ vO.cells=[vO])/\ (vT.one=true/\ vT.cells=[vT])/\ (vU.one=true/\ vU.cells=[vU])/\ (vI.one=true/\ vI.cells=[vI]):=by
 rcases h with⟨rfl,rfl,rfl,rfl⟩|⟨gO,gT,rfl,_,_,rfl,_,_,mU,mI⟩
 ·exact⟨⟨rfl,rfl⟩,⟨rfl,rfl⟩,⟨rfl,rfl⟩,rfl,rfl⟩
 ·exact⟨⟨rfl,rfl⟩,⟨rfl,rfl⟩,mU.shape,mI.shape⟩
theorem aDf {f:Nat}{lf:aM}{args:List Val}{r:Val}(hL:L f=some lf)(hk:lf.keep=false)(hn:args.length=lf.np)(ha:aDk lf args=false)
  (h:WIn L (.fn f [] []) args (fun _=>none) (fun _ _=>0) fun v en' _=> ∃r' ks,snapD 8 en' v=some (r',ks)/\ r'.wk=r):PC L f args r:=by
 obtain⟨v,en',cnt',⟨n0,h0⟩,r',ks,h1,h2⟩:=h
 refine⟨n0,fun n hm=>?_⟩
 have hx:=h0 n hm (fun _=> .tup [])
 simp only[Inl.call,qE,pI,hL,bYw,bYx,hn,if_true,ha,bXc,if_false]at hx;simp only[pM,kC,hL,hn,if_true,ha,bXc,if_false,gR,Go.Abs.start]
 split at hx
 ·rename_i e st' he
  split at hx
  ·rename_i hend;simp only[hend,if_true];obtain⟨vs,hvs,heq⟩:=bXq.1 hx;simp only[bXk,St.mk.injEq]at heq;obtain⟨rfl,_,rfl,_⟩:=heq;simp only[aAs,hvs,hk,bXc,if_false,wH _ _ _ _ h1 8 (bXd _),h2]
  ·cases hx
 ·cases hx
theorem tW.snapB {en:En}{cnt:Nat->Nat->Nat}{v:Val}{size t:Nat}{xs:List Val}(h:tW en cnt v size xs t)(n:Nat): ∃r ks,snapD (n+1) en v=some (r,ks)/\ r.wk0= .fz xs:=by
 rcases h with⟨rfl,rfl⟩|⟨g,rfl,h2,_⟩
 ·exact⟨.cl [],[],rfl,rfl⟩
 ·exact⟨.fz xs,[⟨0,t,g⟩],by simp[snapD,h2],rfl⟩
theorem sK.snap {en en':En}{cnt cnt':Nat->Nat->Nat}{w:aB}{v:Val}(h:sK en cnt w [] v en' cnt'): ∃r ks,snapD 8 en' v=some (r,ks)/\ r.wk= .agg [.fz (w.objs.map aI.enc),.fz (w.tasks.map (.int .i64)),.fz (w.outs.map aN.enc),.fz (w.ins.map (.int .i64)),.int .i64 w.used]:=by
 obtain⟨⟨g5,g8,vU,vI,rfl,e5,_,_,e8,_,_,mU,mI⟩,_,_⟩:=h;obtain⟨r1,k1,s1,t1⟩:=mU.snapB 6;obtain⟨r2,k2,s2,t2⟩:=mI.snapB 6;have l1:(w.objs.map aI.enc).take w.objs.length=w.objs.map aI.enc:=bXs (by simp)
 have l2:(w.tasks.map (Val.int .i64)).take w.tasks.length=w.tasks.map (.int .i64):=bXs (by simp)
 refine⟨_,_,by simp only[go_sem,e5,e8,s1,s2,l1,l2,bXd];rfl,?_⟩
 simp only[go_sem,qW,t1,t2]
theorem sK.snapD {en en':En}{cnt cnt':Nat->Nat->Nat}{d:Did}{v:Val}(h:sK en cnt d.w [.int .i64 d.what,.int .i64 d.e.task,.int .i64 d.e.act,.int .i64 d.e.n,.int .i64 d.e.v.kind,.int .i64 d.e.v.n] v en' cnt'): ∃r ks,Go.Abs.snapD 8 en' v=some (r,ks)/\ r.wk= .agg [.fz (d.w.objs.map aI.enc),.fz (d.w.tasks.map (.int .i64)),.fz (d.w.outs.map aN.enc),.fz (d.w.ins.map (.int .i64)),.int .i64 d.w.used,.int .i64 d.what,.int .i64 d.e.task,.int .i64 d.e.act,.int .i64 d.e.n,.int .i64 d.e.v.kind,.int .i64 d.e.v.n]:=by
 obtain⟨⟨g5,g8,vU,vI,rfl,e5,_,_,e8,_,_,mU,mI⟩,_,_⟩:=h;obtain⟨r1,k1,s1,t1⟩:=mU.snapB 6;obtain⟨r2,k2,s2,t2⟩:=mI.snapB 6;have l1:(d.w.objs.map aI.enc).take d.w.objs.length=d.w.objs.map aI.enc:=bXs (by simp)
 have l2:(d.w.tasks.map (Val.int .i64)).take d.w.tasks.length=d.w.tasks.map (.int .i64):=bXs (by simp)
 refine⟨_,_,by simp only[go_sem,e5,e8,s1,s2,l1,l2,bXd];rfl,?_⟩
 simp only[go_sem,qW,t1,t2]
structure Fit (w:aB) (a:Int):Prop where
 len:w.objs.length<=130/\ w.tasks.length<=130/\ w.outs.length<=110/\ w.ins.length<=60
 at_:inR a 0 ((w.tasks.length:Int)-1)=true
 rng:inR (jA w a) 0 ((w.objs.length:Int)-1)=true
theorem aLo {w:aB}{a:Int}{en:En}(ha:inR a 0 ((w.tasks.length:Int)-1)=true):sP 1 en (.fz (w.tasks.map (.int .i64))) (.int .i64 a)=some {v:= .fp [.int .i64 (jA w a)] 0}:=sQ ha
theorem aHn (w:aB)(n:Int)(o:aI)(hn:inR n 0 ((w.objs.length:Int)-1)=true)(ht:0<w.tasks.length)(hl:w.objs.length<=130/\ w.tasks.length<=130/\ w.outs.length<=110/\ w.ins.length<=60):
  PC L 127 [.agg [.fz (w.objs.map aI.enc),.fz (w.tasks.map (.int .i64)),.fz (w.outs.map aN.enc),.fz (w.ins.map (.int .i64)),.int .i64 w.used],.int .i64 n,.agg [.int .i64 o.form,.int .i64 o.n,.fz (o.vals.map aG.enc),.fz (o.frames.map aC.enc)]] (.agg [.fz ((gK w n o).objs.map aI.enc),.fz ((gK w n o).tasks.map (.int .i64)),.fz ((gK w n o).outs.map aN.enc),.fz ((gK w n o).ins.map (.int .i64)),.int .i64 (gK w n o).used]):=by
 simp only[inR,cAg]at hn;obtain⟨j,rfl⟩:=bYr hn.1;have hL:=xU (fun _=>none) (fun _ _=>0) w
 exact aDf bEf rfl rfl rfl ((aVc w j o (pV _) (pV _) (by omega) ht hl hL hL.shape).mono fun v en' cnt' h=>h.snap)
theorem eQ (w:aB)(a st:Int)(hf:Fit w a):PC L 155 [.agg [.fz (w.objs.map aI.enc),.fz (w.tasks.map (.int .i64)),.fz (w.outs.map aN.enc),.fz (w.ins.map (.int .i64)),.int .i64 w.used],.int .i64 a,.int .i64 st] (.agg [.fz ((bJ w a st).w.objs.map aI.enc),.fz ((bJ w a st).w.tasks.map (.int .i64)),.fz ((bJ w a st).w.outs.map aN.enc),.fz ((bJ w a st).w.ins.map (.int .i64)),.int .i64 (bJ w a st).w.used,.int .i64 (bJ w a st).what,.int .i64 (bJ w a st).e.task,.int .i64 (bJ w a st).e.act,.int .i64 (bJ w a st).e.n,.int .i64 (bJ w a st).e.v.kind,.int .i64 (bJ w a st).e.v.n]):=by
 have ha:=hf.at_;simp only[inR,cAg]at ha;have hS:=aHn w (jA w a) ⟨6,st,[],[]⟩ hf.rng (by omega) hf.len
 refine aL bKa rfl rfl ?_
 simp only[bXv]at hS;simp only[go_sem,qC,qG,qW,aSl,aLo hf.at_,hS.ret,bJ,nB]
end Go.Proofs.YthpmfghgoabnhaaGreat
namespace Go.Proofs.YthpmfghgoabnhaaGreat
open Go.Abs Go.Proofs
theorem aOs (w:aB)(a:Int)(left:List aC)(v:aG){c:Val}(hc:zL c (.fz (left.map aC.enc)))(hf:Fit w a){en:En}{cnt:Nat->Nat->Nat}{vO vT vU vI:Val}(hL:aB9 en cnt w vO vT vU vI):
  WIn L (.fn 156 [] []) [.agg [vO,vT,vU,vI,.int .i64 w.used],.int .i64 a,c,.agg [.int .i64 v.kind,.int .i64 v.n]] en cnt fun x en' cnt'=>sK en cnt (bW w a left v).w [.int .i64 0,.int .i64 0,.int .i64 0,.int .i64 0,.int .i64 0,.int .i64 0] x en' cnt':=by
 have ha:=hf.at_;have hr:=hf.rng;simp only[inR,cAg]at ha hr;obtain⟨j,hj⟩:=bYr hr.1;obtain⟨i,rfl⟩:=bYr ha.1;have hi:i<w.tasks.length:=by omega
 have hti:w.tasks[i]=(j:Int):=by rw[<-hj];simp[jA,bXm,hi]
 have hget:(w.tasks.map (Val.int .i64))[i]?=some (.int .i64 (j:Int)):=by simp[hi,hti]
 have hi1:((i:Int)<(w.tasks.length:Int)):=by omega
 obtain⟨⟨o1,o2⟩,⟨t1,t2⟩,⟨u1,u2⟩,⟨i1,i2⟩⟩:=hL.shape;obtain⟨g4,hg4⟩: ∃g,g=cnt 0 4:=⟨_,rfl⟩
 obtain⟨g7,hg7⟩: ∃g,g=cnt 0 7:=⟨_,rfl⟩
 obtain⟨g8,hg8⟩: ∃g,g=cnt 0 8:=⟨_,rfl⟩
 have up0: ∀t,cnt 0 t<=aQ (aQ (aQ cnt 0 4 (g4+1)) 0 7 (g7+1)) 0 8 (g8+1) 0 t:=mR (mR (mR (fun _=>bXd _) hg4) hg7) hg8
 have hD:(bW w i left v).w=gK w j ⟨6,0,[v],left⟩:=by simp only[bW,hj]
 rw[hD];have key:=fun{en1:En} (h: ∀t g,g<cnt 0 t->en1 ⟨0,t,g⟩=en ⟨0,t,g⟩)=>aVc w j ⟨6,0,[v],left⟩ (aCb [.agg [.int .i64 v.kind,.int .i64 v.n]]) hc (by omega) (by omega) hf.len (en:=en1) (cnt:=aQ (aQ (aQ cnt 0 4 (g4+1)) 0 7 (g7+1)) 0 8 (g8+1)) (hL.keep h up0) hL.shape
 have hj':w.tasks.getD ((i:Int)).toNat 0=(j:Int):=hj;have oldS:=fun{e1:En} {x4 x7 x8:Option Ent} {t g:Nat} (hg:g<cnt 0 t)=>show((e1.set ⟨0,4,g4⟩ x4).set ⟨0,7,g7⟩ x7).set ⟨0,8,g8⟩ x8 ⟨0,t,g⟩=e1 ⟨0,t,g⟩by
  rw[hP (bYn hg8.symm) hg,hP (bYn hg7.symm) hg,hP (bYn hg4.symm) hg]
 have fin: ∀{en1:En} {x:Val} {en':En} {cnt':Nat->Nat->Nat},(∀t g,g<cnt 0 t->en1 ⟨0,t,g⟩=en ⟨0,t,g⟩)->sK en1 (aQ (aQ (aQ cnt 0 4 (g4+1)) 0 7 (g7+1)) 0 8 (g8+1)) (gK w j ⟨6,0,[v],left⟩) [] x en' cnt'->
   ∃g5 g9 vU vI,x= .agg [.bl ⟨0,5,g5⟩ 0 (gK w j ⟨6,0,[v],left⟩).objs.length,.bl ⟨0,8,g9⟩ 0 (gK w j ⟨6,0,[v],left⟩).tasks.length,vU,vI,.int .i64 (gK w j ⟨6,0,[v],left⟩).used]/\ (vU.one=true/\ vU.cells=[vU])/\ (vI.one=true/\ vI.cells=[vI])/\ en' ⟨0,8,g8⟩=en1 ⟨0,8,g8⟩/\
    ∀Z:Option Ent,sK en cnt (gK w j ⟨6,0,[v],left⟩) [.int .i64 0,.int .i64 0,.int .i64 0,.int .i64 0,.int .i64 0,.int .i64 0] (.agg (.bl ⟨0,5,g5⟩ 0 (gK w j ⟨6,0,[v],left⟩).objs.length:: .bl ⟨0,8,g9⟩ 0 (gK w j ⟨6,0,[v],left⟩).tasks.length::vU::vI:: .int .i64 (gK w j ⟨6,0,[v],left⟩).used::[.int .i64 0,.int .i64 0,.int .i64 0,.int .i64 0,.int .i64 0,.int .i64 0])) (en'.set ⟨0,8,g8⟩ Z) cnt':=by
  rintro en1 x en' cnt' h1 ⟨⟨g5,g9,vU,vI,rfl,e5,l5,m5,e9,l9,m9,mU,mI⟩,old,up⟩
  have hlt:g8<aQ (aQ (aQ cnt 0 4 (g4+1)) 0 7 (g7+1)) 0 8 (g8+1) 0 8:=by simp[aQ]
  refine⟨g5,g9,vU,vI,rfl,mU.shape,mI.shape,old 8 g8 hlt,fun Z=>⟨⟨g5,g9,vU,vI,rfl,by simp only[go_sem,e5],bYd (up0 5) l5,m5,?_,bYd (up0 8) l9,m9,mU.keep (fun g _=>by simp only[go_sem,qW]) (bXd _),mI.keep (fun g _=>by simp only[go_sem,qW]) (bXd _)⟩,fun t g hg=>?_,fun t=>bYd (up0 t) (up t)⟩⟩
  ·rw[aRk (by omega)];exact e9
  ·rw[hP (bYn hg8.symm) hg,old t g (bYg hg (up0 t)),h1 t g hg]
 refine mK bEi rfl rfl ?_
 simp only[go_sem,qC,qG,qW,aSm,<-hg4,<-hg7,<-hg8]
 refine aO ?_
 rcases hL with⟨rfl,rfl,rfl,rfl⟩|⟨gO,gT,rfl,eO,lO,rfl,eT,lT,mU,mI⟩
 ·simp only[go_sem,qC,qG,qW,zA (f:=Val.int .i64) (size:=1) (k:= .i64) (l:=w.tasks) 0 hf.at_ (fun _=>rfl),hj',hc.one,hc.cells,dC,bR,bXe,bXf,bXh,bXi,bXg,bXc,if_false]
  refine(key fun t g hg=>oldS hg).mono ?_
  intro x en' cnt' hO;obtain⟨g5,g9,vU,vI,rfl,⟨s1,s2⟩,⟨s3,s4⟩,e8,hO'⟩:=fin (fun t g hg=>oldS hg) hO
  try simp only[go_sem,qW]at e8
  simp only[go_sem,qC,qG,qW,e8,s1,s2,s3,s4,cW,bL,bXe,bXf,bXh,bXi,bXg,bXc,if_false];exact hO' _
 ·have hne: ¬gT=g8:=by omega
  simp only[go_sem,qC,qG,qW,eT,hne,hget,hi1,hj',hc.one,hc.cells,dC,bR,cW,bL,bZ4,bXx,bXe,bXf,bXh,bXi,bXg,bXc,if_false]
  refine(key fun t g hg=>oldS hg).mono ?_
  intro x en' cnt' hO;obtain⟨g5,g9,vU',vI',rfl,⟨s1,s2⟩,⟨s3,s4⟩,e8,hO'⟩:=fin (fun t g hg=>oldS hg) hO
  try simp only[go_sem,qW]at e8
  simp only[go_sem,qC,qG,qW,e8,s1,s2,s3,s4,cW,bL,bXe,bXf,bXh,bXi,bXg,bXc,if_false];exact hO' _
theorem iB (w:aB)(a:Int)(left:List aC)(v:aG)(hf:Fit w a):PC L 156 [.agg [.fz (w.objs.map aI.enc),.fz (w.tasks.map (.int .i64)),.fz (w.outs.map aN.enc),.fz (w.ins.map (.int .i64)),.int .i64 w.used],.int .i64 a,.fz (left.map aC.enc),.agg [.int .i64 v.kind,.int .i64 v.n]] (.agg [.fz ((bW w a left v).w.objs.map aI.enc),.fz ((bW w a left v).w.tasks.map (.int .i64)),.fz ((bW w a left v).w.outs.map aN.enc),.fz ((bW w a left v).w.ins.map (.int .i64)),.int .i64 (bW w a left v).w.used,.int .i64 (bW w a left v).what,.int .i64 (bW w a left v).e.task,.int .i64 (bW w a left v).e.act,.int .i64 (bW w a left v).e.n,.int .i64 (bW w a left v).e.v.kind,.int .i64 (bW w a left v).e.v.n]):=
 aDf bEi rfl rfl rfl ((aOs w a left v (pV _) hf (xU _ _ w)).mono fun v en' cnt' h=>h.snapD (d:=bW w a _ _))
theorem bEl {a b:Val}:cZ 2 [.agg [a,b]]=true:=(rfl)
theorem bEm {a b c:Val}:cZ 3 [.agg [a,b,c]]=true:=(rfl)
theorem bEn {a b c d:Val}:cZ 4 [.agg [a,b,c,d]]=true:=(rfl)
theorem bMo {k:IntKind}{n:Int}:cZ 1 [.int k n]=true:=(rfl)
theorem aVd (w:aB)(a:Int)(o:aI)(hf:Fit w a):PC L 127 [.agg [.fz (w.objs.map aI.enc),.fz (w.tasks.map (.int .i64)),.fz (w.outs.map aN.enc),.fz (w.ins.map (.int .i64)),.int .i64 w.used],.int .i64 (jA w a),.agg [.int .i64 o.form,.int .i64 o.n,.fz (o.vals.map aG.enc),.fz (o.frames.map aC.enc)]] (.agg [.fz ((gK w (jA w a) o).objs.map aI.enc),.fz ((gK w (jA w a) o).tasks.map (.int .i64)),.fz ((gK w (jA w a) o).outs.map aN.enc),.fz ((gK w (jA w a) o).ins.map (.int .i64)),.int .i64 (gK w (jA w a) o).used]):=by
 have ha:=hf.at_;simp only[inR,cAg]at ha;exact aHn w (jA w a) o hf.rng (by omega) hf.len
theorem yR (w:aB)(a:Int)(left:List aC)(node:Int)(env:List aG)(hf:Fit w a)(hl:left.length<1000000):PC L 131 [.agg [.fz (w.objs.map aI.enc),.fz (w.tasks.map (.int .i64)),.fz (w.outs.map aN.enc),.fz (w.ins.map (.int .i64)),.int .i64 w.used],.int .i64 a,.fz (left.map aC.enc),.int .i64 node,.fz (env.map aG.enc)] (.agg [.fz ((fH w a left node env).w.objs.map aI.enc),.fz ((fH w a left node env).w.tasks.map (.int .i64)),.fz ((fH w a left node env).w.outs.map aN.enc),.fz ((fH w a left node env).w.ins.map (.int .i64)),.int .i64 (fH w a left node env).w.used,.int .i64 (fH w a left node env).what,.int .i64 (fH w a left node env).e.task,.int .i64 (fH w a left node env).e.act,.int .i64 (fH w a left node env).e.n,.int .i64 (fH w a left node env).e.v.kind,.int .i64 (fH w a left node env).e.v.n]):=by
 have hF:=eQ w a 4 hf;have hS:=aVd w a ⟨6,0,[],left++[⟨node,env,[]⟩]⟩ hf;have hl1:left.length<=16777216:=by omega
 have hl2:left.length+1<=16777216:=by omega
 refine aL bJw rfl rfl ?_
 by_cases h1:40<=left.length
 ·have d1:decide ((40:Int)<=(left.length:Int))=true:=decide_eq_true (by omega)
  have e:fH w a left node env=bJ w a 4:=by unfold fH;rw[if_pos (.inl h1)]
  rw[e];simp only[go_sem,qC,qG,qW,aF5,d1,hF.ret]
 ·have d1:decide ((40:Int)<=(left.length:Int))=false:=decide_eq_false (by omega)
  by_cases h2:30<env.length
  ·have d2:decide ((30:Int)<(env.length:Int))=true:=decide_eq_true (by omega)
   have e:fH w a left node env=bJ w a 4:=by unfold fH;rw[if_pos (.inr h2)]
   rw[e];simp only[go_sem,qC,qG,qW,aF5,d1,d2,hF.ret]
  ·have d2:decide ((30:Int)<(env.length:Int))=false:=decide_eq_false (by omega)
   have e:fH w a left node env=⟨gK w (jA w a) ⟨6,0,[],left++[⟨node,env,[]⟩]⟩,0,lQ⟩:=by unfold fH;rw[if_neg (by omega)]
   rw[e];simp only[bXw,bYa,bXv,aC.enc]at hS;cases h0:left.isEmpty with
   |true=>
    have:left=[]:=by simpa using h0
    subst this;simp only[bXv,bYw]at hS⊢;simp only[go_sem,qC,qG,qW,aF5,d1,d2,dB,hH,lV,hZ,List.isEmpty_cons,bEm,aLo hf.at_,cW,bL,bXd,hS.ret,lQ,nB]
   |false=>
    simp only[go_sem,qC,qG,qW,aF5,d1,d2,dB,hH,hZ,vF,fN,h0,hl1,hl2,mG,nV,bEm,bXj,bX8,bZz,bXd,bXs,aLo hf.at_,cW,bL,hS.ret,lQ,nB]
theorem kK (d:Did)(a act n:Int)(v:aG):PC L 167 [.agg [.fz (d.w.objs.map aI.enc),.fz (d.w.tasks.map (.int .i64)),.fz (d.w.outs.map aN.enc),.fz (d.w.ins.map (.int .i64)),.int .i64 d.w.used,.int .i64 d.what,.int .i64 d.e.task,.int .i64 d.e.act,.int .i64 d.e.n,.int .i64 d.e.v.kind,.int .i64 d.e.v.n],.int .i64 a,.int .i64 act,.int .i64 n,.agg [.int .i64 v.kind,.int .i64 v.n]] (.agg [.fz ((dK d a act n v).w.objs.map aI.enc),.fz ((dK d a act n v).w.tasks.map (.int .i64)),.fz ((dK d a act n v).w.outs.map aN.enc),.fz ((dK d a act n v).w.ins.map (.int .i64)),.int .i64 (dK d a act n v).w.used,.int .i64 (dK d a act n v).what,.int .i64 (dK d a act n v).e.task,.int .i64 (dK d a act n v).e.act,.int .i64 (dK d a act n v).e.n,.int .i64 (dK d a act n v).e.v.kind,.int .i64 (dK d a act n v).e.v.n]):=by
 have hM:=aJo v
 refine aL bKg rfl rfl ?_
 by_cases h:d.what=1
 ·have e:dK d a act n v=d:=by unfold dK;rw[if_pos h]
  rw[e];have d1:decide (d.what=1)=true:=decide_eq_true h;simp only[go_sem,qC,qG,qW,aM5,d1]
 ·have e:dK d a act n v=⟨d.w,1,⟨a,act,n,aEj v⟩⟩:=by unfold dK;rw[if_neg h]
  rw[e];have d1:decide (d.what=1)=false:=decide_eq_false h;simp only[go_sem,qC,qG,qW,aM5,d1]
  refine aO ?_
  simp only[go_sem,qC,qG,qW,hM.ret,bXe,bXf,bXh,bXi,bXg,bXc,if_false]
def rN (w:aB)(v:aG)(form:Int):aI:=if kJ w v form=true then w.obj v.n else bAr
theorem nJ (w:aB)(v:aG)(form:Int)(hv:v.kind=5->inR v.n 0 ((w.objs.length:Int)-1)=true):PC L 187 [.agg [.fz (w.objs.map aI.enc),.fz (w.tasks.map (.int .i64)),.fz (w.outs.map aN.enc),.fz (w.ins.map (.int .i64)),.int .i64 w.used],.agg [.int .i64 v.kind,.int .i64 v.n],.int .i64 form] (.tup [.agg [.int .i64 (rN w v form).form,.int .i64 (rN w v form).n,.fz ((rN w v form).vals.map aG.enc),.fz ((rN w v form).frames.map aC.enc)],.bool (kJ w v form)]):=by
 refine aL bKu rfl rfl ?_
 by_cases h5:v.kind=5
 ·have d1:decide (v.kind=5)=true:=decide_eq_true h5;have hi:=uK (w:=w) (k:= .i64) (en:=fun _=>none) (hv h5)
  by_cases h2:(w.obj v.n).form=form
  ·have d2:decide ((w.obj v.n).form=form)=true:=decide_eq_true h2;have e:kJ w v form=true:=by simp only[kJ,d1,d2,Bool.and_self]
   rw[rN,if_pos e,e];simp only[go_sem,qC,qG,qW,aI1,d1,d2,uK (hv h5)]
  ·have d2:decide ((w.obj v.n).form=form)=false:=decide_eq_false h2;have e:kJ w v form=false:=by simp only[kJ,d2,bYp]
   rw[rN,if_neg (by rw[e];decide),e]
   simp only[go_sem,qC,qG,qW,aI1,d1,d2,uK (hv h5),bAr,bXv]
 ·have d1:decide (v.kind=5)=false:=decide_eq_false h5;have e:kJ w v form=false:=by simp only[kJ,d1,bX6]
  rw[rN,if_neg (by rw[e];decide),e]
  simp only[go_sem,qC,qG,qW,aI1,d1,bAr,bXv]
end Go.Proofs.YthpmfghgoabnhaaGreat
namespace Go.Proofs.YthpmfghgoabnhaaGreat
open Go.Abs Go.Proofs
theorem aVe {p:aP}(hs:aT p=true){i:Int}(hi:inR i 0 ((p.nodes.length:Int)-1)=true):(p.node i).asks<=10:=by
 simp only[aT,bXb,bXo]at hs;have:=hs.2 _ (bV hi);simp only[fK,bXb,cAg]at this;unfold aK.asks;split
 ·omega
 split
 ·omega
 split<;>omega
theorem aLp {p:aP}{w:aB}{l:List aC}(hs:aT p=true)(h:bK p w l=true):l.length<=40/\ ∀f∈l,f.env.length<=30/\ f.vals.length<=10:=by
 simp only[bK,bXb,cAg,bXo]at h
 refine⟨by omega,fun f hf=>?_⟩
 have:=h.2 f hf;simp only[bG,aR,bXb,cAg]at this;obtain⟨⟨h1,h2,_⟩,h3,_⟩:=this;have:=aVe hs h1;omega
theorem aHo {p:aP}{w:aB}{o:aI}(h:dN p w o=true):o.vals.length<=30:=by
 have vs: ∀{l:List aG} {m:Int},aR p w l m=true->(l.length:Int)<=m:=fun h=>by
  simp only[aR,bXb,cAg]at h;exact h.1
 unfold dN at h
 split at h
 ·unfold iH at h
  split at h
  ·simp only[bXb]at h;have:=vs h.1.1.2;omega
  split at h
  ·simp only[bXb]at h;have:=vs h.2;omega
  split at h
  ·simp only[bXb,cAg]at h;omega
  ·cases h
 split at h
 ·simp only[bXb,cAg]at h;omega
 split at h
 ·cases h
 split at h
 ·simp only[bXb]at h;have:=vs h.2;omega
 split at h
 ·simp only[bXb]at h;have:=vs h.2;omega
 split at h
 ·simp only[bXb]at h;have:=vs h.2;omega
 split at h
 ·simp only[bXb]at h;have:=vs h.2;omega
 ·cases h
theorem aXi {p:aP}{w:aB}{o:aI}(hs:aT p=true)(h:dN p w o=true):dE o=true:=by
 have h1:=aHo h;obtain⟨h2,h3⟩:=aLp hs (aDc h).2;simp only[dE,bXb,cAg,bXo]
 refine⟨⟨by omega,by omega⟩,fun f hf=>?_⟩
 have:=h3 f hf;omega
theorem aCc {w:aB}(h:iP w=true):w.tasks.length<=w.objs.length:=by
 simp only[iP,bXb,cAg]at h;rw[h.1];exact List.countP_le_length
theorem aCd {p:aP}{w:aB}(hs:aT p=true)(h:gG p w=true):aY w=true:=by
 obtain⟨a1,a2,a3,a4,a5,a6,a7⟩:=eY.1 h;have:=aCc a5;simp only[mN,bXb,cAg]at a3;simp only[aY,bXb,cAg,bXo];exact⟨⟨⟨⟨by omega,by omega⟩,by omega⟩,by omega⟩,fun o ho=>aXi hs (a6 o ho)⟩
theorem aDg {w:aB}(h:aY w=true):w.few:=by
 simp only[aY,bXb,cAg,bXo]at h;obtain⟨⟨⟨⟨h1,h2⟩,h3⟩,h4⟩,h5⟩:=h
 refine⟨by unfold Few;omega,by unfold Few;omega,by unfold Few;omega,by unfold Few;omega,fun o ho=>?_⟩
 have:=h5 o ho;simp only[dE,bXb,cAg,bXo]at this
 refine⟨by unfold Few;omega,by unfold Few;omega,fun f hf=>?_⟩
 have:=this.2 f hf;exact⟨by unfold Few;omega,by unfold Few;omega⟩
def fY (p:aP)(a:Int):Nat->aB->aB×Nat×Bool
 |0,w=>if(eC p w a).what=0 then(w,1,false)else(w,0,true)
 |k+1,w=>if(eC p w a).what=0 then((fY p a k (eC p w a).w).1,(fY p a k (eC p w a).w).2.1+1,(fY p a k (eC p w a).w).2.2)else(w,0,true)
def jH (p:aP):Nat->Nat->aB->Nat->aB×Nat×Bool
 |0,_,w,s=>(w,s,true)
 |n+1,a,w,s=>
  if a<w.tasks.length then
   (if(fY p a (5000-s) w).2.2=true then jH p n (a+1) (fY p a (5000-s) w).1 (s+(fY p a (5000-s) w).2.1)
   else((fY p a (5000-s) w).1,s+(fY p a (5000-s) w).2.1,false))
  else(w,s,true)
def iT (p:aP)(w:aB)(s:Nat):aB×Nat×Bool:=jH p 121 0 w s
def pK (p:aP)(w:aB)(k:Nat):List Int:=((List.range k).filter fun(a:Nat)=>!decide ((eC p w a).what=2)).map fun(a:Nat)=>(a:Int)
def mS (p:aP)(w:aB):List Int:=pK p w w.tasks.length
def nW (p:aP)(w:aB)(pick:Int):aB×aQu×Nat×Int:=
 let r:=iT p w 0
 if r.2.2=false then(r.1,lQ,0,8)
 else if mS p r.1=[]then(r.1,lQ,0,5)
 else
  let d:=eC p r.1 ((mS p r.1).getD (pick%(mS p r.1).length).toNat 0);let q:=iT p d.w (r.2.1+1)
  if q.2.2=false \/5000<q.2.1 then(q.1,lQ,0,8)else(q.1,d.e,q.2.1,0)
section
variable {p :aP}{w0 w:aB}{S:Nat->Prop}
theorem aXj (h:bP p w0 S w):bP p w (fun _=>True) w:=⟨h.ok,bXd _,fun _ _=>rfl,List.prefix_refl _,fun _ _ _ _ _ _=>trivial,fun _ _=>trivial,fun _ _=>trivial⟩
theorem aHp (hp:cJ p)(h:bP p w0 S w){a:Int}(ha:inR a 0 ((w.tasks.length:Int)-1)=true):w.tasks.length<=(eC p w a).w.tasks.length:=(tV hp (aXj h) ha).pre.length_le
theorem bMp {a:Int}{m n:Nat}(h:inR a 0 ((m:Int)-1)=true)(hl:m<=n):inR a 0 ((n:Int)-1)=true:=by
 simp only[inR,cAg]at h⊢;omega
theorem aHq (hp:cJ p){a:Int}: ∀(k:Nat) {w:aB},bP p w0 S w->inR a 0 ((w.tasks.length:Int)-1)=true->bP p w0 S (fY p a k w).1
 |0,w,h,ha=>by unfold fY;split<;>exact h
 |k+1,w,h,ha=>by
  unfold fY;split
  ·exact aHq hp k (tV hp h ha) (bMp ha (aHp hp h ha))
  ·exact h
theorem aCe (hp:cJ p): ∀(n:Nat) {a:Nat} {w:aB} {s:Nat},bP p w0 S w->bP p w0 S (jH p n a w s).1
 |0,_,_,_,h=>h
 |n+1,a,w,s,h=>by
  unfold jH;split
  ·rename_i ha;have ha:inR (a:Int) 0 ((w.tasks.length:Int)-1)=true:=by simp only[inR,cAg];omega
   have hi:=aHq hp (5000-s) h ha;split
   ·exact aCe hp n hi
   ·exact hi
  ·exact h
theorem xV (hp:cJ p){s:Nat}(h:bP p w0 S w):bP p w0 S (iT p w s).1:=aCe hp 121 h
theorem aOt {w:aB}{x:Int}(h:x∈mS p w):inR x 0 ((w.tasks.length:Int)-1)=true:=by
 obtain⟨i,hi,rfl⟩:=bXy.1 h;have:=bYz.1 (bY0.1 hi).1;simp only[inR,cAg];omega
theorem aVf {l:List Int}(h: ¬l=[])(pick:Int):(pick%l.length).toNat<l.length:=by
 have h0:0<l.length:=bZ9.2 h;have h1:=Int.emod_nonneg pick (show(l.length:Int)≠0 by omega)
 have h2:=Int.emod_lt_of_pos pick (show 0<(l.length:Int)by omega)
 omega
theorem aJp (hp:cJ p)(h:bP p w0 S w)(pick:Int):bP p w0 S (nW p w pick).1:=by
 have h1:=xV hp (s:=0) h;unfold nW
 simp only
 split
 ·exact h1
 split
 ·exact h1
 rename_i hl;have h2:=xV hp (s:=(iT p w 0).2.1+1) (tV hp h1 (aOt (lR (d:=0) (aVf hl pick))))
 split<;>exact h2
end
theorem xW {p:aP}{a:Int}: ∀(k:Nat) (w:aB),(fY p a k w).2.1<=k+1/\ ((fY p a k w).2.2=true->(fY p a k w).2.1<=k)
 |0,w=>by unfold fY;split<;>simp
 |k+1,w=>by
  obtain⟨h1,h2⟩:=xW (p:=p) (a:=a) k (eC p w a).w;unfold fY;split
  ·exact⟨by simp only;omega,fun h=>by have:=h2 h;simp only;omega⟩
  ·simp
theorem zM {p:aP}: ∀(n:Nat) {a:Nat} {w:aB} {s:Nat},s<=5001->(jH p n a w s).2.1<=5002
 |0,_,_,_,h=>by show _<=_;simp only[jH];omega
 |n+1,a,w,s,h=>by
  obtain⟨h1,h2⟩:=xW (p:=p) (a:=a) (5000-s) w;unfold jH;split
  ·split
   ·rename_i hb;have:=h2 hb;exact zM n (by omega)
   ·simp only;omega
  ·simp only;omega
end Go.Proofs.YthpmfghgoabnhaaGreat
namespace Go.Proofs.YthpmfghgoabnhaaGreat
open Go.Abs Go.Proofs
theorem dQ {p:aP}{w0 w:aB}{S:Nat->Prop}{a:Int}(h:bP p w0 S w)(ha:inR a 0 ((w.tasks.length:Int)-1)=true):Fit w a:=by
 obtain⟨a1,a2,a3,a4,a5,a6,a7⟩:=eY.1 h.ok;have:=aCc a5;simp only[mN,bXb,cAg]at a3;exact⟨⟨by omega,by omega,by omega,by omega⟩,ha,(h.task ha).1⟩
theorem vG {p:aP}{S:Nat->Prop}{w:aB}{v:aG}(h:VOk p S w v)(h5:v.kind=5):inR v.n 0 ((w.objs.length:Int)-1)=true:=by
 have h1:=h.ok;simp only[cO,h5]at h1
 simpa using h1
def sY (p:aP)(w:aB)(f v:aG):aC:=(oK p w f v).getD oJ
theorem aOu {p:aP}{w0 w:aB}{S:Nat->Prop}{f v:aG}(hp:cJ p)(h:bP p w0 S w)(hf:VOk p S w f)(hv:VOk p S w v):
  PC L 188 [.agg [.fz (p.nodes.map aK.enc),.fz (p.funs.map (.int .i64)),.int .i64 p.main,.fz (p.cons.map bE.enc)],.agg [.fz (w.objs.map aI.enc),.fz (w.tasks.map (.int .i64)),.fz (w.outs.map aN.enc),.fz (w.ins.map (.int .i64)),.int .i64 w.used],.agg [.int .i64 f.kind,.int .i64 f.n],.agg [.int .i64 v.kind,.int .i64 v.n]] (.tup [.agg [.int .i64 (sY p w f v).node,.fz ((sY p w f v).env.map aG.enc),.fz ((sY p w f v).vals.map aG.enc)],.bool (oK p w f v).isSome]):=by
 have hO:=nJ w f 2 (vG hf)
 refine aL bKv rfl rfl ?_
 by_cases h4:f.kind=4
 ·have d1:decide (f.kind=4)=true:=decide_eq_true h4;have hi:inR f.n 0 ((p.funs.length:Int)-1)=true:=by
   have h1:=hf.ok;simp only[cO,h4]at h1
   simpa using h1
  have e:oK p w f v=some ⟨bGn p f.n,[v],[]⟩:=by unfold oK;rw[if_pos h4]
  rw[sY,e];simp only[go_sem,qC,qG,qW,aI2,d1]
  refine aO ?_
  simp only[go_sem,qC,qG,qW,sQ hi,dC,bR,bXe,bXf,bXh,bXi,bXg,bXc,if_false];simp only[go_sem,qC,qG,qW,bGn,bX3,bZf,bXv,bYa]
 ·have d1:decide (f.kind=4)=false:=decide_eq_false h4
  by_cases h2:kJ w f 2=true
  ·have e:oK p w f v=some ⟨vD (p.node (w.obj f.n).n) 0,(w.obj f.n).vals++[v],[]⟩:=by unfold oK;rw[if_neg h4,if_pos h2]
   obtain⟨a1,a2,a3,a4⟩:=jN h hf h2;have hk:=a2.ok;simp only[dN,a3]at hk
   simp at hk
   obtain⟨_,⟨b1,b2⟩,b3⟩:=hk;have hlen:=aHo a2.ok;have hkk:=bS (hp.nodes _ (bV b1));rw[b2]at hkk;simp[fX]at hkk;have hk0:inR 0 0 (((p.node (w.obj f.n).n).kids.length:Int)-1)=true:=by simp only[inR,cAg];omega
   have hMo:=aB8 (w.obj f.n).vals v (by omega)
   rw[rN,if_pos h2,h2]at hO;rw[sY,e];simp only[go_sem,qC,qG,qW,aI2,d1,hO.ret]
   refine aO ?_
   simp only[go_sem,qC,qG,qW,bM b1,sQ hk0,hMo.ret,bXe,bXf,bXh,bXi,bXg,bXc,if_false];simp only[go_sem,qC,qG,qW,vD,bX3,bZf,bXv,bYa]
  ·have e:oK p w f v=none:=by unfold oK;rw[if_neg h4,if_neg h2]
   rw[bYf]at h2;rw[h2]at hO;rw[sY,e];simp only[go_sem,qC,qG,qW,aI2,d1,hO.ret,bZ7,bZj,oJ,bXv]
theorem sK.later {en en1 en':En}{cnt cnt1 cnt':Nat->Nat->Nat}{w:aB}{tail:List Val}{x:Val}(h:sK en1 cnt1 w tail x en' cnt')(h1: ∀t g,g<cnt 0 t->en1 ⟨0,t,g⟩=en ⟨0,t,g⟩)(h2: ∀t,cnt 0 t<=cnt1 0 t){g8:Nat}(hg:cnt 0 8<=g8)(hg':g8<cnt1 0 8)(Z:Option Ent):
  sK en cnt w tail x (en'.set ⟨0,8,g8⟩ Z) cnt':=by
 obtain⟨⟨g5,g9,vU,vI,rfl,e5,l5,m5,e9,l9,m9,mU,mI⟩,old,up⟩:=h
 refine⟨⟨g5,g9,vU,vI,rfl,by simp only[go_sem,e5],bYd (h2 5) l5,m5,?_,bYd (h2 8) l9,m9,mU.keep (fun g _=>by simp only[go_sem,qW]) (bXd _),mI.keep (fun g _=>by simp only[go_sem,qW]) (bXd _)⟩,fun t g hg1=>?_,fun t=>bYd (h2 t) (up t)⟩
 ·rw[aRk (by omega)];exact e9
 ·rw[hP hg hg1,old t g (bYg hg1 (h2 t)),h1 t g hg1]
theorem aVg {w:aB}{a:Int}{o:aI}(hf:Fit w a)(h:w.objs.length<120):Fit (iD w o) a:=by
 have hr:=hf.rng;have hl:=hf.len
 refine⟨?_,hf.at_,?_⟩
 ·rw[kX];exact⟨by omega,hl.2⟩
 ·rw[kX];show inR (jA w a) 0 _=true;simp only[inR,cAg]at hr⊢;omega
theorem aOv (w:aB)(a:Int)(left:List aC)(o:aI){c oa ob:Val}(hc:zL c (.fz (left.map aC.enc)))(ha:zL oa (.fz (o.vals.map aG.enc)))(hb:zL ob (.fz (o.frames.map aC.enc)))(hf:Fit w a){en:En}{cnt:Nat->Nat->Nat}:
  WIn L (.fn 159 [] []) [.agg [.fz (w.objs.map aI.enc),.fz (w.tasks.map (.int .i64)),.fz (w.outs.map aN.enc),.fz (w.ins.map (.int .i64)),.int .i64 w.used],.int .i64 a,c,.agg [.int .i64 o.form,.int .i64 o.n,oa,ob]] en cnt fun x en' cnt'=>
   ((120<=w.objs.length/\ x= .agg [.fz ((bJ w a 4).w.objs.map aI.enc),.fz ((bJ w a 4).w.tasks.map (.int .i64)),.fz ((bJ w a 4).w.outs.map aN.enc),.fz ((bJ w a 4).w.ins.map (.int .i64)),.int .i64 (bJ w a 4).w.used,.int .i64 (bJ w a 4).what,.int .i64 (bJ w a 4).e.task,.int .i64 (bJ w a 4).e.act,.int .i64 (bJ w a 4).e.n,.int .i64 (bJ w a 4).e.v.kind,.int .i64 (bJ w a 4).e.v.n]/\ (∀t g,g<cnt 0 t->en' ⟨0,t,g⟩=en ⟨0,t,g⟩)/\ ∀t,cnt 0 t<=cnt' 0 t) \/(w.objs.length<120/\ sK en cnt (bW (iD w o) a left (nH w.objs.length)).w [.int .i64 0,.int .i64 0,.int .i64 0,.int .i64 0,.int .i64 0,.int .i64 0] x en' cnt')):=by
 have hF:=eQ w a 4 hf;have hat:=hf.at_;have hrng:=hf.rng;simp only[inR,cAg]at hat hrng;obtain⟨g4,hg4⟩: ∃g,g=cnt 0 4:=⟨_,rfl⟩
 obtain⟨g7,hg7⟩: ∃g,g=cnt 0 7:=⟨_,rfl⟩
 obtain⟨g8,hg8⟩: ∃g,g=cnt 0 8:=⟨_,rfl⟩
 have up0: ∀t,cnt 0 t<=aQ (aQ (aQ cnt 0 4 (g4+1)) 0 7 (g7+1)) 0 8 (g8+1) 0 t:=mR (mR (mR (fun _=>bXd _) hg4) hg7) hg8
 have oldS:=fun{e1:En} {x4 x7 x8:Option Ent} {t g:Nat} (hg:g<cnt 0 t)=>show((e1.set ⟨0,4,g4⟩ x4).set ⟨0,7,g7⟩ x7).set ⟨0,8,g8⟩ x8 ⟨0,t,g⟩=e1 ⟨0,t,g⟩by
  rw[hP (bYn hg8.symm) hg,hP (bYn hg7.symm) hg,hP (bYn hg4.symm) hg]
 refine mK bEj rfl rfl ?_
 by_cases h1:120<=w.objs.length
 ·have d1:decide ((120:Int)<=(w.objs.length:Int))=true:=decide_eq_true (by omega)
  simp only[go_sem,qC,qG,qW,aM4,<-hg4,<-hg7,<-hg8,ha.one,ha.cells,hb.one,hb.cells,d1,hF.ret]
  refine .inl ⟨h1,fun t g hg=>?_,up0⟩
  rw[hP (bYn hg8.symm) hg,oldS hg]
 ·have d1:decide ((120:Int)<=(w.objs.length:Int))=false:=decide_eq_false (by omega)
  have h1:w.objs.length<120:=by omega
  simp only[go_sem,qC,qG,qW,aM4,<-hg4,<-hg7,<-hg8,ha.one,ha.cells,hb.one,hb.cells,d1]
  refine(aCa w (by omega) (by omega) hf.len (xU _ _ w)).mono ?_
  rintro x en1 cnt1 ⟨⟨g5,gT,vU,vI,rfl,e5,l5,m5,eT,lT,mT,mU,mI⟩,old,up⟩
  have e4:=old 4 g4 (by simp[aQ])
  have e7:=old 7 g7 (by simp[aQ])
  have e8:=old 8 g8 (by simp[aQ])
  have hTne: ¬gT=g8:=by have:=lT;simp[aQ]at this;omega
  try simp only[go_sem,qW]at e4 e7 e8
  obtain⟨g22,hg22⟩: ∃g,g=cnt1 0 22:=⟨_,rfl⟩
  have hw1:IntKind.i64.wrap (((w.objs.length+1:Nat):Int)-1)=(w.objs.length:Int):=by rw[bY (by omega)];omega
  have hl16:w.objs.length+1<=16777216:=by omega
  simp only[go_sem,qC,qG,qW,e4,e7,e8,e5,ha.snap,hb.snap,ha.wk,hb.wk,mU.shape.1,mU.shape.2,mI.shape.1,mI.shape.2,cW,bL,dB,hH,vF,bEn,mG,bXj,hl16,bXd,<-hg22]
  refine aO ?_
  simp only[go_sem,qC,qG,qW,hw1,(aDe _).ret,bXe,bXf,bXh,bXi,bXg,bXc,if_false];have up2: ∀t,cnt 0 t<=aQ cnt1 0 22 (g22+1) 0 t:=fun t=>bYd (up0 t) (bYd (up t) (mR (fun _=>bXd _) hg22 t))
  have hn5:cnt 0 5<=g5:=bYd (up0 5) l5;have hn22:cnt 0 22<=g22:=by rw[hg22];exact bYd (up0 22) (up 22)
  have lt8:g8<aQ cnt1 0 22 (g22+1) 0 8:=bYg (show g8<aQ (aQ (aQ cnt 0 4 (g4+1)) 0 7 (g7+1)) 0 8 (g8+1) 0 8 by simp[aQ]) (bYd (up 8) (mR (fun _=>bXd _) hg22 8))
  refine(aOs (iD w o) a left (nH w.objs.length) hc (aVg hf h1) (vO:= .bl ⟨0,22,g22⟩ 0 (w.objs.length+1)) (vT:= .bl ⟨0,8,gT⟩ 0 w.tasks.length) (vU:=vU) (vI:=vI) (.inr ⟨g22,gT,by rw[kX],?_,by simp[aQ],rfl,?_,?_,mU.keep (fun g _=>by simp only[go_sem,qW]) (mR (fun _=>bXd _) hg22 11),mI.keep (fun g _=>by simp only[go_sem,qW]) (mR (fun _=>bXd _) hg22 14)⟩)).mono ?_
  ·simp only[go_sem,qW,iD,bXw]
  ·simp only[go_sem,qW,eT];rfl
  ·exact bYg mT (mR (fun _=>bXd _) hg22 8)
  ·intro x en2 cnt2 hO;have e8':=hO.old 8 g8 lt8
   try simp only[go_sem,qW,e8]at e8'
   have hO':=fun Z=>hO.later (en:=en) (cnt:=cnt) (g8:=g8) (fun t g hg=>by
    rw[hP (bYn hg4.symm) hg,hP (ga:=g22) (a:=22) hn22 hg,hP (ga:=g5) (a:=5) hn5 hg];rw[hP (bYn hg4.symm) hg,old t g (bYg hg (up0 t)),oldS hg]) up2 (bYn hg8.symm) lt8 Z
   obtain⟨⟨g5',g9,vU',vI',rfl,_⟩,_,_⟩:=hO;simp only[go_sem,qC,qG,qW,e8'];exact .inr ⟨h1,hO' _⟩
theorem aE0 (w:aB)(a:Int)(left:List aC)(o:aI)(hf:Fit w a):PC L 159 [.agg [.fz (w.objs.map aI.enc),.fz (w.tasks.map (.int .i64)),.fz (w.outs.map aN.enc),.fz (w.ins.map (.int .i64)),.int .i64 w.used],.int .i64 a,.fz (left.map aC.enc),.agg [.int .i64 o.form,.int .i64 o.n,.fz (o.vals.map aG.enc),.fz (o.frames.map aC.enc)]] (.agg [.fz ((gZ w a left o).w.objs.map aI.enc),.fz ((gZ w a left o).w.tasks.map (.int .i64)),.fz ((gZ w a left o).w.outs.map aN.enc),.fz ((gZ w a left o).w.ins.map (.int .i64)),.int .i64 (gZ w a left o).w.used,.int .i64 (gZ w a left o).what,.int .i64 (gZ w a left o).e.task,.int .i64 (gZ w a left o).e.act,.int .i64 (gZ w a left o).e.n,.int .i64 (gZ w a left o).e.v.kind,.int .i64 (gZ w a left o).e.v.n]):=by
 refine aDf bEj rfl rfl rfl ((aOv w a left o (pV _) (pV _) (pV _) hf).mono fun v en' cnt' h=>?_)
 rcases h with⟨h1,rfl,_,_⟩|⟨h1,h2⟩
 ·have e:gZ w a left o=bJ w a 4:=by unfold gZ;rw[if_pos h1]
  rw[e];exact⟨_,_,by simp only[go_sem,qW];rfl,by simp only[go_sem,qW]⟩
 ·have e:gZ w a left o=bW (iD w o) a left (nH w.objs.length):=by unfold gZ;rw[if_neg (by omega)]
  rw[e];exact h2.snapD (d:=bW (iD w o) a left (nH w.objs.length))
end Go.Proofs.YthpmfghgoabnhaaGreat
namespace Go.Proofs.YthpmfghgoabnhaaGreat
open Go.Abs Go.Proofs
variable {p :aP}{w0 w:aB}{S:Nat->Prop}{a:Int}{left:List aC}
theorem aQz (hp:cJ p)(h:bP p w0 S w)(ha:inR a 0 ((w.tasks.length:Int)-1)=true)(hl:LOk p S w left){f v:aG}(hf:VOk p S w f)(hv:VOk p S w v):
  PC L 160 [.agg [.fz (p.nodes.map aK.enc),.fz (p.funs.map (.int .i64)),.int .i64 p.main,.fz (p.cons.map bE.enc)],.agg [.fz (w.objs.map aI.enc),.fz (w.tasks.map (.int .i64)),.fz (w.outs.map aN.enc),.fz (w.ins.map (.int .i64)),.int .i64 w.used],.int .i64 a,.fz (left.map aC.enc),.agg [.int .i64 f.kind,.int .i64 f.n],.agg [.int .i64 v.kind,.int .i64 v.n]] (.agg [.fz ((eL p w a left f v).w.objs.map aI.enc),.fz ((eL p w a left f v).w.tasks.map (.int .i64)),.fz ((eL p w a left f v).w.outs.map aN.enc),.fz ((eL p w a left f v).w.ins.map (.int .i64)),.int .i64 (eL p w a left f v).w.used,.int .i64 (eL p w a left f v).what,.int .i64 (eL p w a left f v).e.task,.int .i64 (eL p w a left f v).e.act,.int .i64 (eL p w a left f v).e.n,.int .i64 (eL p w a left f v).e.v.kind,.int .i64 (eL p w a left f v).e.v.n]):=by
 have hfit:=dQ h ha;have hO:=nJ w f 5 (vG hf);have hF4:=eQ w a 4 hfit;have hF2:=eQ w a 2 hfit;have hlen:=hl.len
 by_cases h5:kJ w f 5=true
 ·obtain⟨_,a2,a3,_⟩:=jN h hf h5;have hk:=aDd a2 a3;have hkl:=hk.len;have hk0:0<(w.obj f.n).frames.length:=by
   have:=a2.ok;rw[dN,if_neg (by rw[a3];decide),if_pos a3]at this
   simp only[bXb,cAg]at this;omega
  rw[rN,if_pos h5,h5]at hO;have hB:=iB w a (left++(w.obj f.n).frames) v hfit;rw[bXw]at hB;have hl1:left.length<=16777216:=by omega
  have hl2:(w.obj f.n).frames.length<=16777216:=by omega
  have hl3:left.length+(w.obj f.n).frames.length<=16777216:=by omega
  have he2:(w.obj f.n).frames.isEmpty=false:=aHl hk0;have e:eL p w a left f v=if 40<left.length+(w.obj f.n).frames.length then bJ w a 4 else bW w a (left++(w.obj f.n).frames) v:=by
   unfold eL;rw[if_pos h5,bX8]
  rw[e]
  refine aL bEk rfl rfl ?_
  by_cases h40:40<left.length+(w.obj f.n).frames.length
  ·rw[if_pos h40];have d1:decide ((40:Int)<((left.length+(w.obj f.n).frames.length:Nat):Int))=true:=decide_eq_true (by omega)
   cases h0:left.isEmpty with
   |true=>
    have:left=[]:=by simpa using h0
    subst this;simp only[bYb,bX2]at d1;simp only[go_sem,qC,qG,qW,aA9,hO.ret]
    refine aO ?_
    simp only[go_sem,qC,qG,qW,dB,hH,lV,hZ,fN,he2,hl2,nV,bXj,bXv,bXe,bXf,bXh,bXi,bXg,bXc,if_false];simp only[go_sem,qC,qG,qW,d1,hF4.ret]
   |false=>
    simp only[go_sem,qC,qG,qW,aA9,hO.ret]
    refine aO ?_
    simp only[go_sem,qC,qG,qW,dB,hH,hZ,vF,mG,fN,h0,he2,hl1,hl2,hl3,nV,bXj,bXd,bXe,bXf,bXh,bXi,bXg,bXc,if_false];simp only[go_sem,qC,qG,qW,d1,hF4.ret]
  ·rw[if_neg h40];have d1:decide ((40:Int)<((left.length+(w.obj f.n).frames.length:Nat):Int))=false:=decide_eq_false (by omega)
   cases h0:left.isEmpty with
   |true=>
    have:left=[]:=by simpa using h0
    subst this;simp only[bYb,bX2]at d1;simp only[bXv,bYw]at hB⊢;simp only[go_sem,qC,qG,qW,aA9,hO.ret]
    refine aO ?_
    simp only[go_sem,qC,qG,qW,dB,hH,lV,hZ,fN,he2,hl2,nV,bXj,bXv,bXe,bXf,bXh,bXi,bXg,bXc,if_false];simp only[go_sem,qC,qG,qW,d1,hB.ret,bXj,bXd,qL]
   |false=>
    simp only[go_sem,qC,qG,qW,aA9,hO.ret]
    refine aO ?_
    simp only[go_sem,qC,qG,qW,dB,hH,hZ,vF,mG,fN,h0,he2,hl1,hl2,hl3,nV,bXj,bXd,bXe,bXf,bXh,bXi,bXg,bXc,if_false];simp only[go_sem,qC,qG,qW,d1,hB.ret,bXj,bX8,bXd,bXs]
 ·have hB:=aOu hp h hf hv;rw[bYf]at h5;rw[h5]at hO
  refine aL bEk rfl rfl ?_
  cases hb:oK p w f v with
  |none=>
   have e:eL p w a left f v=bJ w a 2:=by unfold eL;rw[if_neg (by rw[h5];decide),hb]
   rw[e];rw[hb]at hB;simp only[go_sem,qC,qG,qW,aA9,hO.ret,hB.ret,bZj,hF2.ret]
  |some b=>
   have e:eL p w a left f v=fH w a left b.node b.env:=by unfold eL;rw[if_neg (by rw[h5];decide),hb]
   rw[e];have hv:sY p w f v=b:=by rw[sY,hb];rfl
   rw[hb,hv]at hB;have hN:=yR w a left b.node b.env hfit (by omega)
   simp only[go_sem,qC,qG,qW,aA9,hO.ret,hB.ret,bZf,hN.ret]
theorem aCf (u v:aG):(decide (u.kind=v.kind)&&decide (u.n=v.n))=decide (u=v):=by
 cases u;cases v;simp only[aG.mk.injEq];rw[bZr];simp
theorem aVh {v:aG}(h:VOk p S w v)(h1:v.kind=1): -1000000000<=v.n/\ v.n<=1000000000:=by
 have:=h.ok;rw[cO,if_pos h1]at this
 simpa[inR]using this
theorem bGp {x y:Int}(hx: -1000000000<=x/\ x<=1000000000)(hy: -1000000000<=y/\ y<=1000000000): -1000000000000000000<=x*y/\ x*y<=1000000000000000000:=by
 have h1:x.natAbs<=1000000000:=by omega
 have h2:y.natAbs<=1000000000:=by omega
 have h3:(x*y).natAbs<=1000000000*1000000000:=by rw[Int.natAbs_mul];exact Nat.mul_le_mul h1 h2
 omega
theorem rO (h:bP p w0 S w)(ha:inR a 0 ((w.tasks.length:Int)-1)=true){op:Int}{u v:aG}(hu:VOk p S w u)(hv:VOk p S w v)(ho:op=9 \/op=10 \/op=11 \/op=12 \/op=13):
  PC L 161 [.agg [.fz (w.objs.map aI.enc),.fz (w.tasks.map (.int .i64)),.fz (w.outs.map aN.enc),.fz (w.ins.map (.int .i64)),.int .i64 w.used],.int .i64 a,.fz (left.map aC.enc),.int .i64 op,.agg [.int .i64 u.kind,.int .i64 u.n],.agg [.int .i64 v.kind,.int .i64 v.n]] (.agg [.fz ((cH w a left op u v).w.objs.map aI.enc),.fz ((cH w a left op u v).w.tasks.map (.int .i64)),.fz ((cH w a left op u v).w.outs.map aN.enc),.fz ((cH w a left op u v).w.ins.map (.int .i64)),.int .i64 (cH w a left op u v).w.used,.int .i64 (cH w a left op u v).what,.int .i64 (cH w a left op u v).e.task,.int .i64 (cH w a left op u v).e.act,.int .i64 (cH w a left op u v).e.n,.int .i64 (cH w a left op u v).e.v.kind,.int .i64 (cH w a left op u v).e.v.n]):=by
 have hfit:=dQ h ha;have hF2:=eQ w a 2 hfit;have hF4:=eQ w a 4 hfit;have hI:=kM (aHa op u.n v.n) (-1000000000) 1000000000
 by_cases h13:op=13
 ·subst h13
  by_cases h1:u.kind=v.kind
  ·have d1:decide (u.kind=v.kind)=true:=decide_eq_true h1
   by_cases h3:3<u.kind
   ·have d3:decide (3<u.kind)=true:=decide_eq_true h3;have e:cH w a left 13 u v=bJ w a 2:=by unfold cH;rw[if_pos rfl,if_pos (.inr h3)]
    rw[e]
    refine aL aD5 rfl rfl ?_
    simp only[go_sem,qC,qG,qW,wN,d1,d3,hF2.ret]
   ·have d3:decide (3<u.kind)=false:=decide_eq_false h3;have e:cH w a left 13 u v=bW w a left (rL (decide (u=v))):=by
     unfold cH;rw[if_pos rfl,if_neg (by rintro(h|h);exact h h1;exact h3 h)]
    rw[e];have hB:=iB w a left (rL (decide (u=v))) hfit
    refine aL aD5 rfl rfl ?_
    simp only[go_sem,qC,qG,qW,wN,d1,d3]
    refine aO ?_
    simp only[go_sem,qC,qG,qW,aCf,(aB7 _).ret,hB.ret,bXe,bXf,bXh,bXi,bXg,bXc,if_false]
  ·have d1:decide (u.kind=v.kind)=false:=decide_eq_false h1;have e:cH w a left 13 u v=bJ w a 2:=by unfold cH;rw[if_pos rfl,if_pos (.inl h1)]
   rw[e]
   refine aL aD5 rfl rfl ?_
   simp only[go_sem,qC,qG,qW,wN,d1,hF2.ret]
 ·have d13:decide (op=13)=false:=decide_eq_false h13
  by_cases h1:u.kind=1
  ·have d1:decide (u.kind=1)=true:=decide_eq_true h1
   by_cases h2:v.kind=1
   ·have d2:decide (v.kind=1)=true:=decide_eq_true h2;have bu:=aVh hu h1;have bv:=aVh hv h2;have bm:=bGp bu bv
    by_cases h12:op=12
    ·subst h12;have e:cH w a left 12 u v=bW w a left (rL (decide (u.n<v.n))):=by
      unfold cH;rw[if_neg (by decide),if_neg (by rintro(h|h);exact h h1;exact h h2),if_pos rfl]
     rw[e];have hB:=iB w a left (rL (decide (u.n<v.n))) hfit
     refine aL aD5 rfl rfl ?_
     simp only[go_sem,qC,qG,qW,wN,d1,d2]
     refine aO ?_
     simp only[go_sem,qC,qG,qW,(aB7 _).ret,hB.ret,bXe,bXf,bXh,bXi,bXg,bXc,if_false]
    ·have d12:decide (op=12)=false:=decide_eq_false h12;have e:cH w a left op u v=if inR (aHa op u.n v.n) (-1000000000) 1000000000=true then bW w a left (tU (aHa op u.n v.n))else bJ w a 4:=by
      unfold cH;rw[if_neg h13,if_neg (by rintro(h|h);exact h h1;exact h h2),if_neg h12]
     rw[e];have hB:=iB w a left (tU (aHa op u.n v.n)) hfit;have ho':op=9 \/op=10 \/op=11:=by omega
     rcases ho' with rfl|rfl|rfl
     all_goals
      simp only[aHa]at hI hB⊢
      simp at hI hB⊢
      split
      ·rename_i hin;rw[hin]at hI
       refine aL aD5 rfl rfl ?_
       simp only[go_sem,qC,qG,qW,wN,d1,d2,bY (show-9223372036854775808<=u.n+v.n/\ u.n+v.n<=9223372036854775807 by omega),bY (show-9223372036854775808<=u.n-v.n/\ u.n-v.n<=9223372036854775807 by omega),bY (show-9223372036854775808<=u.n*v.n/\ u.n*v.n<=9223372036854775807 by omega),hI.ret]
       refine aO ?_
       simp only[go_sem,qC,qG,qW,(xT _).ret,hB.ret,bXe,bXf,bXh,bXi,bXg,bXc,if_false]
      ·rename_i hin;rw[bYf]at hin;rw[hin]at hI
       refine aL aD5 rfl rfl ?_
       simp only[go_sem,qC,qG,qW,wN,d1,d2,bY (show-9223372036854775808<=u.n+v.n/\ u.n+v.n<=9223372036854775807 by omega),bY (show-9223372036854775808<=u.n-v.n/\ u.n-v.n<=9223372036854775807 by omega),bY (show-9223372036854775808<=u.n*v.n/\ u.n*v.n<=9223372036854775807 by omega),hI.ret,hF4.ret]
   ·have d2:decide (v.kind=1)=false:=decide_eq_false h2;have e:cH w a left op u v=bJ w a 2:=by unfold cH;rw[if_neg h13,if_pos (.inr h2)]
    rw[e]
    refine aL aD5 rfl rfl ?_
    simp only[go_sem,qC,qG,qW,wN,d13,d1,d2,hF2.ret]
  ·have d1:decide (u.kind=1)=false:=decide_eq_false h1;have e:cH w a left op u v=bJ w a 2:=by unfold cH;rw[if_neg h13,if_pos (.inl h1)]
   rw[e]
   refine aL aD5 rfl rfl ?_
   simp only[go_sem,qC,qG,qW,wN,d13,d1,hF2.ret]
end Go.Proofs.YthpmfghgoabnhaaGreat
