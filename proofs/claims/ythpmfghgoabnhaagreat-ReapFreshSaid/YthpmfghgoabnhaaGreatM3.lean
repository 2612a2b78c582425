/- Contracts of functions of the program and of the document: part 3. -/
import Derived.Test.YthpmfghgoabnhaaGreatM2
set_option linter.all false
open Bool renaming and_eq_true → bXb, and_false → bYp, and_true → bY6, eq_iff_iff → bZr, false_and → bX6, false_eq_true → bXc, false_or → bYy, not_eq_true → bYf, not_eq_true' → bYh, not_false → bXz, not_true → bXp, or_eq_true → bZv, or_true → bXg, true_and → bX0, true_or → bXi
open Int renaming eq_ofNat_of_zero_le → bYr, toNat_natCast → bXx, toNat_of_nonneg → bZo
open List renaming all_cons → bXe, all_eq_true → bXo, any_cons → bZs, any_eq_true → bZm, append_nil → bYx, drop_eq_getElem_cons → bX7, ext_getElem → bZe, filter_append → bZy, flatMap_cons → bZ3, getD_eq_getElem?_getD → bXm, getElem?_cons_succ → bXh, getElem?_cons_zero → bXf, getElem?_eq_getElem → bYs, getElem?_eq_none → cAb, getElem?_map → bZp, getElem?_set → bZh, getElem_map → bZb, getElem_mem → bXn, getElem_range → bZx, length_cons → bXu, length_map → bXj, map_append → bXw, map_congr_left → bYm, map_cons → bYa, map_nil → bXv, map_set → bYu, map_take → bZd, mem_append → bX1, mem_append_left → bYo, mem_append_right → bYl, mem_cons → bYe, mem_filter → bY0, mem_flatMap → bYk, mem_map → bXy, mem_range → bYz, mem_singleton → bYi, pairwise_iff_getElem → cAf, range_succ → bY1, take_length → bYc, take_of_length_le → bXs
open Nat renaming add_mul → bYq, add_zero → bY2, le_refl → bXd, zero_add → bX2, zero_le → bXl
open Option renaming getD_some → bX3, map_some → bX9
open Option.some renaming injEq → bXa
namespace Go.Proofs.YthpmfghgoabnhaaGreat
open Go.Abs Go.Proofs
def kH (en:En)(v:Val)(size:Nat)(xs:List Val)(t:Nat):Prop:=(v= .cl []/\ xs=[]) \/ ∃g,v= .bl ⟨0,t,g⟩ 0 xs.length/\ en ⟨0,t,g⟩=some (.blk size xs false)
theorem kH.mine {en:En}{v:Val}{size:Nat}{xs:List Val}{t:Nat}(h:kH en v size xs t):cG en v size xs [t]:=by
 rcases h with h|⟨g,h1,h2⟩
 ·exact .inl h
 ·exact .inr ⟨t,g,false,h1,h2,by simp⟩
theorem oI {en:En}{t g n size:Nat}{xs:List Val}(h:en ⟨0,t,g⟩=some (.blk size xs false))(hx:n=xs.length):kH en (.bl ⟨0,t,g⟩ 0 n) size xs t:= .inr ⟨g,by rw[hx],h⟩
theorem bDf (s:aX)(hs:s.few)(hsm:bO s=true){en:En}{cnt:Nat->Nat->Nat}:
  WIn L (.fn 81 [] []) [.agg [.fz (s.world.objs.map aI.enc),.fz (s.world.tasks.map (.int .i64)),.fz (s.world.outs.map aN.enc),.fz (s.world.ins.map (.int .i64)),.int .i64 s.world.used,.fz (s.ages.map (.int .i64)),.fz (s.marks.map (.int .i64)),.int .i64 s.cycle]] en cnt fun v en' cnt'=> ∃g16 vA vM,v= .ptr ⟨0,16,g16⟩ 0/\ en' ⟨0,16,g16⟩=some (.box [.fz (s.world.objs.map aI.enc),.fz (s.world.tasks.map (.int .i64)),.fz (s.world.outs.map aN.enc),.fz (s.world.ins.map (.int .i64)),.int .i64 s.world.used,vA,vM,.int .i64 s.cycle] false)/\
   kH en' vA 1 (s.ages.map (.int .i64)) 8/\ kH en' vM 1 (s.marks.map (.int .i64)) 11/\ (∀t g,¬t=1-> ¬t=8-> ¬t=11-> ¬t=16->en' ⟨0,t,g⟩=en ⟨0,t,g⟩):=by
 have hsw:aY s.world=true/\ (s.ages.length:Int)<=130/\ (s.marks.length:Int)<=130:=by
  simp only[bO,bXb,cAg]at hsm;exact⟨hsm.1.1,hsm.1.2,hsm.2⟩
 have c1:=jZ (s.ages.map (.int .i64)) (lK _) (by simp;omega)
 have c2:=jZ (s.marks.map (.int .i64)) (lK _) (by simp;omega)
 obtain⟨g1,hg1⟩: ∃g,g=cnt 0 1:=⟨_,rfl⟩
 obtain⟨g8,hg8⟩: ∃g,g=cnt 0 8:=⟨_,rfl⟩
 obtain⟨g11,hg11⟩: ∃g,g=cnt 0 11:=⟨_,rfl⟩
 obtain⟨g16,hg16⟩: ∃g,g=cnt 0 16:=⟨_,rfl⟩
 refine mK bI9 rfl rfl ?_
 simp only[go_sem,qC,qG,qW,aZj,<-hg1]
 refine aO ?_
 rcases iQ 1 (s.ages.map (Val.int .i64))with⟨t1,t2⟩|⟨t1,t2⟩<;>rw[t2]at c1<;>
 rcases iQ 1 (s.marks.map (Val.int .i64))with⟨o1,o2⟩|⟨o1,o2⟩<;>rw[o2]at c2
 all_goals simp only[go_sem,qC,qG,qW,bXe,bXf,bXh,bXi,bXg,bXc,if_false,bX3,(oH s.world hs.1 hsw.1).ret,c1.ret,c2.ret,<-hg8,<-hg11,<-hg16,bXj,dC,bR,cW,bL]
 all_goals refine⟨g16,_,_,rfl,aRj,?_,?_,?_⟩
 all_goals first
  |exact .inl ⟨rfl,by assumption⟩
  |exact oI (by simp only[go_sem,qW];try rfl) (by simp only[bXj])
  |(intro t g n1 n2 n3 n4;simp only[go_sem,qW,n1,n2,n3,n4])
theorem aC7 {ws:List W}{d:Nat}{D:List Nat}(h: ∀w∈ws,w.key.n=0/\ (w.key.t=d \/w.key.t∈D)/\ ∃e,w= .ent w.key e){t' g':Nat}(ht:t'≠d/\ t'∉D)(o n:Nat):(ws.all fun w=>gE w (.cells ⟨0,t',g'⟩ o n))=true:=by
 rw[bXo];intro w hw;obtain⟨h1,h2,e,h3⟩:=h w hw;rw[h3,aF4]
 refine decide_eq_true ?_
 intro he;rw[he]at h2;rcases h2 with h2|h2
 ·exact ht.1 h2
 ·exact ht.2 h2
theorem bAc {α:Type}{l:List α}:(l.all fun _=>true)=true:=by simp
theorem aP6 (s:aX)(w:aB)(hs:s.few)(hw:w.few)(hsm:aY w=true)(hA:s.ages.length=s.marks.length)(hM:s.world.objs.length=s.marks.length)(hle:s.marks.length<=w.objs.length){en:En}{cnt:Nat->Nat->Nat}{gk:Nat}{vA vM:Val}
  (e16:en ⟨0,16,gk⟩=some (.box [.fz (s.world.objs.map aI.enc),.fz (s.world.tasks.map (.int .i64)),.fz (s.world.outs.map aN.enc),.fz (s.world.ins.map (.int .i64)),.int .i64 s.world.used,vA,vM,.int .i64 s.cycle] false)) (mA:kH en vA 1 (s.ages.map (.int .i64)) 8) (mM:kH en vM 1 (s.marks.map (.int .i64)) 11):
  WIn L (.fn 82 [] []) [.ptr ⟨0,16,gk⟩ 0,.agg [.fz (w.objs.map aI.enc),.fz (w.tasks.map (.int .i64)),.fz (w.outs.map aN.enc),.fz (w.ins.map (.int .i64)),.int .i64 w.used]] en cnt fun v en' cnt'=>v= .int .i64 (kO s w w.objs.length)/\ ∃vA vM,en' ⟨0,16,gk⟩=some (.box [.fz (w.objs.map aI.enc),.fz (w.tasks.map (.int .i64)),.fz (w.outs.map aN.enc),.fz (w.ins.map (.int .i64)),.int .i64 w.used,vA,vM,.int .i64 s.cycle] false)/\
   cG en' vA 1 ((zG s w).map (.int .i64)) [8,32]/\ cG en' vM 1 ((pD s w).map (.int .i64)) [11,39]/\ (∀t g,¬t=3-> ¬t=7-> ¬t=8-> ¬t=11-> ¬t=16-> ¬t=32-> ¬t=39->en' ⟨0,t,g⟩=en ⟨0,t,g⟩):=by
 obtain⟨b1,b2,b3,b4⟩:=iY hsm;obtain⟨en0,hen0⟩: ∃e,e=en:=⟨_,rfl⟩
 obtain⟨g3,hg3⟩: ∃g,g=cnt 0 3:=⟨_,rfl⟩
 have u0:s.marks=upto (iF s w) (fun i=>fR s i) s.marks.length 0:=by
  rw[aC6];apply bZe
  ·simp
  ·intro i h1 h2;simp[dV h1]
 have v0:s.ages=upto (aEs s) (fun i=>oG s i) s.marks.length 0:=by
  rw[aC6];apply bZe
  ·simp[hA]
  ·intro i h1 h2;simp[gQ h1]
 refine mK bU5 rfl rfl ?_
 simp only[go_sem,qC,qG,qW,bCy,<-hg3]
 refine bD w.objs.length (fun k st=> ∃fr en cnt vA vM,st=⟨fr,en,cnt⟩/\ fr 0= .ptr ⟨0,16,gk⟩ 0/\ fr 3= .ptr ⟨0,3,g3⟩ 0/\ en ⟨0,3,g3⟩=some (.box [.fz (w.objs.map aI.enc),.fz (w.tasks.map (.int .i64)),.fz (w.outs.map aN.enc),.fz (w.ins.map (.int .i64)),.int .i64 w.used] false)/\ fr 5= .int .i64 (kO s w k:Nat)/\ fr 9= .fz (w.objs.map aI.enc)/\ fr 10= .int .i64 w.objs.length/\ fr 11= .int .i64 k/\
  en ⟨0,16,gk⟩=some (.box [.fz (s.world.objs.map aI.enc),.fz (s.world.tasks.map (.int .i64)),.fz (s.world.outs.map aN.enc),.fz (s.world.ins.map (.int .i64)),.int .i64 s.world.used,vA,vM,.int .i64 s.cycle] false)/\ cG en vA 1 ((upto (aEs s) (fun i=>oG s i) s.marks.length k).map (.int .i64)) [8,32]/\ cG en vM 1 ((upto (iF s w) (fun i=>fR s i) s.marks.length k).map (.int .i64)) [11,39]/\
  (k<s.marks.length-> ∃g,vM= .bl ⟨0,11,g⟩ 0 s.marks.length/\ en ⟨0,11,g⟩=some (.blk 1 ((upto (iF s w) (fun i=>fR s i) s.marks.length k).map (.int .i64)) false))/\
  (∀t g,¬t=3-> ¬t=7-> ¬t=8-> ¬t=11-> ¬t=16-> ¬t=32-> ¬t=39->en ⟨0,t,g⟩=en0 ⟨0,t,g⟩)) 0 (bXl _)
  ⟨_,_,_,vA,vM,rfl,by simp only[go_sem,qW],by simp only[go_sem,qW],by simp only[go_sem,qW],by simp only[go_sem,qW];rfl,by simp only[go_sem,qW],by simp only[go_sem,qW],by simp only[go_sem,qW],by simp only[go_sem,e16],?_,?_,?_,?_⟩ ?_
 ·rw[<-v0];exact(mA.mine.keep fun t g ht=>by simp at ht;subst ht;simp only[go_sem,qW]).sub (by simp)
 ·rw[<-u0];exact(mM.mine.keep fun t g ht=>by simp at ht;subst ht;simp only[go_sem,qW]).sub (by simp)
 ·intro h0;rw[<-u0];rcases mM with⟨_,h⟩|⟨g,h1,h2⟩
  ·have:s.marks.length=0:=by rw[<-bXj (f:=Val.int .i64),h];rfl
   omega
  ·exact⟨g,by simpa using h1,by simp only[go_sem,h2]⟩
 ·intro t g n3 n7 n8 n11 n16 n32 n39;rw[hen0];simp only[go_sem,qW,n3]
 clear mA mM e16
 rintro k st hk ⟨fr,en,cnt,vA,vM,rfl,h0,h3,e3,h5,h9,h10,h11,e16,mA,mM,hO,hfr⟩
 simp only[go_sem,qC,qG,qW,h0,h3,e3,h5,h9,h10,h11,e16]
 refine aA (fun hq=>?_) (fun hq=>?_)
 ·have h':k<w.objs.length:=of_decide_eq_true hq;obtain⟨g7,hg7⟩: ∃g,g=cnt 0 7:=⟨_,rfl⟩
  have hlM:=mM.len;rw[bXj,xH]at hlM;have hcw:Few (kO s w k+1):=by have:=aJc s w k;unfold Few;omega
  simp only[go_sem,qC,qG,qW,h',h0,h3,e3,h5,h9,h10,h11,e16,hlM,<-hg7]
  refine aA (fun hq2=>?_) (fun hq2=>?_)
  ·have hn:s.marks.length<=k:=by simp at hq2;omega
   have n1:aK5 s w k=true:=by simp[aK5];omega
   have hag:aEs s k=0:=by simp[aEs];omega
   have hmk:iF s w k=1:=by simp[iF];omega
   have hst:=sG s w k;rw[n1,if_pos rfl]at hst;simp only[go_sem,qC,qG,qW,h',h0,h3,e3,h5,h9,h10,h11,e16]
   refine aO ?_
   simp only[go_sem,qC,qG,qW,h',h0,h3,e3,h5,h9,h10,h11,e16,bXe,bXf,bXh,bXi,bXg,bXc,if_false]
   refine nM (D:=[8,32]) (xs:=(upto (aEs s) (fun i=>oG s i) s.marks.length k).map (.int .i64)) (ys:=[.int .i64 0]) (rs:=[]) ?_ ?_ ?_ rfl ?_ ?_
   ·simp only[go_sem,qW];exact mA.keep fun t g ht=>by simp at ht;rcases ht with rfl|rfl<;>simp only[go_sem,qW]
   ·simp only[go_sem,qW]
   ·rfl
   ·simp[xH];omega
   ·intro vA' en1 cnt1 r1 own1 hen1 hcnt1 hw1 hr1 hm1;have k16:en1 ⟨0,16,gk⟩=some (.box [.fz (s.world.objs.map aI.enc),.fz (s.world.tasks.map (.int .i64)),.fz (s.world.outs.map aN.enc),.fz (s.world.ins.map (.int .i64)),.int .i64 s.world.used,vA,vM,.int .i64 s.cycle] false):=by rw[hen1 0 16 gk (.inr ⟨by decide,by decide⟩)];simp only[go_sem,qW,e16]
    have k3:en1 ⟨0,3,g3⟩=some (.box [.fz (w.objs.map aI.enc),.fz (w.tasks.map (.int .i64)),.fz (w.outs.map aN.enc),.fz (w.ins.map (.int .i64)),.int .i64 w.used] false):=by rw[hen1 0 3 g3 (.inr ⟨by decide,by decide⟩)];simp only[go_sem,qW,e3]
    obtain⟨s1,s2⟩:=own1.shape;simp only[go_sem,qC,qG,qW,h',h0,h3,k3,h5,h9,h10,h11,k16,s1,s2,bXe,bXf,bXh,bXi,bXg,bXc,if_false]
    refine nM (D:=[11,39]) (xs:=(upto (iF s w) (fun i=>fR s i) s.marks.length k).map (.int .i64)) (ys:=[.int .i64 1]) (rs:=[]) ?_ ?_ ?_ rfl ?_ ?_
    ·simp only[go_sem,qW];exact mM.keep fun t g ht=>by rw[hen1 0 t g (.inr (by simp at ht;rcases ht with rfl|rfl<;>decide))];simp at ht;rcases ht with rfl|rfl<;>simp only[go_sem,qW]
    ·simp only[go_sem,qW]
    ·rfl
    ·simp[xH];omega
    ·intro vM' en2 cnt2 r2 own2 hen2 hcnt2 hw2 hr2 hm2;have j16:en2 ⟨0,16,gk⟩=some (.box [.fz (s.world.objs.map aI.enc),.fz (s.world.tasks.map (.int .i64)),.fz (s.world.outs.map aN.enc),.fz (s.world.ins.map (.int .i64)),.int .i64 s.world.used,vA,vM,.int .i64 s.cycle] false):=by rw[hen2 0 16 gk (.inr ⟨by decide,by decide⟩)];simp only[go_sem,qW,k16]
     have j3:en2 ⟨0,3,g3⟩=some (.box [.fz (w.objs.map aI.enc),.fz (w.tasks.map (.int .i64)),.fz (w.outs.map aN.enc),.fz (w.ins.map (.int .i64)),.int .i64 w.used] false):=by rw[hen2 0 3 g3 (.inr ⟨by decide,by decide⟩)];simp only[go_sem,qW,k3]
     obtain⟨s3,s4⟩:=own2.shape;have q1:=fun o n=>aC7 hw1 (t':=16) (g':=gk) ⟨by decide,by decide⟩ o n
     simp only[go_sem,qC,qG,qW,h',h0,h3,j3,h5,h9,h10,h11,j16,s1,s2,s3,s4,q1,hm1,hm2,bAc,bXe,bXf,bXh,bXi,bXg,bXc,if_false]
     refine⟨_,_,_,vA',vM',rfl,?_⟩
     simp only[go_sem,qC,qG,qW,h',h0,h3,j3,h5,h9,h10,h11,j16,s1,s2,s3,s4,aJ h' hw.objs,aJ (Nat.lt_succ_self _) hcw,hst]
     refine⟨?_,?_,fun h=>absurd h (by omega),?_⟩
     ·rw[aNs hn,hag,bXw]
      refine(own1.keep fun t g ht=>?_).sub (by simp)
      have ht':t=32 \/t=8:=by simp at ht;omega
      rcases ht' with rfl|rfl
      ·simp only[go_sem,qW,hen2 0 32 g (.inr ⟨by decide,by decide⟩)]
      ·simp only[go_sem,qW,hen2 0 8 g (.inr ⟨by decide,by decide⟩)]
     ·rw[aNs hn,hmk,bXw]
      refine(own2.keep fun t g ht=>?_).sub (by simp)
      have ht':t=39 \/t=11:=by simp at ht;omega
      rcases ht' with rfl|rfl<;>simp only[go_sem,qW]
     ·intro t g n3 n7 n8 n11 n16 n32 n39;rw[<-hfr t g n3 n7 n8 n11 n16 n32 n39];simp only[go_sem,qW,n16];rw[hen2 0 t g (.inr ⟨n39,by simp[n11,n39]⟩),hen1 0 t g (.inr ⟨n32,by simp[n8,n32]⟩)]
      simp only[go_sem,qW,n7]
  ·have hn:k<s.marks.length:=by simp at hq2;omega
   obtain⟨g,rfl,eM⟩:=hO hn;have hkw:k<s.world.objs.length:=by omega
   have hget:((upto (iF s w) (fun i=>fR s i) s.marks.length k).map (Val.int .i64))[k]?=some (.int .i64 (fR s k)):=by simp[aNt hn]
   have hc1:(0:Int)<=(k:Int):=by omega
   have hc2:(k:Int)<(s.marks.length:Int):=by omega
   simp only[go_sem,qC,qG,qW,h',hkw,h0,h3,e3,h5,h9,h10,h11,e16,eM,hget,hc1,hc2,true_and,and_true,eq_self,if_true,bX2,bXx];have keepA: ∀(e e':Option Ent),cG ((en.set ⟨0,7,g7⟩ e).set ⟨0,7,g7⟩ e') vA 1 ((upto (aEs s) (fun i=>oG s i) s.marks.length (k+1)).map (.int .i64)) [8,32]:=by
    intro e e';rw[tO hn (by simp[aEs,hn])]
    exact mA.keep fun t g ht=>by simp at ht;rcases ht with rfl|rfl<;>simp only[go_sem,qW]
   have frame: ∀(e e':Option Ent) (t g:Nat),¬t=3-> ¬t=7-> ¬t=8-> ¬t=11-> ¬t=16-> ¬t=32-> ¬t=39->((en.set ⟨0,7,g7⟩ e).set ⟨0,7,g7⟩ e') ⟨0,t,g⟩=en0 ⟨0,t,g⟩:=by
    intro e e' t g n3 n7 n8 n11 n16 n32 n39;rw[<-hfr t g n3 n7 n8 n11 n16 n32 n39];simp only[go_sem,qW,n7]
   have eo:decide (w.objs[k]=s.world.objs[k])=decide (s.world.obj k=w.obj k):=by
    rw[dH hkw,dH h'];exact decide_eq_decide.2 eq_comm
   have skip:qD s w k=false->iF s w k=fR s k/\ kO s w (k+1)=kO s w k:=fun h=>by
    refine⟨by simp[iF,hn,h],?_⟩
    rw[sG,if_neg (by simp[aK5,hn,h]),bY2]
   refine aE (fun g1=>?_) (fun g1=>?_)
   ·simp only[go_sem,qC,qG,qW,g1,h',hkw,h0,h3,e3,h5,h9,h10,h11,e16,(aP5 w.objs[k] s.world.objs[k] (hw.obj _ (bXn h'))).ret]
    refine aA (fun g2=>?_) (fun g2=>?_)
    ·have hgr:qD s w k=true:=by
      simp only[qD,g1,<-eo,bX0];exact g2
     have hmk:iF s w k=1:=by simp[iF,hn,hgr]
     have hst:kO s w (k+1)=kO s w k+1:=by rw[sG,if_pos (by simp[aK5,hn,hgr])]
     have hset:((upto (iF s w) (fun i=>fR s i) s.marks.length k).map (Val.int .i64)).set k (.int .i64 1)=(upto (iF s w) (fun i=>fR s i) s.marks.length (k+1)).map (.int .i64):=by
      rw[aNu hn,hmk,bYu]
     simp only[go_sem,qC,qG,qW,h',hkw,h0,h3,e3,h5,h9,h10,h11,e16,eM,hget,hc1,hc2,true_and,and_true,eq_self,if_true,bX2,bXx]
     refine⟨_,_,_,vA,.bl ⟨0,11,g⟩ 0 s.marks.length,rfl,?_⟩
     simp only[go_sem,qC,qG,qW,h',hkw,h0,h3,e3,h5,h9,h10,h11,e16,hset,aJ h' hw.objs,aJ (Nat.lt_succ_self _) hcw,hst]
     refine⟨(keepA (some (.box [.int .i64 0,.int .i64 0,.cl [],.cl []] false)) (some (.box [.int .i64 w.objs[k].form,.int .i64 w.objs[k].n,.fz (w.objs[k].vals.map aG.enc),.fz (w.objs[k].frames.map aC.enc)] false))).keep fun t g' ht=>?_,(aEy aRj (by simp[xH];omega)).sub (by simp),fun _=>⟨g,rfl,aRj⟩,fun t g' n3 n7 n8 n11 n16 n32 n39=>?_⟩
     ·simp at ht;rcases ht with rfl|rfl<;>simp only[go_sem,qW]
     ·rw[<-frame (some (.box [.int .i64 0,.int .i64 0,.cl [],.cl []] false)) (some (.box [.int .i64 w.objs[k].form,.int .i64 w.objs[k].n,.fz (w.objs[k].vals.map aG.enc),.fz (w.objs[k].frames.map aC.enc)] false)) t g' n3 n7 n8 n11 n16 n32 n39];exact aKf n11
    ·have hgr:qD s w k=false:=by
      simp only[qD,g1,<-eo,bX0];exact g2
     obtain⟨q1,q2⟩:=skip hgr;simp only[go_sem,qC,qG,qW,h',hkw,h0,h3,e3,h5,h9,h10,h11,e16,aJ h' hw.objs,q2]
     refine⟨_,_,_,vA,.bl ⟨0,11,g⟩ 0 s.marks.length,rfl,?_⟩
     simp only[go_sem,qC,qG,qW,h',hkw,h0,h3,e3,h5,h9,h10,h11,e16,aJ h' hw.objs,q2]
     refine⟨keepA _ _,?_,fun _=>⟨g,rfl,?_⟩,frame _ _⟩
     ·rw[tO hn q1];exact mM.keep fun t g ht=>by simp at ht;rcases ht with rfl|rfl<;>simp only[go_sem,qW]
     ·rw[tO hn q1];simp only[go_sem,qW,eM]
   ·simp only[go_sem,qC,qG,qW,g1,h',hkw,h0,h3,e3,h5,h9,h10,h11,e16,bXp];have hgr:qD s w k=false:=by simp only[qD,g1,bXp,bX6]
    obtain⟨q1,q2⟩:=skip hgr
    refine⟨_,_,_,vA,.bl ⟨0,11,g⟩ 0 s.marks.length,rfl,?_⟩
    simp only[go_sem,qC,qG,qW,h',hkw,h0,h3,e3,h5,h9,h10,h11,e16,aJ h' hw.objs,q2]
    refine⟨keepA _ _,?_,fun _=>⟨g,rfl,?_⟩,frame _ _⟩
    ·rw[tO hn q1];exact mM.keep fun t g ht=>by simp at ht;rcases ht with rfl|rfl<;>simp only[go_sem,qW]
    ·rw[tO hn q1];simp only[go_sem,qW,eM]
 ·have:k=w.objs.length:=by simp at hq;omega
  subst this;rw[yN hle]at mA mM;simp only[go_sem,qC,qG,qW,h0,h3,e3,h5,h9,h10,h11,e16]
  refine⟨vA,vM,rfl,?_,?_,?_⟩
  ·exact mA.keep fun t g ht=>by simp at ht;rcases ht with rfl|rfl<;>simp only[go_sem,qW]
  ·exact mM.keep fun t g ht=>by simp at ht;rcases ht with rfl|rfl<;>simp only[go_sem,qW]
  ·intro t g n3 n7 n8 n11 n16 n32 n39;rw[<-hen0,<-hfr t g n3 n7 n8 n11 n16 n32 n39];simp only[go_sem,qW,n16]
theorem aP7 {p:aP}{s:aX}(h:cE p s=true):s.ages.length=s.marks.length/\ s.world.objs.length=s.marks.length:=by
 simp only[cE,jX,bXb,cAg]at h;omega
theorem aNx {a b:aB}(h:fV a b=true):a.objs.length<=b.objs.length:=by
 simp only[fV,bXb,cAg]at h;exact h.1.1.1
theorem aGx (p:aP)(s:aX)(w:aB)(hp:p.few)(hs:s.few)(hw:w.few)(hsp:aT p=true)(hss:bO s=true)(hsw:aY w=true):
  PC L 36 [.agg [.fz (p.nodes.map aK.enc),.fz (p.funs.map (.int .i64)),.int .i64 p.main,.fz (p.cons.map bE.enc)],.agg [.fz (s.world.objs.map aI.enc),.fz (s.world.tasks.map (.int .i64)),.fz (s.world.outs.map aN.enc),.fz (s.world.ins.map (.int .i64)),.int .i64 s.world.used,.fz (s.ages.map (.int .i64)),.fz (s.marks.map (.int .i64)),.int .i64 s.cycle],.agg [.fz (w.objs.map aI.enc),.fz (w.tasks.map (.int .i64)),.fz (w.outs.map aN.enc),.fz (w.ins.map (.int .i64)),.int .i64 w.used]] (if cE p s=true/\ eV p w=true then
   (if fV s.world w=true then .tup [.agg [.fz (w.objs.map aI.enc),.fz (w.tasks.map (.int .i64)),.fz (w.outs.map aN.enc),.fz (w.ins.map (.int .i64)),.int .i64 w.used,.fz ((zG s w).map (.int .i64)),.fz ((pD s w).map (.int .i64)),.int .i64 s.cycle],.int .i64 (kO s w w.objs.length:Nat),.int .i64 0]
    else .tup [.agg [.fz [],.fz [],.fz [],.fz [],.int .i64 0,.fz [],.fz [],.int .i64 0],.int .i64 0,.int .i64 7])
   else .tup [.agg [.fz [],.fz [],.fz [],.fz [],.int .i64 0,.fz [],.fz [],.int .i64 0],.int .i64 0,.int .i64 2]):=by
 have hsw1:aY s.world=true:=by
  simp only[bO,bXb]at hss;exact hss.1.1
 have hck:=zF p s hp hs hsp hsw1;have hmc:=sW p w hp hw hsp
 refine aL bUj rfl rfl ?_
 by_cases h1:cE p s=true
 ·rw[if_pos h1]at hck
  by_cases h2:eV p w=true
  ·simp only[h2,if_true]at hmc;rw[if_pos ⟨h1,h2⟩];obtain⟨l1,l2⟩:=aP7 h1
   by_cases h3:fV s.world w=true
   ·rw[if_pos h3];have hf:=vR s.world w hs.1;rw[h3]at hf;have hle:=aNx h3;simp only[go_sem,qC,qG,qW,aPo,hck.ret,hmc.ret,hf.ret]
    refine(bDf s hs hss).mono ?_
    rintro v en1 cnt1 ⟨g16,vA,vM,rfl,e16,mA,mM,hfr⟩
    have q3:=hfr 3 0 (by decide) (by decide) (by decide) (by decide)
    have q4:=hfr 4 0 (by decide) (by decide) (by decide) (by decide)
    have q5:=hfr 5 0 (by decide) (by decide) (by decide) (by decide)
    have q6:=hfr 6 0 (by decide) (by decide) (by decide) (by decide)
    simp only[go_sem,qC,qG,qW,q5,(oH w hw hsw).ret]
    refine(aP6 s w hs hw hsw l1 l2 (by omega) e16 mA mM).mono ?_
    rintro v en2 cnt2 ⟨rfl,vA',vM',e16',mA',mM',hfr'⟩
    have r6:=(hfr' 6 0 (by decide) (by decide) (by decide) (by decide) (by decide) (by decide) (by decide)).trans q6
    simp only[go_sem,qC,qG,qW,e16',r6];have e': ∀t g,¬t=6->(en2.set ⟨0,6,0⟩ (some (.box [.fz (w.objs.map aI.enc),.fz (w.tasks.map (.int .i64)),.fz (w.outs.map aN.enc),.fz (w.ins.map (.int .i64)),.int .i64 w.used,vA',vM',.int .i64 s.cycle] false))) ⟨0,t,g⟩=en2 ⟨0,t,g⟩:=fun t g h=>aKf h
    obtain⟨x1,ks1,a1,a2,_⟩:=(mA'.keep (en':=en2.set ⟨0,6,0⟩ (some (.box [.fz (w.objs.map aI.enc),.fz (w.tasks.map (.int .i64)),.fz (w.outs.map aN.enc),.fz (w.ins.map (.int .i64)),.int .i64 w.used,vA',vM',.int .i64 s.cycle] false))) fun t g ht=>e' t g (by simp at ht;omega)).snap 5
    obtain⟨x2,ks2,d1,d2,_⟩:=(mM'.keep (en':=en2.set ⟨0,6,0⟩ (some (.box [.fz (w.objs.map aI.enc),.fz (w.tasks.map (.int .i64)),.fz (w.outs.map aN.enc),.fz (w.ins.map (.int .i64)),.int .i64 w.used,vA',vM',.int .i64 s.cycle] false))) fun t g ht=>e' t g (by simp at ht;omega)).snap 5
    simp only[go_sem,qC,qG,qW,a1,a2,d1,d2]
   ·rw[if_neg h3];have hf:=vR s.world w hs.1;rw[bYf]at h3;rw[h3]at hf;simp only[go_sem,qC,qG,qW,aPo,hck.ret,hmc.ret,hf.ret]
  ·simp only[h2]at hmc;rw[if_neg (fun h=>h2 h.2)]
   simp only[go_sem,qC,qG,qW,aPo,hck.ret,hmc.ret]
 ·rw[if_neg h1]at hck;rw[if_neg (fun h=>h1 h.1)]
  simp only[go_sem,qC,qG,qW,aPo,hck.ret]
def dZ (keep:List Int)(v:aG):aG:=⟨v.kind,if jK v=true then(keep.idxOf v.n:Int)else v.n⟩
def dW (keep:List Int)(l:List aG):List aG:=l.map (dZ keep)
def iZ (keep:List Int)(f:aC):aC:=⟨f.node,dW keep f.env,dW keep f.vals⟩
def cA (keep:List Int)(o:aI):aI:=⟨o.form,o.n,dW keep o.vals,o.frames.map (iZ keep)⟩
def aU (w:aB)(keep:List Int):aB:=⟨keep.map fun n=>cA keep (w.obj n),w.tasks.map fun t=>(keep.idxOf t:Int),w.outs,w.ins,w.used⟩
theorem bAd {l:List Int}{n:Int}{k:Nat}(h:k<l.length):(l.drop k).idxOf n=if l[k]=n then 0 else(l.drop (k+1)).idxOf n+1:=by
 rw[bX7 h,List.idxOf_cons]
 by_cases hx:l[k]=n
 ·simp[hx]
 ·have hb:(l[k]==n)=false:=by simpa using hx
  rw[hb,if_neg hx];rfl
theorem aP8 {keep:List Int}{l:List aG}{k:Nat}(h:k<l.length):(l.take (k+1)).map (dZ keep)=(l.take k).map (dZ keep)++[dZ keep l[k]]:=by rw[dF h,bXw];rfl
def bVi (out:List Int)(n:Int):List Int:=if out.any (fun x=>decide (x=n))=true then out else out++[n]
theorem aNy {w:aB}{keep:List Int}{k:Nat}(h:k<keep.length):((keep.take (k+1)).map fun n=>cA keep (w.obj n))=((keep.take k).map fun n=>cA keep (w.obj n))++[cA keep (w.obj keep[k])]:=by rw[dF h,bXw];rfl
theorem aK9 {o:aI}(h:dE o=true):o.frames.length<=50/\ o.vals.length<=40/\ ∀f∈o.frames,f.env.length<=40/\ f.vals.length<=40:=by
 obtain⟨b1,b2,b3⟩:=pB h;exact⟨by omega,by omega,fun f hf=>by have:=b3 f hf;omega⟩
theorem aBt {w:aB}{i:Int}(h:inR i 0 ((w.objs.length:Int)-1)=true):w.obj i∈w.objs:=by
 simp only[inR,cAg]at h;obtain⟨j,rfl⟩:=bYr h.1;have hj:j<w.objs.length:=by omega
 rw[dH hj];exact bXn _
theorem aP9 (keep:List Int)(f:aC):(iZ keep f).enc= .agg [.int .i64 f.node,.fz ((dW keep f.env).map aG.enc),.fz ((dW keep f.vals).map aG.enc)]:=rfl
theorem aQa (keep:List Int)(o:aI):(cA keep o).enc= .agg [.int .i64 o.form,.int .i64 o.n,.fz ((dW keep o.vals).map aG.enc),.fz ((o.frames.map (iZ keep)).map aC.enc)]:=rfl
theorem bGd {a b:List Val}:dA .neq .map (.fm a b) .nilm=some (.bool true):=(rfl)
theorem bDg {ks vs:List Val}{f:Bool}:Ent.freeze (.map ks vs f)= .map ks vs true:=(rfl)
theorem aU0 {cs vs:List Val}{off:Nat}:fO (.agg cs) off vs= .agg (setCells cs off vs):=(rfl)
attribute [go_sem] bGd aZ3 bDg aU0 aP2 aGw
def hU (keep:List Int):List Val:=(List.range keep.length).map fun i=> .int .i64 (i:Nat)
theorem xJ (n:Int): ∀ks:List Int,findKey .num (.int .i64 n) (ks.map (.int .i64))=some (if n∈ks then some (ks.idxOf n)else none)
 |[]=>rfl
 |x::ks=>by
  have he:mV .num (.int .i64 n) (.int .i64 x)=some (n==x):=by simp[mV]
  by_cases h:n=x
  ·subst h;simp only[bYa,findKey,he,beq_self_eq_true];simp
  ·have hb:(n==x)=false:=by simpa using h
   have hb':(x==n)=false:=by simpa using fun e=>h e.symm
   simp only[bYa,findKey,he,hb,xJ n ks,bYe,h,false_or,List.idxOf_cons,hb']
   by_cases hm:n∈ks
   ·simp[hm]
   ·simp[hm]
theorem aU1 {keep:List Int}{x:Int}(h:x∈keep):uJ .num (.int .i64 0) false (.int .i64 x) (keep.map (.int .i64)) (hU keep)=some (.int .i64 (keep.idxOf x:Nat)):=by
 have hl:keep.idxOf x<keep.length:=List.idxOf_lt_length_of_mem h;unfold uJ;simp[xJ,h,hU,bXm,hl]
def uW (keep:List Int)(l:List aG)(k:Nat):List aG:=(l.take k).map (dZ keep)++l.drop k
theorem bAe (keep:List Int)(l:List aG):uW keep l 0=l:=by simp[uW]
theorem bAf (keep:List Int)(l:List aG):uW keep l l.length=dW keep l:=by simp[uW,dW]
theorem bDh (keep:List Int)(l:List aG)(k:Nat):(uW keep l k).length=l.length:=by simp[uW];omega
theorem aU2 {keep:List Int}{l:List aG}{k:Nat}(h:k<l.length):((uW keep l k).map aG.enc)[k]?=some (aG.enc l[k]):=by
 have:(uW keep l k)[k]?=some l[k]:=by
  rw[uW,List.getElem?_append_right (by simp;omega),bX7 h]
  have:k-((l.take k).map (dZ keep)).length=0:=by simp;omega
  rw[this];rfl
 rw[bZp,this];rfl
theorem aU3 {keep:List Int}{l:List aG}{k:Nat}(h:k<l.length):(uW keep l k).set k (dZ keep l[k])=uW keep l (k+1):=by
 have hl:((l.take k).map (dZ keep)).length=k:=by simp;omega
 have h2:k-((l.take k).map (dZ keep)).length=0:=by omega
 rw[uW,uW,List.set_append_right _ _ (by omega),h2,aP8 h]
 have hd:=bX7 h;rw[hd,List.set_cons_zero,List.append_assoc];rfl
theorem bAg {keep:List Int}{l:List aG}{k:Nat}(h:k<l.length)(he:dZ keep l[k]=l[k]):uW keep l (k+1)=uW keep l k:=by
 rw[<-aU3 h,he];apply List.ext_getElem?;intro i;rw[bZh];split
 ·rename_i e;subst e;rw[bDh,if_pos h];have:=aU2 (keep:=keep) h;rw[bZp]at this;cases hx:(uW keep l k)[k]? with
  |none=>rw[hx]at this;cases this
  |some y=>
   rw[hx]at this
   injection this with this
   have hy:y=l[k]:=by
    cases y;cases hz:l[k];rw[hz]at this;simp only[aG.enc]at this;injection this with this;injection this with a b;injection b with b;injection a with _ a;injection b with _ b;rw[a,b]
   rw[hy]
 ·rfl
theorem mP (l:List aG)(keep:List Int)(hl:l.length<=16777216)(hin: ∀x∈cP l,x∈keep):PC L 143 [.fz (l.map aG.enc),.fp [.fm (keep.map (.int .i64)) (hU keep)] 0] (.fz ((dW keep l).map aG.enc)):=by
 have hf:Few l.length:=by unfold Few;omega
 have hc:=qK (l.map aG.enc) (aEc l) (by simpa using hl)
 refine aL bEg rfl rfl ?_
 by_cases h0:l=[]
 ·subst h0;have hc0:=qK [] rfl (by simp)
  simp only[go_sem,qC,qG,qW,aF6,bXv,hc0.ret,show xE 2 []= .cl []from rfl]
  refine bD (0) (fun k st=> ∃fr en cnt,st=⟨fr,en,cnt⟩/\ (fr 0= .cl [])/\ (fr 8= .int .i64 0)/\ (fr 9= .int .i64 k)) 0 (bXl _) ⟨_,_,_,rfl,(by first|(simp only[go_sem,qW];(try rfl);done)|rfl|simp),(by first|(simp only[go_sem,qW];(try rfl);done)|rfl|simp),(by first|(simp only[go_sem,qW];(try rfl);done)|rfl|simp)⟩ ?_
  rintro k st hk ⟨fr,en,cnt,rfl,h0,h8,h9⟩
  simp only[go_sem,qC,qG,qW,h0,h8,h9];have:k=0:=by omega
  subst this;simp only[go_sem,qC,qG,qW,h0,h8,h9];rfl
 ·have h0':l.map aG.enc≠[]:=by simpa using h0
  rw[aJb h0']at hc;simp only[go_sem,qC,qG,qW,aF6,hc.ret];have hz:=bAe keep l
  refine bD (l.length) (fun k st=> ∃fr en cnt,st=⟨fr,en,cnt⟩/\ (fr 0= .bl ⟨0,6,0⟩ 0 l.length)/\ (en ⟨0,6,0⟩=some (.blk 2 ((uW keep l k).map aG.enc) false))/\ (fr 1= .fp [.fm (keep.map (.int .i64)) (hU keep)] 0)/\ (fr 8= .int .i64 l.length)/\ (fr 9= .int .i64 k)) 0 (bXl _) ⟨_,_,_,rfl,(by first|(simp only[go_sem,h0,h8,h9];(try rfl);done)|rfl|simp),(by first|(simp only[go_sem,h0,h8,h9];(try rfl);done)|rfl|simp),(by first|(simp only[go_sem,h0,h8,h9];(try rfl);done)|rfl|simp),(by first|(simp only[go_sem,h0,h8,h9];(try rfl);done)|rfl|simp),(by first|(simp only[go_sem,h0,h8,h9];(try rfl);done)|rfl|simp)⟩ ?_
  rintro k st hk ⟨fr,en,cnt,rfl,h0,e6,h1,h8,h9⟩
  simp only[go_sem,qC,qG,qW,h0,e6,h1,h8,h9]
  refine aA (fun hq=>?_) (fun hq=>?_)
  ·have h':k<l.length:=of_decide_eq_true hq;have hx:=aU2 (keep:=keep) h';have hc1:(0:Int)<=(k:Int):=by omega
   have hc2:(k:Int)<(l.length:Int):=by omega
   simp only[go_sem,qC,qG,qW,h0,e6,h1,h8,h9,h',hx,hc1,hc2,true_and,and_true,eq_self,if_true,bX2,bXx]
   refine aE (fun hg=>?_) (fun hg=>?_)
   ·have hr:jK l[k]=true:=hg;have hk:l[k].n∈keep:=hin _ (bXy.2 ⟨l[k],bY0.2 ⟨bXn h',hr⟩,rfl⟩);have hmv:dZ keep l[k]=⟨l[k].kind,(keep.idxOf l[k].n:Int)⟩:=by rw[dZ,if_pos hr]
    have hset:((uW keep l k).map aG.enc).set k (.agg [.int .i64 l[k].kind,.int .i64 (keep.idxOf l[k].n:Nat)])=(uW keep l (k+1)).map aG.enc:=by
     rw[<-aU3 h',bYu,hmv];rfl
    simp only[go_sem,qC,qG,qW,hg,h0,e6,h1,h8,h9,h',hx,hc1,hc2,true_and,and_true,eq_self,if_true,bX2,bXx,aU1 hk]
    try simp only[go_sem,qC,qG,qW,hset,h0,e6,h1,h8,h9,hx,aU0]
    refine⟨_,_,_,rfl,?_⟩
    simp only[go_sem,qW,h0,e6,h1,h8,h9,aJ h' hf]
   ·have hmv:dZ keep l[k]=l[k]:=by
     have:jK l[k]=false:=by simpa[jK]using hg
     rw[dZ,if_neg (by rw[this];decide)]
    simp only[go_sem,qC,qG,qW,hg,h0,e6,h1,h8,h9,bXp]
    refine⟨_,_,_,rfl,?_⟩
    rw[bAg h' hmv];simp only[go_sem,qC,qG,qW,h0,e6,h1,h8,h9,aJ h' hf]
  ·have:k=l.length:=by simp at hq;omega
   subst this;have hml:(dW keep l).length=l.length:=by simp[dW]
   rw[bAf]at e6;have htk:((dW keep l).map aG.enc).take l.length=(dW keep l).map aG.enc:=bXs (by simp[hml])
   simp only[go_sem,qC,qG,qW,h0,e6,h1,h8,h9,hml,htk,bXd,if_true,bXj]
theorem bAh {o:aI}{keep:List Int}(h: ∀x∈dG o,x∈keep):(∀x∈cP o.vals,x∈keep)/\ ∀f∈o.frames,(∀x∈cP f.env,x∈keep)/\ ∀x∈cP f.vals,x∈keep:=by
 refine⟨fun x hx=>h x (bYo _ hx),fun f hf=>⟨fun x hx=>h x (bYl _ (bYk.2 ⟨f,hf,bYo _ hx⟩)),fun x hx=>h x (bYl _ (bYk.2 ⟨f,hf,bYl _ hx⟩))⟩⟩
theorem aC8 (o:aI)(keep:List Int)(hs:dE o=true)(hin: ∀x∈dG o,x∈keep):PC L 110 [.agg [.int .i64 o.form,.int .i64 o.n,.fz (o.vals.map aG.enc),.fz (o.frames.map aC.enc)],.fm (keep.map (.int .i64)) (hU keep)] (.agg [.int .i64 (cA keep o).form,.int .i64 (cA keep o).n,.fz ((cA keep o).vals.map aG.enc),.fz ((cA keep o).frames.map aC.enc)]):=by
 obtain⟨b1,b2,b3⟩:=aK9 hs;obtain⟨i1,i2⟩:=bAh hin;have hf:Few o.frames.length:=by unfold Few;omega
 refine aL bEe rfl rfl ?_
 simp only[go_sem,qC,qG,qW,aM2,iO (v:= .fm (keep.map (.int .i64)) (hU keep)) rfl rfl]
 refine aO ?_
 simp only[go_sem,qC,qG,qW,bXe,bXf,bXh,bXi,bXg,bXc,if_false,(mP o.vals keep (by omega) i1).ret]
 refine bD o.frames.length (fun k st=> ∃fr en cnt v,st=⟨fr,en,cnt⟩/\ fr 4= .ptr ⟨0,4,0⟩ 0/\ en ⟨0,4,0⟩=some (.box [.int .i64 0,.int .i64 0,.cl [],.cl []] false)/\ en ⟨0,3,0⟩=some (.box [.fm (keep.map (.int .i64)) (hU keep)] true)/\ fr 5= .fn 143 [] [.ptr ⟨0,3,0⟩ 0]/\ fr 6= .ptr ⟨0,6,0⟩ 0/\ en ⟨0,6,0⟩=some (.box [.int .i64 o.form,.int .i64 o.n,.fz ((dW keep o.vals).map aG.enc),v] false)/\ fr 20= .fz (o.frames.map aC.enc)/\ fr 21= .int .i64 o.frames.length/\ fr 22= .int .i64 k/\ cG en v 3 (((o.frames.take k).map (iZ keep)).map aC.enc) [40]) 0 (bXl _) ⟨_,_,_,.cl [],rfl,by simp only[go_sem,qW],by simp only[go_sem,qW],by simp only[go_sem,qW],by simp only[go_sem,qW],by simp only[go_sem,qW],by simp only[go_sem,qW],by simp only[go_sem,qW],by simp only[go_sem,qW],by simp only[go_sem,qW],cG.nil _ _⟩ ?_
 rintro k st hk ⟨fr,en,cnt,v,rfl,h4,e4,e3,h5,h6,e6,h20,h21,h22,hv⟩
 simp only[go_sem,qC,qG,qW,h4,e4,e3,h5,h6,e6,h20,h21,h22]
 refine aA (fun hq=>?_) (fun hq=>?_)
 ·have h':k<o.frames.length:=of_decide_eq_true hq;have hb:=b3 _ (bXn h');have hi:=i2 _ (bXn h');simp only[go_sem,qC,qG,qW,h',h4,e4,e3,h5,h6,e6,h20,h21,h22]
  refine aO ?_
  simp only[go_sem,qC,qG,qW,h',h4,e4,e3,h5,h6,e6,h20,h21,h22,bXe,bXf,bXh,bXi,bXg,bXc,if_false,(mP _ keep (show o.frames[k].env.length<=16777216 by omega) hi.1).ret,(mP _ keep (show o.frames[k].vals.length<=16777216 by omega) hi.2).ret]
  refine nM (D:=[40]) (xs:=((o.frames.take k).map (iZ keep)).map aC.enc) (ys:=[aC.enc (iZ keep o.frames[k])]) (rs:=[]) ?_ ?_ ?_ rfl ?_ ?_
  ·simp only[go_sem,qW];exact hv.keep fun t g ht=>by simp at ht;subst ht;simp only[go_sem,qW]
  ·rw[aP9];simp only[go_sem,qW]
  ·rfl
  ·simp;omega
  ·intro v' en' cnt' r hown hen hcnt _ _ _;have k3:en' ⟨0,3,0⟩=some (.box [.fm (keep.map (.int .i64)) (hU keep)] true):=by rw[hen 0 3 0 (.inr ⟨by decide,by simp⟩)];simp only[go_sem,qW,e3]
   have k4:en' ⟨0,4,0⟩=some (.box [.int .i64 0,.int .i64 0,.cl [],.cl []] false):=by rw[hen 0 4 0 (.inr ⟨by decide,by simp⟩)];simp only[go_sem,qW,e4]
   have k6:en' ⟨0,6,0⟩=some (.box [.int .i64 o.form,.int .i64 o.n,.fz ((dW keep o.vals).map aG.enc),v] false):=by rw[hen 0 6 0 (.inr ⟨by decide,by simp⟩)];simp only[go_sem,qW,e6]
   obtain⟨s1,s2⟩:=hown.shape;simp only[go_sem,qC,qG,qW,h4,k4,k3,h5,h6,k6,h20,h21,h22,s1,s2,bXe,bXf,bXh,bXi,bXg,bXc,if_false]
   refine⟨_,_,_,v',rfl,?_⟩
   simp only[go_sem,qC,qG,qW,h4,k4,k3,h5,h6,k6,h20,h21,h22,aJ h' hf];rw[dF h',bXw,bXw]
   refine cG.sub (D:=[40,40]) (cG.keep (en:=en') hown ?_) (by simp)
   intro t g ht;simp at ht;subst ht;simp only[go_sem,qW]
 ·have:k=o.frames.length:=by simp at hq;omega
  subst this;rw[bYc]at hv;simp only[go_sem,qC,qG,qW,h4,e4,e3,h5,h6,e6,h20,h21,h22];obtain⟨r,ks,s1,s2,_⟩:=(hv.keep (en':=en.set ⟨0,4,0⟩ (some (.box [.int .i64 o.form,.int .i64 o.n,.fz ((dW keep o.vals).map aG.enc),v] false))) fun t g ht=>by simp at ht;subst ht;simp only[go_sem,qW]).snap 6
  simp only[go_sem,qC,qG,qW,s1,s2];rfl
theorem aNz (keep:List Int){k:Nat}(h:k<keep.length):hU (keep.take (k+1))=hU (keep.take k)++[.int .i64 (k:Nat)]:=by
 have h1:(keep.take (k+1)).length=k+1:=by simp;omega
 have h2:(keep.take k).length=k:=by simp;omega
 rw[hU,hU,h1,h2,bY1,bXw];rfl
theorem aN0 {keep:List Int}(hn:keep.Pairwise (· < ·)){k:Nat}(h:k<keep.length):keep[k]∉keep.take k:=by
 intro hm;obtain⟨i,hi,he⟩:=List.mem_iff_getElem.1 hm;have hik:i<k:=by simp at hi;omega
 rw[List.getElem_take]at he;have:=cAf.1 hn i k (by omega) h hik
 omega
theorem aIa (w:aB)(keep:List Int)(hw:w.few)(hsm:aY w=true)(hk:keep.length<=140)(hn:keep.Pairwise (· < ·))(hin: ∀n∈keep,inR n 0 ((w.objs.length:Int)-1)=true)
  (hr: ∀n∈keep,∀x∈dG (w.obj n),x∈keep) (ht: ∀t∈w.tasks,t∈keep):PC L 65 [.agg [.fz (w.objs.map aI.enc),.fz (w.tasks.map (.int .i64)),.fz (w.outs.map aN.enc),.fz (w.ins.map (.int .i64)),.int .i64 w.used],.fz (keep.map (.int .i64))] (.agg [.fz ((aU w keep).objs.map aI.enc),.fz ((aU w keep).tasks.map (.int .i64)),.fz ((aU w keep).outs.map aN.enc),.fz ((aU w keep).ins.map (.int .i64)),.int .i64 (aU w keep).used]):=by
 obtain⟨b1,b2,b3,b4⟩:=iY hsm;have hfk:Few keep.length:=by unfold Few;omega
 have c2:=aBp (w.outs.map aN.enc) (aEd _) (by simp;omega)
 have c3:=jZ (w.ins.map (.int .i64)) (lK _) (by simp;omega)
 refine aL bUv rfl rfl ?_
 simp only[go_sem,qC,qG,qW,bCo]
 refine bD (keep.length) (fun k st=> ∃fr en cnt,st=⟨fr,en,cnt⟩/\ (fr 2= .ptr ⟨0,2,0⟩ 0)/\ (en ⟨0,2,0⟩=some (.box [.fz (w.objs.map aI.enc),.fz (w.tasks.map (.int .i64)),.fz (w.outs.map aN.enc),.fz (w.ins.map (.int .i64)),.int .i64 w.used] false))/\ (fr 4= .ptr ⟨0,4,0⟩ 0)/\ (en ⟨0,4,0⟩=some (.box [.cl [],.cl [],.cl [],.cl [],.int .i64 0] false))/\ (fr 1= .fz (keep.map (.int .i64)))/\ (fr 5= .mp ⟨0,13,0⟩)/\ (fr 14= .fz (keep.map (.int .i64)))/\ (fr 15= .int .i64 keep.length)/\ (fr 16= .int .i64 k)/\ (en ⟨0,13,0⟩=some (.map ((keep.take k).map (.int .i64)) (hU (keep.take k)) false))) 0 (bXl _) ⟨_,_,_,rfl,(by first|(simp only[go_sem,qW];(try rfl);done)|rfl|simp),(by first|(simp only[go_sem,qW];(try rfl);done)|rfl|simp),(by first|(simp only[go_sem,qW];(try rfl);done)|rfl|simp),(by first|(simp only[go_sem,qW];(try rfl);done)|rfl|simp),(by first|(simp only[go_sem,qW];(try rfl);done)|rfl|simp),(by first|(simp only[go_sem,qW];(try rfl);done)|rfl|simp),(by first|(simp only[go_sem,qW];(try rfl);done)|rfl|simp),(by first|(simp only[go_sem,qW];(try rfl);done)|rfl|simp),(by first|(simp only[go_sem,qW];(try rfl);done)|rfl|simp),(by first|(simp only[go_sem,qW];(try rfl);done)|rfl|simp)⟩ ?_
 rintro k st hk ⟨fr,en,cnt,rfl,h2,e2,h4,e4,h1,h5,h14,h15,h16,e13⟩
 simp only[go_sem,qC,qG,qW,h2,e2,h4,e4,h1,h5,h14,h15,h16,e13]
 refine aA (fun hq=>?_) (fun hq=>?_)
 ·have h':k<keep.length:=of_decide_eq_true hq;have hnt:=aN0 hn h';have hps:=aNz keep h';have hmp:(keep.take (k+1)).map (Val.int .i64)=(keep.take k).map (.int .i64)++[.int .i64 keep[k]]:=by rw[dF h',bXw];rfl
  have hfd:=xJ keep[k] (keep.take k);rw[if_neg hnt]at hfd;simp only[go_sem,qC,qG,qW,h',h2,e2,h4,e4,h1,h5,h14,h15,h16,e13,hfd,bY6,Bool.and_self,if_true]
  refine⟨_,_,_,rfl,?_⟩
  simp only[go_sem,qC,qG,qW,h2,e2,h4,e4,h1,h5,h14,h15,h16,e13,aJ h' hfk,hps,hmp]
 ·have:k=keep.length:=by simp at hq;omega
  subst this;rw[bYc]at e13;simp only[go_sem,qC,qG,qW,h2,e2,h4,e4,h1,h5,h14,h15,h16,e13];obtain⟨g8,hg8⟩: ∃g,g=cnt 0 8:=⟨_,rfl⟩
  obtain⟨g27,hg27⟩: ∃g,g=cnt 0 27:=⟨_,rfl⟩
  obtain⟨g30,hg30⟩: ∃g,g=cnt 0 30:=⟨_,rfl⟩
  refine aUw (fun st=>st.fr 1= .fz (keep.map (.int .i64))/\ st.fr 2= .ptr ⟨0,2,0⟩ 0/\ st.en ⟨0,2,0⟩=some (.box [.fz (w.objs.map aI.enc),.fz (w.tasks.map (.int .i64)),.fz (w.outs.map aN.enc),.fz (w.ins.map (.int .i64)),.int .i64 w.used] false)/\ st.fr 4= .ptr ⟨0,4,0⟩ 0/\ st.en ⟨0,4,0⟩=some (.box [.cl [],.cl [],.cl [],.cl [],.int .i64 0] false)/\ st.fr 5= .mp ⟨0,13,0⟩/\ st.en ⟨0,13,0⟩=some (.map (keep.map (.int .i64)) (hU keep) false)/\ st.fr 8= .ptr ⟨0,8,g8⟩ 0/\
   ∃vO vI,st.en ⟨0,8,g8⟩=some (.box [.cl [],.cl [],vO,vI,.int .i64 w.used] false)/\ cG st.en vO 2 (w.outs.map aN.enc) [27]/\ cG st.en vI 1 (w.ins.map (.int .i64)) [30]) ?_ ?_
  ·refine aO ?_
   rcases iQ 2 (w.outs.map aN.enc)with⟨o1,o2⟩|⟨o1,o2⟩<;>rw[o2]at c2<;>
   rcases iQ 1 (w.ins.map (Val.int .i64))with⟨i1,i2⟩|⟨i1,i2⟩<;>rw[i2]at c3
   all_goals simp only[go_sem,qC,qG,qW,h2,e2,h4,e4,h1,h5,h14,h15,h16,e13,e13,<-hg8,<-hg27,<-hg30,bXe,bXf,bXh,bXi,bXg,bXc,if_false,bX3,c2.ret,c3.ret,bXj,bXd,if_true,qL,dC,bR,cW,bL]
   all_goals refine⟨_,_,rfl,?_,?_⟩
   all_goals first
    |exact .inl ⟨rfl,by assumption⟩
    |exact aEy (by simp only[go_sem,qW];try rfl) (by simp only[bXj])
  ·clear h1 h2 e2 h4 e4 h5 e13 h14 h15 h16
   rintro fr en cnt ⟨h1,h2,e2,h4,e4,h5,e13,h8,vO,vI,e8,mO,mI⟩
   dsimp only at h1 h2 e2 h4 e4 h5 e13 h8 e8 mO mI;simp only[go_sem,qC,qG,qW,h1,h2,e2,h4,e4,h5,e13,h8,e8]
   refine bD keep.length (fun k st=> ∃fr en cnt v f,st=⟨fr,en,cnt⟩/\ fr 1= .fz (keep.map (.int .i64))/\ fr 2= .ptr ⟨0,2,0⟩ 0/\ en ⟨0,2,0⟩=some (.box [.fz (w.objs.map aI.enc),.fz (w.tasks.map (.int .i64)),.fz (w.outs.map aN.enc),.fz (w.ins.map (.int .i64)),.int .i64 w.used] false)/\ fr 4= .ptr ⟨0,4,0⟩ 0/\ en ⟨0,4,0⟩=some (.box [.cl [],.cl [],.cl [],.cl [],.int .i64 0] false)/\ fr 5= .mp ⟨0,13,0⟩/\ en ⟨0,13,0⟩=some (.map (keep.map (.int .i64)) (hU keep) f)/\ fr 8= .ptr ⟨0,8,g8⟩ 0/\
    en ⟨0,8,g8⟩=some (.box [v,.cl [],vO,vI,.int .i64 w.used] false)/\ fr 34= .fz (keep.map (.int .i64))/\ fr 35= .int .i64 keep.length/\ fr 36= .int .i64 k/\ cG en vO 2 (w.outs.map aN.enc) [27]/\ cG en vI 1 (w.ins.map (.int .i64)) [30]/\ cG en v 4 (((keep.take k).map fun n=>cA keep (w.obj n)).map aI.enc) [50]) 0 (bXl _)
    ⟨_,_,_,.cl [],false,rfl,by simp only[go_sem,h1],by simp only[go_sem,h2],by simp only[go_sem,e2],by simp only[go_sem,h4],by simp only[go_sem,e4],by simp only[go_sem,h5],by simp only[go_sem,e13],by simp only[go_sem,h8],by simp only[go_sem,e8],by simp only[go_sem,qW],by simp only[go_sem,qW],by simp only[go_sem,qW],mO,mI,cG.nil _ _⟩ ?_
   clear h1 h2 e2 h4 e4 h5 e13 h8 e8 mO mI
   rintro k st hk' ⟨fr,en,cnt,v,f,rfl,h1,h2,e2,h4,e4,h5,e13,h8,e8,h34,h35,h36,mO,mI,hv⟩
   simp only[go_sem,qC,qG,qW,h1,h2,e2,h4,e4,h5,e13,h8,e8,h34,h35,h36]
   refine aA (fun hq=>?_) (fun hq=>?_)
   ·have h':k<keep.length:=of_decide_eq_true hq;have hm:=bXn h';have hi:=hin _ hm;have hrn:=aC8 (w.obj keep[k]) keep (jY hsm _ (aBt hi)) (hr _ hm);simp only[go_sem,qC,qG,qW,h',h1,h2,e2,h4,e4,h5,e13,h8,e8,h34,h35,h36]
    refine aO ?_
    simp only[go_sem,qC,qG,qW,h',h1,h2,e2,h4,e4,h5,e13,h8,e8,h34,h35,h36,uK hi,hrn.ret,aUy,aZ3,aP2,aGw,bXe,bXf,bXh,bXi,bXg,bXc,if_false]
    refine nM (D:=[50]) (xs:=((keep.take k).map fun n=>cA keep (w.obj n)).map aI.enc) (ys:=[aI.enc (cA keep (w.obj keep[k]))]) (rs:=[]) ?_ ?_ ?_ rfl ?_ ?_
    ·simp only[go_sem,qW];exact hv.keep fun t g ht=>by simp at ht;subst ht;simp only[go_sem,qW]
    ·rw[aQa];simp only[go_sem,qW];rfl
    ·rfl
    ·simp;omega
    ·intro v' en' cnt' r hown hen hcnt _ _ _;have k2:en' ⟨0,2,0⟩=some (.box [.fz (w.objs.map aI.enc),.fz (w.tasks.map (.int .i64)),.fz (w.outs.map aN.enc),.fz (w.ins.map (.int .i64)),.int .i64 w.used] false):=by rw[hen 0 2 0 (.inr ⟨by decide,by simp⟩)];simp only[go_sem,qW,e2]
     have k4:en' ⟨0,4,0⟩=some (.box [.cl [],.cl [],.cl [],.cl [],.int .i64 0] false):=by rw[hen 0 4 0 (.inr ⟨by decide,by simp⟩)];simp only[go_sem,qW,e4]
     have k8:en' ⟨0,8,g8⟩=some (.box [v,.cl [],vO,vI,.int .i64 w.used] false):=by rw[hen 0 8 g8 (.inr ⟨by decide,by simp⟩)];simp only[go_sem,qW,e8]
     have k13:en' ⟨0,13,0⟩=some (.map (keep.map (.int .i64)) (hU keep) true):=by rw[hen 0 13 0 (.inr ⟨by decide,by simp⟩)];simp only[go_sem,qW,e13]
     obtain⟨s1,s2⟩:=hown.shape;simp only[go_sem,qC,qG,qW,h1,h2,k2,h4,k4,h5,k13,h8,k8,h34,h35,h36,s1,s2,bXe,bXf,bXh,bXi,bXg,bXc,if_false]
     refine⟨_,_,_,v',true,rfl,?_⟩
     simp only[go_sem,qC,qG,qW,h1,h2,k2,h4,k4,h5,k13,h8,k8,h34,h35,h36,aJ h' hfk]
     refine⟨?_,?_,?_⟩
     ·exact mO.keep fun t g ht=>by simp at ht;subst ht;simp only[go_sem,qW,hen 0 27 g (.inr ⟨by decide,by simp⟩)]
     ·exact mI.keep fun t g ht=>by simp at ht;subst ht;simp only[go_sem,qW,hen 0 30 g (.inr ⟨by decide,by simp⟩)]
     ·rw[aNy h',bXw]
      refine cG.sub (D:=[50,50]) (cG.keep (en:=en') hown ?_) (by simp)
      intro t g ht;simp at ht;subst ht;simp only[go_sem,qW]
   ·have:k=keep.length:=by simp at hq;omega
    subst this;rw[bYc]at hv;simp only[go_sem,qC,qG,qW,h1,h2,e2,h4,e4,h5,e13,h8,e8,h34,h35,h36]
    refine bD w.tasks.length (fun j st=> ∃fr en cnt vt,st=⟨fr,en,cnt⟩/\ fr 4= .ptr ⟨0,4,0⟩ 0/\ en ⟨0,4,0⟩=some (.box [.cl [],.cl [],.cl [],.cl [],.int .i64 0] false)/\ fr 5= .mp ⟨0,13,0⟩/\ en ⟨0,13,0⟩=some (.map (keep.map (.int .i64)) (hU keep) f)/\ fr 8= .ptr ⟨0,8,g8⟩ 0/\
     en ⟨0,8,g8⟩=some (.box [v,vt,vO,vI,.int .i64 w.used] false)/\ fr 54= .fz (w.tasks.map (.int .i64))/\ fr 55= .int .i64 w.tasks.length/\ fr 56= .int .i64 j/\ cG en vO 2 (w.outs.map aN.enc) [27]/\ cG en vI 1 (w.ins.map (.int .i64)) [30]/\ cG en v 4 ((keep.map fun n=>cA keep (w.obj n)).map aI.enc) [50]/\
     cG en vt 1 (((w.tasks.take j).map fun t=>(keep.idxOf t:Int)).map (.int .i64)) [66]) 0 (bXl _)
     ⟨_,_,_,.cl [],rfl,by simp only[go_sem,h4],by simp only[go_sem,e4],by simp only[go_sem,h5],by simp only[go_sem,e13],by simp only[go_sem,h8],by simp only[go_sem,e8],by simp only[go_sem,qW],by simp only[go_sem,qW],by simp only[go_sem,qW],mO,mI,hv,cG.nil _ _⟩ ?_
    clear h1 h2 e2 h4 e4 h5 e13 h8 e8 h34 h35 h36 mO mI hv
    rintro j st hj' ⟨fr,en,cnt,vt,rfl,h4,e4,h5,e13,h8,e8,h54,h55,h56,mO,mI,hv,mt⟩
    simp only[go_sem,qC,qG,qW,h4,e4,h5,e13,h8,e8,h54,h55,h56]
    refine aA (fun hq2=>?_) (fun hq2=>?_)
    ·have h2':j<w.tasks.length:=of_decide_eq_true hq2;have hlk:=aU1 (ht _ (bXn h2'));simp only[go_sem,qC,qG,qW,h2',h4,e4,h5,e13,h8,e8,h54,h55,h56,hlk]
     refine pR (D:=[66]) (xs:=((w.tasks.take j).map fun t=>(keep.idxOf t:Int)).map (.int .i64)) (ys:=[.int .i64 (keep.idxOf w.tasks[j]:Nat)]) (rs:=[]) ?_ ?_ ?_ ?_ ?_
     ·simp only[go_sem,qW];exact mt
     ·simp only[go_sem,qW]
     ·rfl
     ·simp;omega
     ·intro vt' en' cnt' hown hen hcnt;have k4:en' ⟨0,4,0⟩=some (.box [.cl [],.cl [],.cl [],.cl [],.int .i64 0] false):=by rw[hen 0 4 0 (.inr ⟨by decide,by simp⟩)];simp only[go_sem,qW,e4]
      have k8:en' ⟨0,8,g8⟩=some (.box [v,vt,vO,vI,.int .i64 w.used] false):=by rw[hen 0 8 g8 (.inr ⟨by decide,by simp⟩)];simp only[go_sem,qW,e8]
      have k13:en' ⟨0,13,0⟩=some (.map (keep.map (.int .i64)) (hU keep) f):=by rw[hen 0 13 0 (.inr ⟨by decide,by simp⟩)];simp only[go_sem,qW,e13]
      obtain⟨s1,s2⟩:=hown.shape;simp only[go_sem,qC,qG,qW,h4,k4,h5,k13,h8,k8,h54,h55,h56,s1,s2]
      refine⟨_,_,_,vt',rfl,?_⟩
      simp only[go_sem,qC,qG,qW,h4,k4,h5,k13,h8,k8,h54,h55,h56,aJ h2' hw.tasks]
      refine⟨?_,?_,?_,?_⟩
      ·exact mO.keep fun t g ht=>by simp at ht;subst ht;simp only[go_sem,qW,hen 0 27 g (.inr ⟨by decide,by simp⟩)]
      ·exact mI.keep fun t g ht=>by simp at ht;subst ht;simp only[go_sem,qW,hen 0 30 g (.inr ⟨by decide,by simp⟩)]
      ·exact hv.keep fun t g ht=>by simp at ht;subst ht;simp only[go_sem,qW,hen 0 50 g (.inr ⟨by decide,by simp⟩)]
      ·rw[dF h2',bXw,bXw]
       refine cG.sub (D:=[66,66]) (cG.keep (en:=en') hown ?_) (by simp)
       intro t g ht;simp at ht;subst ht;simp only[go_sem,qW]
    ·have:j=w.tasks.length:=by simp at hq2;omega
     subst this;rw[bYc]at mt;simp only[go_sem,qC,qG,qW,h4,e4,h5,e13,h8,e8,h54,h55,h56];have e': ∀t g,¬t=4->(en.set ⟨0,4,0⟩ (some (.box [v,vt,vO,vI,.int .i64 w.used] false))) ⟨0,t,g⟩=en ⟨0,t,g⟩:=fun t g h=>aKf h
     obtain⟨x1,ks1,a1,a2,_⟩:=(hv.keep (en':=en.set ⟨0,4,0⟩ (some (.box [v,vt,vO,vI,.int .i64 w.used] false))) fun t g ht=>e' t g (by simp at ht;omega)).snap 6
     obtain⟨x2,ks2,d1,d2,_⟩:=(mt.keep (en':=en.set ⟨0,4,0⟩ (some (.box [v,vt,vO,vI,.int .i64 w.used] false))) fun t g ht=>e' t g (by simp at ht;omega)).snap 6
     obtain⟨x3,ks3,f1,f2,_⟩:=(mO.keep (en':=en.set ⟨0,4,0⟩ (some (.box [v,vt,vO,vI,.int .i64 w.used] false))) fun t g ht=>e' t g (by simp at ht;omega)).snap 6
     obtain⟨x4,ks4,y1,y2,_⟩:=(mI.keep (en':=en.set ⟨0,4,0⟩ (some (.box [v,vt,vO,vI,.int .i64 w.used] false))) fun t g ht=>e' t g (by simp at ht;omega)).snap 6
     simp only[go_sem,qC,qG,qW,a1,a2,d1,d2,f1,f2,y1,y2];rfl
def pE (keep:List Int)(x:Int):Bool:=keep.any fun y=>decide (y=x)
theorem aBu {keep:List Int}{x:Int}:pE keep x=true↔x∈keep:=by
 unfold pE;rw[bZm];exact⟨fun⟨y,h,e⟩=>by rw[<-of_decide_eq_true e];exact h,fun h=>⟨x,h,by simp⟩⟩
def aGy (keep:List Int)(i:Nat):Int:=keep.getD i 0
theorem nP {keep:List Int}{i:Nat}(h:i<keep.length):aGy keep i=keep[i]:=by simp[aGy,bXm,h]
end Go.Proofs.YthpmfghgoabnhaaGreat
namespace Go.Proofs.YthpmfghgoabnhaaGreat
open Go.Abs Go.Proofs
inductive mQ (w:aB):Nat->Prop
 |task {i:Nat} (h:i<w.objs.length) (t:bF (w.obj i)=true):mQ w i
 |ref {i:Nat} {x:Int} (h:mQ w i) (hx:x∈dG (w.obj i)):mQ w x.toNat
noncomputable def aLa (w:aB)(i:Nat):Bool:= @decide (mQ w i) (Classical.propDecidable _)
theorem aGz {w:aB}{i:Nat}:aLa w i=true↔mQ w i:=by unfold aLa;exact @decide_eq_true_iff _ (Classical.propDecidable _)
noncomputable def sX (w:aB):List Bool:=(List.range w.objs.length).map (aLa w)
def atB (out:List Bool)(i:Nat):Bool:=out.getD i false
def yO (w:aB)(out:List Bool)(i:Nat):Prop:=atB out i=true-> ∀x∈dG (w.obj i),atB out x.toNat=true
structure aJd (w:aB) (out:List Bool):Prop where
 len:out.length=w.objs.length
 sound: ∀i,atB out i=true->mQ w i
 tasks: ∀i,i<w.objs.length->bF (w.obj i)=true->atB out i=true
def kW (w:aB):Prop:= ∀o∈w.objs,∀x∈dG o,inR x 0 ((w.objs.length:Int)-1)=true
theorem bAi {out:List Bool}{i:Nat}(h:atB out i=true):i<out.length:=by
 by_cases hl:i<out.length
 ·exact hl
 ·rw[atB,bXm,cAb (by omega)]at h;cases h
theorem yP {out:List Bool}{i:Nat}(h:i<out.length):atB out i=out[i]:=by simp[atB,bXm,h]
theorem aU4 {out:List Bool}{i j:Nat}(hi:i<out.length):atB (out.set i true) j=(decide (i=j)||atB out j):=by
 simp only[atB,bXm,bZh]
 by_cases h:i=j
 ·subst h;simp[hi]
 ·simp[h]
theorem aQb {w:aB}{out:List Bool}(g:aJd w out)(hs: ∀i,i<w.objs.length->yO w out i):out=sX w:=by
 have key: ∀i,mQ w i->atB out i=true:=by
  intro i h
  induction h with
  |task h t=>exact g.tasks _ h t
  |ref h hx ih=>exact hs _ (by rw[<-g.len];exact bAi ih) ih _ hx
 apply bZe
 ·simp[sX,g.len]
 ·intro i h1 h2;rw[<-yP h1];simp only[sX,bZb,bZx];rw[bZr,aGz];exact⟨g.sound i,key i⟩
def aAj (out:List Bool):Nat:=out.countP fun b=>!b
theorem aQc {out:List Bool}{i:Nat}(h:i<out.length)(hf:atB out i=false):aAj (out.set i true)<aAj out:=by
 have hp:0<aAj out:=List.countP_pos_iff.2 ⟨out[i],bXn h,by rw[<-yP h,hf];rfl⟩
 unfold aAj at hp⊢;rw[List.countP_set h];rw[yP h]at hf;simp only[hf,bXz,if_true,bXp,bXc,if_false];omega
theorem aWx {w:aB}{out:List Bool}(g:aJd w out){i:Nat}(h:i<out.length)(hr:mQ w i):aJd w (out.set i true):=by
 refine⟨by simp[g.len],fun j hj=>?_,fun j hj ht=>?_⟩
 ·rw[aU4 h]at hj;rcases bZv _ _▸hj with hj|hj
  ·rw[<-of_decide_eq_true hj];exact hr
  ·exact g.sound j hj
 ·rw[aU4 h,g.tasks j hj ht,bXg]
def bGe (w:aB)(out0 out:List Bool)(c:Bool)(R:Prop):Prop:=aJd w out/\ (c=false->out=out0/\ R)/\ (c=true->aAj out<aAj out0)
theorem aJe {out:List Bool}{j:Nat}(h:j<out.length):(out.map Val.bool)[j]?=some (.bool (atB out j)):=by rw[yP h];simp[h]
theorem aWy {out:List Bool}{j:Nat}:(out.map Val.bool).set j (.bool true)=(out.set j true).map .bool:=by rw[bYu]
theorem aG0 (w:aB)(hw:w.few)(hsm:aY w=true)(hin:kW w):PC L 24 [.agg [.fz (w.objs.map aI.enc),.fz (w.tasks.map (.int .i64)),.fz (w.outs.map aN.enc),.fz (w.ins.map (.int .i64)),.int .i64 w.used]] (.fz ((sX w).map .bool)):=by
 obtain⟨b1,b2,b3,b4⟩:=iY hsm;have hmk:w.objs.length<=16777216:=by omega
 have hz:(upto (fun(i:Nat)=>bF (w.obj i)) (fun _=>false) w.objs.length 0).map Val.bool=List.replicate w.objs.length (.bool false):=by rw[aC6];simp[List.map_const']
 refine aL bUe rfl rfl ?_
 simp only[go_sem,qC,qG,qW,bCa,aCw hmk]
 refine bD (w.objs.length) (fun k st=> ∃fr en cnt,st=⟨fr,en,cnt⟩/\ (fr 1= .ptr ⟨0,1,0⟩ 0)/\ (en ⟨0,1,0⟩=some (.box [.fz (w.objs.map aI.enc),.fz (w.tasks.map (.int .i64)),.fz (w.outs.map aN.enc),.fz (w.ins.map (.int .i64)),.int .i64 w.used] false))/\ (fr 3= .bl ⟨0,12,0⟩ 0 w.objs.length)/\ (fr 4= .int .i64 k)/\ (en ⟨0,12,0⟩=some (.blk 1 ((upto (fun(i:Nat)=>bF (w.obj i)) (fun _=>false) w.objs.length k).map .bool) false))) 0 (bXl _) ⟨_,_,_,rfl,(by first|(simp only[go_sem,hz];(try rfl);done)|rfl|simp),(by first|(simp only[go_sem,hz];(try rfl);done)|rfl|simp),(by first|(simp only[go_sem,hz];(try rfl);done)|rfl|simp),(by first|(simp only[go_sem,hz];(try rfl);done)|rfl|simp),(by first|(simp only[go_sem,hz];(try rfl);done)|rfl|simp)⟩ ?_
 rintro k st hk ⟨fr,en,cnt,rfl,h1,e1,h3,h4,e12⟩
 simp only[go_sem,qC,qG,qW,h1,e1,h3,h4,e12]
 refine aA (fun hq=>?_) (fun hq=>?_)
 ·have h':k<w.objs.length:=of_decide_eq_true hq;have hlu:(upto (fun(i:Nat)=>bF (w.obj i)) (fun _=>false) w.objs.length k).length=w.objs.length:=by rw[xH];omega
  have hget:((upto (fun(i:Nat)=>bF (w.obj i)) (fun _=>false) w.objs.length k).map Val.bool)[k]?=some (.bool false):=by simp[aNt h']
  have hset:((upto (fun(i:Nat)=>bF (w.obj i)) (fun _=>false) w.objs.length k).map Val.bool).set k (.bool (bF (w.obj k)))=(upto (fun(i:Nat)=>bF (w.obj i)) (fun _=>false) w.objs.length (k+1)).map .bool:=by rw[aNu h',bYu]
  have hc1:(0:Int)<=(k:Int):=by omega
  have hc2:(k:Int)<(w.objs.length:Int):=by omega
  simp only[go_sem,qC,qG,qW,h1,e1,h3,h4,e12,h',(aD9 w k h').ret,hlu,hget,hc1,hc2,true_and,and_true,eq_self,if_true,bX2,bXx,bXj]
  refine⟨_,_,_,rfl,?_⟩
  simp only[go_sem,qC,qG,qW,h1,e1,h3,h4,e12,hset,aJ h' hw.objs]
 ·have:k=w.objs.length:=by simp at hq;omega
  subst this;rw[yN (bXd _)]at e12;have g0:aJd w ((List.range w.objs.length).map fun(i:Nat)=>bF (w.obj i)):=by
   refine⟨by simp,fun i hi=>?_,fun i hi ht=>?_⟩
   ·have hl:=bAi hi;rw[yP hl]at hi
    simp at hi hl
    exact .task hl hi
   ·rw[yP (by simpa using hi)];simpa using ht
  simp only[go_sem,qC,qG,qW,h1,e1,h3,h4,e12]
  refine Go.Abs.wp_loop (fun(x:List Bool×Bool) (st:Go.Abs.St)=> ∃fr en cnt,st=⟨fr,en,cnt⟩/\ fr 1= .ptr ⟨0,1,0⟩ 0/\ en ⟨0,1,0⟩=some (.box [.fz (w.objs.map aI.enc),.fz (w.tasks.map (.int .i64)),.fz (w.outs.map aN.enc),.fz (w.ins.map (.int .i64)),.int .i64 w.used] false)/\ fr 3= .bl ⟨0,12,0⟩ 0 w.objs.length/\ fr 5= .bool x.2/\ en ⟨0,12,0⟩=some (.blk 1 (x.1.map .bool) false)/\ aJd w x.1/\ (x.2=false-> ∀i,i<w.objs.length->yO w x.1 i))
   (fun x=>2*aAj x.1+(if x.2=true then 1 else 0)) ((List.range w.objs.length).map fun(i:Nat)=>bF (w.obj i),true)
   ⟨_,_,_,rfl,by simp only[go_sem,h1],by simp only[go_sem,e1],by simp only[go_sem,h3],by simp only[go_sem,qW],by simp only[go_sem,e12],g0,fun h=>by cases h⟩ ?_
  rintro⟨out0,c0⟩ st ⟨fr,en,cnt,rfl,h1,e1,h3,h5,e12,g,hsh⟩
  dsimp only at h5 e12 g hsh⊢;simp only[go_sem,qC,qG,qW,h1,e1,h3,h5,e12]
  refine aA (fun hc=>?_) (fun hc=>?_)
  ·subst hc;simp only[go_sem,qC,qG,qW,h1,e1,h3,h5,e12]
   refine bD w.objs.length (fun k st=> ∃fr en cnt out c,st=⟨fr,en,cnt⟩/\ fr 1= .ptr ⟨0,1,0⟩ 0/\ en ⟨0,1,0⟩=some (.box [.fz (w.objs.map aI.enc),.fz (w.tasks.map (.int .i64)),.fz (w.outs.map aN.enc),.fz (w.ins.map (.int .i64)),.int .i64 w.used] false)/\ fr 3= .bl ⟨0,12,0⟩ 0 w.objs.length/\ fr 5= .bool c/\ fr 6= .int .i64 k/\ en ⟨0,12,0⟩=some (.blk 1 (out.map .bool) false)/\ bGe w out0 out c (∀i,i<k->yO w out i)) 0 (bXl _)
    ⟨_,_,_,out0,false,rfl,by simp only[go_sem,h1],by simp only[go_sem,e1],by simp only[go_sem,h3],by simp only[go_sem,qW],by simp only[go_sem,qW],by simp only[go_sem,e12],g,fun _=>⟨rfl,fun i hi=>by omega⟩,fun h=>by cases h⟩ ?_
   clear h1 e1 h3 h5 e12
   rintro k st hk' ⟨fr,en,cnt,out,c,rfl,h1,e1,h3,h5,h6,e12,hm⟩
   simp only[go_sem,qC,qG,qW,h1,e1,h3,h5,h6,e12]
   refine aA (fun hq2=>?_) (fun hq2=>?_)
   ·have h':k<w.objs.length:=of_decide_eq_true hq2;have hso:=jY hsm _ (bXn h');have hlen:=aI8 hso;have hfl:Few (iE w.objs[k]).length:=by unfold Few;omega
    have hino:=hin _ (bXn h');simp only[go_sem,qC,qG,qW,h',h1,e1,h3,h5,h6,e12,(aEb _ hso).ret]
    refine bD (iE w.objs[k]).length (fun j st=> ∃fr en cnt out c,st=⟨fr,en,cnt⟩/\ fr 1= .ptr ⟨0,1,0⟩ 0/\ en ⟨0,1,0⟩=some (.box [.fz (w.objs.map aI.enc),.fz (w.tasks.map (.int .i64)),.fz (w.outs.map aN.enc),.fz (w.ins.map (.int .i64)),.int .i64 w.used] false)/\ fr 3= .bl ⟨0,12,0⟩ 0 w.objs.length/\ fr 5= .bool c/\ fr 6= .int .i64 k/\ fr 7= .fz ((iE w.objs[k]).map (.int .i64))/\ fr 8= .int .i64 j/\ en ⟨0,12,0⟩=some (.blk 1 (out.map .bool) false)/\
     bGe w out0 out c ((∀i,i<k->yO w out i)/\ ∀x∈(iE w.objs[k]).take j,atB out x.toNat=true)) 0 (bXl _)
     ⟨_,_,_,out,c,rfl,by simp only[go_sem,h1],by simp only[go_sem,e1],by simp only[go_sem,h3],by simp only[go_sem,h5],by simp only[go_sem,h6],by simp only[go_sem,qW],by simp only[go_sem,qW],by simp only[go_sem,e12],hm.1,fun h=>⟨(hm.2.1 h).1,(hm.2.1 h).2,by simp⟩,hm.2.2⟩ ?_
    clear h1 e1 h3 h5 h6 e12 hm
    rintro j st hj' ⟨fr,en,cnt,out,c,rfl,h1,e1,h3,h5,h6,h7,h8,e12,hm⟩
    have hol:=hm.1.len;have hko:k<out.length:=by omega
    have hgk:=aJe hko;have hc1:(0:Int)<=(k:Int):=by omega
    have hc2:(k:Int)<(w.objs.length:Int):=by omega
    have shut:yO w out k-> ∀(c':Bool),c'=c->bGe w out0 out c' (∀i,i<k+1->yO w out i):=by
     rintro hr c' rfl
     refine⟨hm.1,fun h=>⟨(hm.2.1 h).1,fun i hi=>?_⟩,hm.2.2⟩
     by_cases hik:i<k
     ·exact(hm.2.1 h).2.1 i hik
     ·have:i=k:=by omega
      subst this;exact hr
    simp only[go_sem,qC,qG,qW,h',h1,e1,h3,h5,h6,h7,h8,e12,hol]
    refine aE (fun g1=>?_) (fun g1=>?_)
    ·have h2':j<(iE w.objs[k]).length:=of_decide_eq_true g1;simp only[go_sem,qC,qG,qW,g1,h',h2',h1,e1,h3,h5,h6,h7,h8,e12,hol,hgk,hc1,hc2,true_and,and_true,eq_self,if_true,bX2,bXx,bXj]
     refine aA (fun g2=>?_) (fun g2=>?_)
     ·have hxm:=(kG _ _).1 (bXn h2');have hxi:=hino _ hxm;simp only[inR,cAg]at hxi;obtain⟨m,hm2⟩:=bYr hxi.1;have hmn:m<w.objs.length:=by omega
      have hmo:m<out.length:=by omega
      have hgm:=aJe hmo;have hc3:(0:Int)<=(m:Int):=by omega
      have hc4:(m:Int)<(w.objs.length:Int):=by omega
      have hreach:mQ w m:=by
       have:=mQ.ref (x:=(iE w.objs[k])[j]) (hm.1.sound k g2) (by rw[dH h'];exact hxm)
       rw[hm2]at this;exact this
      simp only[go_sem,qC,qG,qW,h',h2',h1,e1,h3,h5,h6,h7,h8,e12,hol,hm2,hgm,hc3,hc4,true_and,and_true,eq_self,if_true,bX2,bXx,bXj]
      refine aA (fun g3=>?_) (fun g3=>?_)
      ·have g3':atB out m=false:=by simpa using g3
       have hsm':=aWy (out:=out) (j:=m);simp only[go_sem,qC,qG,qW,h',h2',h1,e1,h3,h5,h6,h7,h8,e12,hol,hm2,hgm,hsm',hc3,hc4,true_and,and_true,eq_self,if_true,bX2,bXx,bXj]
       refine⟨_,_,_,out.set m true,true,rfl,?_⟩
       simp only[go_sem,qC,qG,qW,h',h2',h1,e1,h3,h5,h6,h7,h8,hsm',aJ h2' hfl]
       refine⟨aWx hm.1 hmo hreach,(fun h=>by cases h),fun _=>?_⟩
       have hlt:=aQc hmo g3';cases c with
       |false=>rw[<-(hm.2.1 rfl).1];exact hlt
       |true=>exact Nat.lt_trans hlt (hm.2.2 rfl)
      ·have g3':atB out m=true:=by simpa using g3
       simp only[go_sem,qC,qG,qW,h',h2',h1,e1,h3,h5,h6,h7,h8,e12,hol]
       refine⟨_,_,_,out,c,rfl,?_⟩
       simp only[go_sem,qC,qG,qW,h',h2',h1,e1,h3,h5,h6,h7,h8,e12,aJ h2' hfl]
       refine⟨hm.1,fun h=>⟨(hm.2.1 h).1,(hm.2.1 h).2.1,fun x hx=>?_⟩,hm.2.2⟩
       rw[dF h2',bX1]at hx;rcases hx with hx|hx
       ·exact(hm.2.1 h).2.2 x hx
       ·simp only[bYi]at hx;rw[hx,hm2];exact g3'
     ·simp only[go_sem,qC,qG,qW,h',h1,e1,h3,h5,h6,h7,h8,e12,hol]
      refine⟨_,_,_,out,c,rfl,?_⟩
      simp only[go_sem,qC,qG,qW,h',h1,e1,h3,h5,h6,h7,h8,e12,aJ h' hw.objs];exact shut (fun h=>by rw[g2]at h;cases h) c rfl
    ·have hjl:j=(iE w.objs[k]).length:=by simp at g1;omega
     simp only[go_sem,qC,qG,qW,g1,h',h1,e1,h3,h5,h6,h7,h8,e12,hol,bXp]
     refine⟨_,_,_,out,c,rfl,?_⟩
     simp only[go_sem,qC,qG,qW,h',h1,e1,h3,h5,h6,h7,h8,e12,aJ h' hw.objs]
     refine⟨hm.1,fun h=>⟨(hm.2.1 h).1,fun i hi=>?_⟩,hm.2.2⟩
     by_cases hik:i<k
     ·exact(hm.2.1 h).2.1 i hik
     ·have:i=k:=by omega
      subst this;intro _ x hx;rw[dH h']at hx;have hmm:=(kG _ _).2 hx;have:=(hm.2.1 h).2.2 x;rw[hjl,bYc]at this;exact this hmm
   ·have:k=w.objs.length:=by simp at hq2;omega
    subst this;simp only[go_sem,qC,qG,qW,h1,e1,h3,h5,h6,e12]
    refine⟨(out,c),⟨_,_,_,rfl,by simp only[go_sem,h1],by simp only[go_sem,e1],by simp only[go_sem,h3],by simp only[go_sem,h5],by simp only[go_sem,e12],hm.1,fun h=>(hm.2.1 h).2⟩,?_⟩
    dsimp only;cases c with
    |false=>rw[(hm.2.1 rfl).1];simp
    |true=>have:=hm.2.2 rfl;simp;omega
  ·subst hc;have hout:=aQb g (hsh rfl);simp only[go_sem,qC,qG,qW,h1,e1,h3,h5,e12,g.len,true_and,and_true,eq_self,if_true,bX2,bXx,bXj];have htk:(out0.map Val.bool).take w.objs.length=out0.map .bool:=bXs (by simp[g.len])
   simp only[go_sem,qC,qG,qW,bXd,if_true,htk];rw[hout]
def bMn (out:List Int)(o:aI):List Int:=o.frames.foldl (fun out f=>fM (fM out f.env) f.vals) (fM out o.vals)
def bGf (w:aB):List Int:=w.tasks.foldl bVi []
def aJf (w:aB):Nat->List Int->Nat->List Int
 |0,out,_=>out
 |f+1,out,i=>if i<out.length then aJf w f (bMn out (w.obj (aGy out i))) (i+1)else out
def bGg (w:aB):List Int:=aJf w (w.objs.length+1) (bGf w) 0
structure bW7 (n:Nat) (a b:List Int):Prop where
 pre:a<+:b
 once:b.Nodup
def InR (w:aB)(l:List Int):Prop:= ∀x∈l,inR x 0 ((w.objs.length:Int)-1)=true
end Go.Proofs.YthpmfghgoabnhaaGreat
namespace Go.Proofs.YthpmfghgoabnhaaGreat
open Go.Abs Go.Proofs
def aEt (en:En)(v:Val)(xs:List Val)(D:List Nat):Prop:=
 (v= .cl []/\ xs=[]) \/ ∃t g zs,v= .bl ⟨0,t,g⟩ 0 xs.length/\ en ⟨0,t,g⟩=some (.blk 1 zs false)/\ xs.length<=zs.length/\ zs.take xs.length=xs/\ t∈D
theorem aEt.keep {en en':En}{v:Val}{xs:List Val}{D:List Nat}(h:aEt en v xs D)(k: ∀t g,t∈D->en' ⟨0,t,g⟩=en ⟨0,t,g⟩):aEt en' v xs D:=by
 rcases h with h|⟨t,g,zs,h1,h2,h3,h4,h5⟩
 ·exact .inl h
 ·exact .inr ⟨t,g,zs,h1,by rw[k t g h5];exact h2,h3,h4,h5⟩
theorem aEt.sub {en:En}{v:Val}{xs:List Val}{D D':List Nat}(h:aEt en v xs D)(k: ∀t∈D,t∈D'):aEt en v xs D':=by
 rcases h with h|⟨t,g,zs,h1,h2,h3,h4,h5⟩
 ·exact .inl h
 ·exact .inr ⟨t,g,zs,h1,h2,h3,h4,k t h5⟩
theorem aEt.len {en:En}{v:Val}{xs:List Val}{D:List Nat}(h:aEt en v xs D):vH v=some xs.length:=by
 rcases h with⟨rfl,rfl⟩|⟨t,g,zs,rfl,_⟩<;>rfl
theorem aEt.shape {en:En}{v:Val}{xs:List Val}{D:List Nat}(h:aEt en v xs D):v.one=true/\ v.cells=[v]:=by
 rcases h with⟨rfl,_⟩|⟨t,g,zs,rfl,_⟩<;>exact⟨rfl,rfl⟩
section
variable {L :cV}{fr:Nat->Val}{en:En}{cnt:Nat->Nat->Nat}{Q:St->Prop}{l:List bH}{d:Nat}
end
theorem aG1 {f g:Nat->Nat}{j:Nat}: ∀n,j<n->(∀i,i≠j->f i=g i)->((List.range n).map f).sum+g j=((List.range n).map g).sum+f j
 |0,h,_=>by omega
 |n+1,h,he=>by
  rw[bY1,bXw,bXw,List.sum_append,List.sum_append];simp only[bYa,bXv,List.sum_cons,List.sum_nil]
  by_cases hj:j<n
  ·have:=aG1 n hj he;rw[he n (by omega)];omega
  ·have hjn:j=n:=by omega
   subst hjn;have:(List.range j).map f=(List.range j).map g:=bYm fun i hi=>he i (by simp at hi;omega)
   rw[this];omega
theorem xK (ks:List Int)(n x:Int):pE (ks++[n]) x=(pE ks x||decide (n=x)):=by simp[pE,List.any_append]
structure bVj (w:aB) (ks td:List Int):Prop where
 met: ∀x∈ks,∃i:Nat,x=i/\ i<w.objs.length/\ mQ w i
 todo: ∀x∈td,∃i:Nat,x=i/\ i<w.objs.length/\ mQ w i
 tasks: ∀x∈w.tasks,x∈ks \/x∈td
 shut: ∀n∈ks,∀x∈dG (w.obj n),x∈ks \/x∈td
theorem aEt.nil {en:En}{v:Val}{xs:List Val}{D:List Nat}(h:aEt en v xs D)(h0:xs.length=0):xs=[]:=List.eq_nil_of_length_eq_zero h0
theorem aBv (w:aB): ∀(l met:List Int),bB w met l=true-> ∀t∈l,∃i:Nat,t=i/\ i<w.objs.length/\ bF (w.obj i)=true
 |[],_,_,t,h=>by cases h
 |k::l,met,hd,t,h=>by
  simp only[bB,bXb]at hd;rcases bYe.1 h with rfl|h
  ·have h1:=hd.1.1.1;simp only[inR,cAg]at h1;obtain⟨j,rfl⟩:=bYr h1.1;exact⟨j,rfl,by omega,hd.1.1.2⟩
  ·exact aBv w l _ hd.2 t h
theorem sH {p:aP}{w:aB}(h:eV p w=true):(∀t∈w.tasks,∃i:Nat,t=i/\ i<w.objs.length/\ bF (w.obj i)=true)/\ ∀i:Nat,i<w.objs.length->bF (w.obj i)=true->(i:Int)∈w.tasks:=by
 have ht:rI w=true:=by
  simp only[eV,gG,bXb]at h;rw[aAh];exact h.2.1.1.2
 simp only[rI,bXb]at ht
 refine⟨aBv w _ _ ht.1,fun i hi hk=>?_⟩
 have:=ht.2;simp only[yM,bXo]at this;have h2:=this i (by simpa using hi)
 rw[hk]at h2;simp only[bXp,Bool.or_false,bZm,cAg]at h2;obtain⟨x,hx,rfl⟩:=h2;exact hx
theorem aAk {keep:List Int}{l:List aG}(h:Few l.length):Few (dW keep l).length:=by simpa[dW]using h
theorem aQd {keep:List Int}{o:aI}(h:o.few):(cA keep o).few:=by
 refine⟨aAk h.1,by simpa[cA]using h.2.1,fun f hf=>?_⟩
 obtain⟨g,hg,rfl⟩:=bXy.1 hf;have:=h.2.2 g hg;exact⟨aAk this.1,aAk this.2⟩
theorem aEf {w:aB}{keep:List Int}(hw:w.few)(hsm:aY w=true)(hk:Few keep.length)(hin: ∀x∈keep,inR x 0 ((w.objs.length:Int)-1)=true):(aU w keep).few:=by
 refine⟨by simpa[aU]using hk,by simpa[aU]using hw.tasks,hw.outs,hw.ins,fun o ho=>?_⟩
 obtain⟨n,hn,rfl⟩:=bXy.1 ho;exact aQd (yK (jY hsm _ (aBt (hin n hn))))
def bQ (m:List Int)(i:Nat):Int:=m.getD i 0
theorem tP {m:List Int}{i:Nat}(h:i<m.length):bQ m i=m[i]:=by simp[bQ,bXm,h]
theorem tQ {m:List Int}{i:Nat}(h:m.length<=i):bQ m i=0:=by simp[bQ,bXm,cAb h]
def gX (m:List Int)(n:Nat)(seen:List Int):List Int:=(List.range m.length).map fun i=>if i=n then 2 else if bQ m i=0/\ pE seen (i:Nat)=true then 1 else bQ m i
theorem fL (m:List Int)(n:Nat)(seen:List Int):(gX m n seen).length=m.length:=by simp[gX]
theorem kI {m:List Int}{n:Nat}{seen:List Int}{i:Nat}(h:i<m.length):bQ (gX m n seen) i=if i=n then 2 else if bQ m i=0/\ pE seen (i:Nat)=true then 1 else bQ m i:=by
 rw[tP (by rw[fL];exact h)];simp[gX]
theorem aWz {m:List Int}{n:Nat}(h:n<m.length):m.set n 2=gX m n []:=by
 apply bZe
 ·simp[gX]
 ·intro i h1 h2;have hi:i<m.length:=by simpa using h1
  simp only[List.getElem_set,gX,bZb,bZx,tP hi]
  by_cases hn:n=i
  ·simp[hn]
  ·have hn': ¬i=n:=fun e=>hn e.symm
   simp[hn,hn',pE]
theorem aW0 {m:List Int}{n:Nat}{seen:List Int}{j:Nat}(hj:j<m.length)(h0:bQ (gX m n seen) j=0):(gX m n seen).set j 1=gX m n (seen++[(j:Int)]):=by
 rw[kI hj]at h0;apply bZe
 ·simp[gX]
 ·intro i h1 h2;simp only[List.getElem_set,gX,bZb,bZx,xK]
  by_cases hji:j=i
  ·subst hji
   by_cases hn:j=n
   ·rw[if_pos hn]at h0;cases h0
   ·rw[if_neg hn]at h0;have hm:bQ m j=0:=by
     split at h0
     ·cases h0
     ·exact h0
    simp[hn,hm]
  ·have:decide ((j:Int)=(i:Int))=false:=by simp;omega
   simp only[this,Bool.or_false,if_neg hji]
theorem aQe {m:List Int}{n:Nat}{seen:List Int}{j:Nat}(hj:j<m.length)(h0: ¬bQ (gX m n seen) j=0):gX m n (seen++[(j:Int)])=gX m n seen:=by
 rw[kI hj]at h0;unfold gX
 refine bYm fun i _=>?_
 rw[xK]
 by_cases hji:j=i
 ·subst hji
  by_cases hn:j=n
  ·simp[hn]
  ·rw[if_neg hn]at h0
   by_cases hm:bQ m j=0
   ·by_cases hs:pE seen (j:Nat)=true
    ·simp[hs]
    ·rw[if_neg (fun h=>hs h.2)]at h0;exact absurd hm h0
   ·simp[hm]
 ·have:decide ((j:Int)=(i:Int))=false:=by simp;omega
  simp only[this,Bool.or_false]
def eH (w:aB)(m:List Int)(n:Nat):List Int:=gX m n (dG (w.obj n))
def dX :List Int->Nat
 |[]=>0
 |x::l=>if x=1 then 0 else dX l+1
theorem lM : ∀m:List Int,dX m<=m.length/\ (∀i,i<dX m-> ¬bQ m i=1)/\ (dX m<m.length->bQ m (dX m)=1)
 |[]=>⟨bXd _,fun i h=>(by cases h),fun h=>(by cases h)⟩
 |x::l=>by
  obtain⟨h1,h2,h3⟩:=lM l
  by_cases hx:x=1
  ·simp[dX,hx,bQ]
  ·simp only[dX,if_neg hx,bXu]
   refine⟨by omega,fun i hi=>?_,fun hl=>?_⟩
   ·cases i with
    |zero=>simpa[bQ]using hx
    |succ i=>have:=h2 i (by omega);simpa[bQ]using this
   ·have:=h3 (by omega);simpa[bQ]using this
theorem aW1 {m:List Int}{n:Nat}(hn:n<m.length)(h1:bQ m n=1)(h2: ∀i,i<n-> ¬bQ m i=1):dX m=n:=by
 obtain⟨a,b,c⟩:=lM m
 by_cases h:dX m<n
 ·exact absurd (c (by omega)) (h2 _ h)
 ·by_cases h':n<dX m
  ·exact absurd h1 (b _ h')
  ·omega
theorem aN1 {m:List Int}(h2: ∀i,i<m.length-> ¬bQ m i=1):dX m=m.length:=by
 obtain⟨a,b,c⟩:=lM m
 by_cases h:dX m<m.length
 ·exact absurd (c h) (h2 _ h)
 ·omega
def cU (w:aB):Nat->List Int->List Int
 |0,m=>m
 |k+1,m=>if dX m<m.length then cU w k (eH w m (dX m))else m
theorem aJg {w:aB}{m:List Int}(h: ¬dX m<m.length)(k:Nat):cU w k m=m:=by
 cases k with
 |zero=>rfl
 |succ k=>rw[cU,if_neg h]
theorem aBw (w:aB): ∀(k:Nat) (m:List Int),(cU w k m).length=m.length
 |0,m=>rfl
 |k+1,m=>by
  rw[cU];split
  ·rw[aBw w k,eH,fL]
  ·rfl
structure nE (w:aB) (m:List Int):Prop where
 len:m.length=w.objs.length
 range: ∀i,i<m.length->bQ m i=0 \/bQ m i=1 \/bQ m i=2
 tasks: ∀i,i<w.objs.length->bF (w.obj i)=true-> ¬bQ m i=0
 black: ∀i,i<w.objs.length->bQ m i=2-> ∀x∈dG (w.obj i),¬bQ m x.toNat=0
theorem aLb {m:List Int}{n:Nat}{seen:List Int}{i:Nat}(h: ¬bQ m i=0): ¬bQ (gX m n seen) i=0:=by
 have hi:i<m.length:=by
  by_cases hl:i<m.length
  ·exact hl
  ·exact absurd (tQ (by omega)) h
 rw[kI hi];split
 ·omega
 ·rw[if_neg (fun hh=>h hh.1)];exact h
theorem aG2 {w:aB}{m:List Int}(hin:kW w)(h:nE w m)(n:Nat):nE w (eH w m n):=by
 refine⟨by rw[eH,fL];exact h.len,fun i hi=>?_,fun i hi ht=>aLb (h.tasks i hi ht),fun i hi hb x hx=>?_⟩
 ·rw[eH,fL]at hi;rw[eH,kI hi];split
  ·exact .inr (.inr rfl)
  ·split
   ·exact .inr (.inl rfl)
   ·exact h.range i hi
 ·have hg:w.obj i∈w.objs:=by rw[dH hi];exact bXn _
  have hxi:=hin _ hg x hx;simp only[inR,cAg]at hxi;obtain⟨j,rfl⟩:=bYr hxi.1;have hj:j<m.length:=by rw[h.len];omega
  rw[eH,kI (by rw[h.len];exact hi)]at hb
  rw[bXx]
  by_cases hin':i=n
  ·subst hin';rw[eH,kI hj];split
   ·omega
   ·split
    ·omega
    ·rename_i h2;intro h0;exact h2 ⟨h0,aBu.2 hx⟩
  ·rw[if_neg hin']at hb
   split at hb
   ·omega
   ·have:=h.black i hi hb _ hx;rw[bXx]at this;exact aLb this
theorem tR {w:aB}(hin:kW w): ∀(k:Nat) {m:List Int},nE w m->nE w (cU w k m)
 |0,m,h=>h
 |k+1,m,h=>by
  rw[cU];split
  ·exact tR hin k (aG2 hin h _)
  ·exact h
def eW (m:List Int):Nat:=((List.range m.length).map fun i=>if bQ m i=2 then 0 else 1).sum
theorem zH {m:List Int}{n:Nat}{seen:List Int}(hn:n<m.length)(h1:bQ m n=1):eW (gX m n seen)+1=eW m:=by
 have:=aG1 (f:=fun i=>if bQ (gX m n seen) i=2 then 0 else 1) (g:=fun i=>if bQ m i=2 then 0 else 1) m.length hn (fun i hi=>by
  by_cases hl:i<m.length
  ·rw[kI hl,if_neg hi]
   by_cases hc:bQ m i=0/\ pE seen (i:Nat)=true
   ·rw[if_pos hc,hc.1];rfl
   ·rw[if_neg hc]
  ·rw[tQ (m:=m) (by omega),tQ (m:=gX m n seen) (by rw[fL];omega)])
 have e1:bQ (gX m n seen) n=2:=by rw[kI hn,if_pos rfl]
 simp only[e1,h1,if_true]at this;rw[eW,eW,fL]
 simpa using this
def kP (m:List Int)(k:Nat):List Int:=((List.range k).filter fun i=>decide (bQ m i=0)).map fun(i:Nat)=>(i:Int)
def dP (m:List Int)(k:Nat):List Int:=((List.range k).filter fun i=>!decide (bQ m i=0)).map fun(i:Nat)=>(i:Int)
def jM (s:aX)(m:List Int)(k:Nat):List Int:=((List.range k).filter fun i=>!decide (bQ m i=0)).map fun(i:Nat)=>min (oG s i+1) 2
theorem bGh {m:List Int}{k:Nat}(h:bQ m k=0):kP m (k+1)=kP m k++[(k:Int)]:=by
 rw[kP,bY1,bZy,bXw];simp[h,kP]
theorem bGi {m:List Int}{k:Nat}(h: ¬bQ m k=0):kP m (k+1)=kP m k:=by
 rw[kP,bY1,bZy,bXw];simp[h,kP]
theorem bGj {m:List Int}{k:Nat}(h: ¬bQ m k=0):dP m (k+1)=dP m k++[(k:Int)]:=by
 rw[dP,bY1,bZy,bXw];simp[h,dP]
theorem bGk {m:List Int}{k:Nat}(h:bQ m k=0):dP m (k+1)=dP m k:=by
 rw[dP,bY1,bZy,bXw];simp[h,dP]
theorem bGl {s:aX}{m:List Int}{k:Nat}(h: ¬bQ m k=0):jM s m (k+1)=jM s m k++[min (oG s k+1) 2]:=by
 rw[jM,bY1,bZy,bXw];simp[h,jM]
theorem bGm {s:aX}{m:List Int}{k:Nat}(h:bQ m k=0):jM s m (k+1)=jM s m k:=by
 rw[jM,bY1,bZy,bXw];simp[h,jM]
theorem aN2 (m:List Int)(k:Nat):(kP m k).length<=k:=by
 have:=List.length_filter_le (fun i=>decide (bQ m i=0)) (List.range k)
 simpa[kP]using this
theorem aAl (m:List Int)(k:Nat):(dP m k).length<=k:=by
 have:=List.length_filter_le (fun i=>!decide (bQ m i=0)) (List.range k)
 simpa[dP]using this
theorem nG (s:aX)(m:List Int)(k:Nat):(jM s m k).length=(dP m k).length:=by simp[jM,dP]
theorem xL {m:List Int}{k:Nat}{x:Int}:x∈dP m k↔ ∃i:Nat,x=i/\ i<k/\ ¬bQ m i=0:=by
 simp only[dP,bXy,bY0,bYz,bYh,cAh];exact⟨fun⟨i,⟨h1,h2⟩,h3⟩=>⟨i,h3.symm,h1,h2⟩,fun⟨i,h3,h1,h2⟩=>⟨i,⟨h1,h2⟩,h3.symm⟩⟩
theorem aW2 (m:List Int)(k:Nat):(dP m k).Pairwise (· < ·):=by
 unfold dP;rw[List.pairwise_map];exact(List.Pairwise.filter _ List.pairwise_lt_range).imp fun h=>by omega
theorem bAj {w:aB}{m:List Int}: ∀x∈dP m w.objs.length,inR x 0 ((w.objs.length:Int)-1)=true:=by
 intro x hx;obtain⟨i,rfl,hi,_⟩:=xL.1 hx;simp only[inR,cAg];omega
theorem zI (keep:List Int)(l:List aG):cP (dW keep l)=(cP l).map fun x=>(keep.idxOf x:Int):=by
 induction l with
 |nil=>rfl
 |cons v l ih=>
  have hk:jK (dZ keep v)=jK v:=rfl
  by_cases h:jK v=true
  ·have e:dW keep (v::l)=dZ keep v::dW keep l:=rfl;rw[e,yH (hk.trans h),yH h,ih];simp[dZ,h]
  ·have h':jK v=false:=by simpa using h
   have e:dW keep (v::l)=dZ keep v::dW keep l:=rfl;rw[e,yI (hk.trans h'),yI h',ih]
theorem aAm (keep:List Int)(o:aI):dG (cA keep o)=(dG o).map fun x=>(keep.idxOf x:Int):=by
 have hf: ∀l:List aC,(l.map (iZ keep)).flatMap cX=(l.flatMap cX).map fun x=>(keep.idxOf x:Int):=by
  intro l
  induction l with
  |nil=>rfl
  |cons f l ih=>
   simp only[bYa,bZ3,bXw,ih]
   congr 1
   simp only[cX,iZ,zI,bXw]
 simp only[dG,cA,zI,hf,bXw]
structure yV (w:aB) (keep:List Int):Prop where
 rise:keep.Pairwise (· < ·)
 rng: ∀x∈keep,inR x 0 ((w.objs.length:Int)-1)=true
 refs: ∀n∈keep,∀x∈dG (w.obj n),x∈keep
 len:keep.length<=w.objs.length
theorem aQf {w:aB}{keep:List Int}(h:yV w keep):kW (aU w keep):=by
 intro o ho x hx;obtain⟨n,hn,rfl⟩:=bXy.1 ho;rw[aAm]at hx;obtain⟨y,hy,rfl⟩:=bXy.1 hx;have:=List.idxOf_lt_length_of_mem (h.refs n hn y hy);simp only[inR,cAg,aU,bXj];omega
theorem aN3 {keep:List Int}{o:aI}(h:dE o=true):dE (cA keep o)=true:=by
 simp only[dE,bXb,cAg,bXo]at h⊢
 refine⟨⟨by simpa[cA,dW]using h.1.1,by simpa[cA]using h.1.2⟩,fun f hf=>?_⟩
 obtain⟨g,hg,rfl⟩:=bXy.1 hf;have:=h.2 g hg
 simpa[iZ,dW]using this
theorem zJ {w:aB}{keep:List Int}(hs:aY w=true)(h:yV w keep):aY (aU w keep)=true:=by
 have hl:=h.len;have hso:=jY hs;simp only[aY,bXb,cAg,bXo]at hs⊢
 refine⟨⟨⟨⟨by simp only[aU,bXj];omega,by simpa[aU]using hs.1.1.1.2⟩,hs.1.1.2⟩,hs.1.2⟩,fun o ho=>?_⟩
 obtain⟨n,hn,rfl⟩:=bXy.1 ho;exact aN3 (hso _ (aBt (h.rng n hn)))
theorem aAn {w:aB}{m:List Int}(h:nE w m)(hin:kW w)(hg: ¬dX m<m.length):yV w (dP m w.objs.length)/\ ∀t,(∃i:Nat,t=(i:Int)/\ i<w.objs.length/\ bF (w.obj i)=true)->t∈dP m w.objs.length:=by
 obtain⟨a,b,_⟩:=lM m
 refine⟨⟨aW2 m _,bAj,fun n hn x hx=>?_,aAl m _⟩,fun t ⟨i,h1,h2,h3⟩=>xL.2 ⟨i,h1,h2,h.tasks i h2 h3⟩⟩
 obtain⟨i,rfl,hi,hm⟩:=xL.1 hn;have h1: ¬bQ m i=1:=b i (by have:=h.len;omega)
 have h2:bQ m i=2:=by
  rcases h.range i (by rw[h.len];exact hi)with h|h|h
  ·exact absurd h hm
  ·exact absurd h h1
  ·exact h
 have hgm:w.obj i∈w.objs:=by rw[dH hi];exact bXn _
 have hxi:=hin _ hgm x hx;simp only[inR,cAg]at hxi;exact xL.2 ⟨x.toNat,by omega,by omega,h.black i hi h2 x hx⟩
def lP (s:aX)(m:List Int):aX:=⟨aU s.world (dP m s.world.objs.length),jM s m s.world.objs.length,gH lt2 (aU s.world (dP m s.world.objs.length)) (jM s m s.world.objs.length) ((s.cycle+1).tmod 4),(s.cycle+1).tmod 4⟩
def bI (s:aX)(most:Nat):aX:=if dX (cU s.world most s.marks)<(cU s.world most s.marks).length then⟨s.world,s.ages,cU s.world most s.marks,s.cycle⟩else lP s (cU s.world most s.marks)
def pF (s:aX)(most:Nat):List Int:=if dX (cU s.world most s.marks)<(cU s.world most s.marks).length then []else kP (cU s.world most s.marks) s.world.objs.length
def gJ (s:aX)(most:Nat):Bool:=!decide (dX (cU s.world most s.marks)<(cU s.world most s.marks).length)
theorem aG3 {m:List Int}{i:Nat}(h:i<m.length):(m.map (Val.int .i64))[i]?=some (.int .i64 (bQ m i)):=by simp[tP h,h]
theorem aN4 {m:List Int}{i:Nat}{x:Int}:(m.map (Val.int .i64)).set i (.int .i64 x)=(m.set i x).map (.int .i64):=by rw[bYu]
theorem kH.shape {en:En}{v:Val}{size:Nat}{xs:List Val}{t:Nat}(h:kH en v size xs t):v.one=true/\ v.cells=[v]:=h.mine.shape
theorem kH.keep {en en':En}{v:Val}{size:Nat}{xs:List Val}{t:Nat}(h:kH en v size xs t)(k: ∀g,en' ⟨0,t,g⟩=en ⟨0,t,g⟩):kH en' v size xs t:=by
 rcases h with h|⟨g,h1,h2⟩
 ·exact .inl h
 ·exact .inr ⟨g,h1,by rw[k];exact h2⟩
def ne2 (a:Int):Bool:=!decide (a=2)
theorem bDi {α:Type}{a b:List α}(h: ∀x,x∈a↔x∈b)(p:α->Bool):a.any p=b.any p:=by
 rw[bZr];simp only[bZm];exact⟨fun⟨x,hx,k⟩=>⟨x,(h x).1 hx,k⟩,fun⟨x,hx,k⟩=>⟨x,(h x).2 hx,k⟩⟩
theorem aQg {ages:List Int}(h: ∀a∈ages,inR a 0 2=true)(r:Int):inR (qB ages r) 0 2=true:=by
 unfold qB;rw[bXm];cases hg:ages[r.toNat]? with
 |none=>rfl
 |some a=>exact h a (List.mem_of_getElem? hg)
theorem aN5 {w:aB}{ages:List Int}(h: ∀a∈ages,inR a 0 2=true)(c:Int)(i:Nat):dI ne2 w ages c i=dI lt2 w ages c i:=by
 have: ∀r,ne2 (qB ages r)=lt2 (qB ages r):=fun r=>by
  have:=aQg h r;simp only[inR,cAg]at this;rw[bZr];simp[ne2,lt2];omega
 simp only[dI,this]
def vS (ages:List Int)(done:List Int):Int:=if done.any (fun r=>ne2 (qB ages r))=true then 1 else 2
theorem aQh (ages:List Int)(done:List Int)(x:Int):vS ages (done++[x])=if ne2 (qB ages x)=true then 1 else vS ages done:=by
 unfold vS;rw[List.any_append];simp only[bZs,List.any_nil,Bool.or_false]
 by_cases h:ne2 (qB ages x)=true
 ·simp[h]
 ·simp[h]
def OI (w:aB)(ages:List Int)(c:Int)(m:Nat->Int)(k g1 g2 g13 gk:Nat)(vA:Val)(all:List Int)(en0:En)(fr0:Nat->Val)(gl:Nat)(r:List Int)(en:En)(cnt:Nat->Nat->Nat):Prop:=
 en ⟨1,0,gl⟩=some (.loop fr0 [57] (cD.ops [o 4 (.mv (.t 57))]) (cD.block 4 (.seq (.ops [o 58 (.load false 1 (.t 1)),o 59 (.mv (.t 4)),o 60 (.call (.f 117) [(.t 58),(.t 59)]),o 61 (.un .not (.t 60))]) (.cond (.t 61) (.draw [o 62 (.load false 1 (.t 1)),o 63 (.nilck (.t 62)),o 64 (.fa 0 (.t 63)),o 65 (.fa 6 (.t 64)),o 66 (.load false 1 (.t 65)),o 67 (.load false 1 (.t 2)),o 68 (.ia 1 (.t 66) (.t 67)),on (.store 1 (.t 68) (.c (.int .i64 1)))] []) .skip))) .ready)/\ en ⟨0,1,g1⟩=some (.box [.ptr ⟨0,16,gk⟩ 0] false)/\ en ⟨0,2,g2⟩=some (.box [.int .i64 k] false)/\ en ⟨0,16,gk⟩=some (.box [.fz (w.objs.map aI.enc),.fz (w.tasks.map (.int .i64)),.fz (w.outs.map aN.enc),.fz (w.ins.map (.int .i64)),.int .i64 w.used,vA,.bl ⟨0,13,g13⟩ 0 w.objs.length,.int .i64 c] false)/\ cG en vA 1 (ages.map (.int .i64)) [120]/\ g2+1<=cnt 0 2/\ 1<=cnt 0 6/\ en ⟨0,6,0⟩=en0 ⟨0,6,0⟩/\
 (∀g,en ⟨0,103,g⟩=en0 ⟨0,103,g⟩)/\ ∃done,done++r=all/\ en ⟨0,13,g13⟩=some (.blk 1 (((bZ m w.objs.length k).set k (vS ages done)).map (.int .i64)) false)
theorem aQi (w:aB)(ages:List Int)(c:Int)(m:Nat->Int)(k g1 g2 g13 gk:Nat)(vA:Val)(all:List Int)(en0:En){fr0:Nat->Val}{gl:Nat}{c0:Nat->Nat}(hk:k<w.objs.length)(hal:ages.length=w.objs.length)(q1:fr0 1= .ptr ⟨0,1,g1⟩ 0)(q2:fr0 2= .ptr ⟨0,2,g2⟩ 0)
  (hino: ∀x∈all,inR x 0 ((w.objs.length:Int)-1)=true) (hc2:g2+1<=c0 2) (hc6:1<=c0 6):aAd ⟨1,0,gl⟩ c0 (OI w ages c m k g1 g2 g13 gk vA all en0 fr0 gl) (fun _ _=>False):=by
 refine⟨?_,?_⟩
 ·rintro r en cnt en' cnt' ⟨i1,j1,j2,j16,mA,hg2,hg6,e6,e103,done,hd,j13⟩ hout hcnt hge
  have h2:=hge 2 (by decide)
  have h6:=hge 6 (by decide)
  exact⟨(hout 1 0 gl (.inl (by omega))).trans i1,(hout 0 1 g1 (.inr (.inl (by decide)))).trans j1,(hout 0 2 g2 (.inr (.inr (by omega)))).trans j2,(hout 0 16 gk (.inr (.inl (by decide)))).trans j16,mA.keep fun t g ht=>hout 0 t g (.inr (.inl (by simp at ht;subst ht;decide))),by omega,by omega,(hout 0 6 0 (.inr (.inr (by omega)))).trans e6,fun g=>(hout 0 103 g (.inr (.inl (by decide)))).trans (e103 g),done,hd,(hout 0 13 g13 (.inr (.inl (by decide)))).trans j13⟩
 ·rintro x rest en cnt ⟨i1,j1,j2,j16,mA,hg2,hg6,e6,e103,done,hd,j13⟩
  have hxi:=hino x (by rw[<-hd];simp)
  have hxi':=hxi;simp only[inR,cAg]at hxi';obtain⟨j,rfl⟩:=bYr hxi'.1;have hj:j<ages.length:=by omega
  have hne:ages.map (Val.int .i64)≠[]:=by intro h;have:ages.length=0:=by{rw[<-bXj (f:=Val.int .i64),h];rfl};omega
  obtain⟨L1,hL1⟩: ∃L1,L1=(bZ m w.objs.length k).set k (vS ages done):=⟨_,rfl⟩
  rw[<-hL1]at j13;have hl1:L1.length=w.objs.length:=by rw[hL1];simp[lL]
  obtain⟨ks,s1⟩:=aUz (mA.keep (en':=en.set ⟨1,0,gl⟩ (some (.loop fr0 [57] (cD.ops [o 4 (.mv (.t 57))]) (cD.block 4 (.seq (.ops [o 58 (.load false 1 (.t 1)),o 59 (.mv (.t 4)),o 60 (.call (.f 117) [(.t 58),(.t 59)]),o 61 (.un .not (.t 60))]) (.cond (.t 61) (.draw [o 62 (.load false 1 (.t 1)),o 63 (.nilck (.t 62)),o 64 (.fa 0 (.t 63)),o 65 (.fa 6 (.t 64)),o 66 (.load false 1 (.t 65)),o 67 (.load false 1 (.t 2)),o 68 (.ia 1 (.t 66) (.t 67)),on (.store 1 (.t 68) (.c (.int .i64 1)))] []) .skip))) .busy))) fun t g ht=>by simp at ht;subst ht;exact eE (by intro he;injection he with h1 _ _;omega)) hne 6
  have htk:(L1.map (Val.int .i64)).take w.objs.length=L1.map (.int .i64):=bXs (by simp[hl1])
  have hold:PC L 117 [.fp [.fz (w.objs.map aI.enc),.fz (w.tasks.map (.int .i64)),.fz (w.outs.map aN.enc),.fz (w.ins.map (.int .i64)),.int .i64 w.used,.fz (ages.map (.int .i64)),.fz (L1.map (.int .i64)),.int .i64 c] 0,.int .i64 j] (.bool (decide (ages[j]=2))):=sE ⟨w,ages,L1,c⟩ j hj;have hc1:(0:Int)<=(k:Int):=by omega
  have hc2':(k:Int)<(w.objs.length:Int):=by omega
  have hgk:(L1.map (Val.int .i64))[k]?=some (.int .i64 (vS ages done)):=by rw[hL1];simp[lL,hk]
  have hps:=aQh ages done (j:Int);have han:qB ages (j:Int)=ages[j]:=xD hj
  refine aEw (fr:=fr0) (ps:=[57]) (a:=(cD.ops [o 4 (.mv (.t 57))])) (b:=(cD.block 4 (.seq (.ops [o 58 (.load false 1 (.t 1)),o 59 (.mv (.t 4)),o 60 (.call (.f 117) [(.t 58),(.t 59)]),o 61 (.un .not (.t 60))]) (.cond (.t 61) (.draw [o 62 (.load false 1 (.t 1)),o 63 (.nilck (.t 62)),o 64 (.fa 0 (.t 63)),o 65 (.fa 6 (.t 64)),o 66 (.load false 1 (.t 65)),o 67 (.load false 1 (.t 2)),o 68 (.ia 1 (.t 66) (.t 67)),on (.store 1 (.t 68) (.c (.int .i64 1)))] []) .skip)))) i1 rfl ?_
  simp only[go_sem,qC,qG,qW,q1,q2,i1,j1,j2,j16,j13,s1,hl1,htk,hold.ret,bXd,if_true,bXj]
  refine aA (fun hb=>?_) (fun hb=>?_)
  ·have hyn:ne2 (qB ages (j:Int))=true:=by rw[han];exact hb
   rw[if_pos hyn]at hps;have hst:(L1.map (Val.int .i64)).set k (.int .i64 1)=((bZ m w.objs.length k).set k (vS ages (done++[(j:Int)]))).map (.int .i64):=by rw[hps,hL1,<-bYu,List.set_set]
   simp only[go_sem,qC,qG,qW,q1,q2,i1,j1,j2,j16,j13,hl1,hgk,hst,hc1,hc2',true_and,and_true,eq_self,if_true,bX2,bXx,bXj,bXd]
   refine⟨fun t g ht hg=>?_,fun _ _=>trivial,.inl ⟨?_,?_,?_,?_,?_,hg2,hg6,?_,?_,done++[(j:Int)],by rw[<-hd];simp,?_⟩⟩
   ·have n1:(⟨0,t,g⟩:Key)≠⟨1,0,gl⟩:=by intro he;injection he with h1 _ _;omega
    have n2:(⟨0,t,g⟩:Key)≠⟨0,13,g13⟩:=by intro he;injection he with _ h2 h3;subst h2;simp[T4]at ht
    rw[eE n1,eE n2,eE n1]
   ·try simp only[go_sem,qW]
    try rfl
   ·simp only[go_sem,qW,j1]
   ·simp only[go_sem,qW,j2]
   ·simp only[go_sem,qW,j16]
   ·exact mA.keep fun t g ht=>by simp at ht;subst ht;simp only[go_sem,qW];try rfl
   ·simp only[go_sem,qW,e6]
   ·intro g;simp only[go_sem,qW,e103]
   ·simp only[go_sem,qW]
  ·have hyn: ¬ne2 (qB ages (j:Int))=true:=by rw[han];intro h;rw[ne2]at h;rw[h]at hb;cases hb
   rw[if_neg hyn]at hps;simp only[go_sem,qC,qG,qW,q1,q2,i1,j1,j2,j16,j13]
   refine⟨fun t g ht hg=>?_,fun _ _=>trivial,.inl ⟨?_,?_,?_,?_,?_,hg2,hg6,?_,?_,done++[(j:Int)],by rw[<-hd];simp,?_⟩⟩
   ·have n1:(⟨0,t,g⟩:Key)≠⟨1,0,gl⟩:=by intro he;injection he with h1 _ _;omega
    rw[eE n1,eE n1]
   ·try simp only[go_sem,qW]
    try rfl
   ·simp only[go_sem,qW,j1]
   ·simp only[go_sem,qW,j2]
   ·simp only[go_sem,qW,j16]
   ·exact mA.keep fun t g ht=>by simp at ht;subst ht;simp only[go_sem,qW];try rfl
   ·simp only[go_sem,qW,e6]
   ·intro g;simp only[go_sem,qW,e103]
   ·rw[hps,<-hL1];simp only[go_sem,qW,j13]
theorem bAk {en:En}{v:Val}{size t:Nat}{xs:List Val}(h:cG en v size xs [t])(hx:xs≠[])(n:Nat): ∃ks,∀en':En,(∀g,en' ⟨0,t,g⟩=en ⟨0,t,g⟩)->snapD (n+1) en' v=some (.fz xs,ks):=by
 rcases h with⟨_,h⟩|⟨t',g,f,rfl,h2,ht⟩
 ·exact absurd h hx
 ·have:t'=t:=by simpa using ht
  subst this;exact⟨[⟨0,t',g⟩],fun en' he=>by simp[snapD,he,h2]⟩
theorem aJh (w:aB)(ages:List Int)(c:Int)(hw:w.few)(hs:aY w=true)(hal:ages.length=w.objs.length)(har: ∀a∈ages,inR a 0 2=true)(hin:kW w){en:En}{cnt:Nat->Nat->Nat}{gk:Nat}{vA vM:Val}
  (e16:en ⟨0,16,gk⟩=some (.box [.fz (w.objs.map aI.enc),.fz (w.tasks.map (.int .i64)),.fz (w.outs.map aN.enc),.fz (w.ins.map (.int .i64)),.int .i64 w.used,vA,vM,.int .i64 c] false)) (mA:cG en vA 1 (ages.map (.int .i64)) [120]) (c6:1<=cnt 0 6):
  WIn L (.fn 76 [] []) [.ptr ⟨0,16,gk⟩ 0] en cnt fun _ en' cnt'=> ∃g13,en' ⟨0,16,gk⟩=some (.box [.fz (w.objs.map aI.enc),.fz (w.tasks.map (.int .i64)),.fz (w.outs.map aN.enc),.fz (w.ins.map (.int .i64)),.int .i64 w.used,vA,.bl ⟨0,13,g13⟩ 0 w.objs.length,.int .i64 c] false)/\ cG en' vA 1 (ages.map (.int .i64)) [120]/\ en' ⟨0,13,g13⟩=some (.blk 1 ((gH lt2 w ages c).map (.int .i64)) false)/\ en' ⟨0,6,0⟩=en ⟨0,6,0⟩/\ ∀g,en' ⟨0,103,g⟩=en ⟨0,103,g⟩:=by
 obtain⟨b1,b2,b3,b4⟩:=iY hs;have hmk:w.objs.length<=16777216:=by omega
 obtain⟨en0,hen0⟩: ∃e,e=en:=⟨_,rfl⟩
 obtain⟨g1,hg1⟩: ∃g,g=cnt 0 1:=⟨_,rfl⟩
 obtain⟨g13,hg13⟩: ∃g,g=cnt 0 13:=⟨_,rfl⟩
 have hmb:gH lt2 w ages c=(List.range w.objs.length).map (dI ne2 w ages c):=bYm fun i _=>(aN5 har c i).symm
 rw[hmb]
 refine mK bI8 rfl rfl ?_
 simp only[go_sem,qC,qG,qW,aZi,iO (v:= .ptr ⟨0,16,gk⟩ 0) rfl rfl,<-hg1]
 refine aO ?_
 simp only[go_sem,qC,qG,qW,bXe,bXf,bXh,bXi,bXg,bX3,aCw hmk,<-hg1,<-hg13,e16,cW,bL];have hmz:=aBq (dI ne2 w ages c) w.objs.length
 refine bD w.objs.length (fun k st=> ∃fr en cnt,st=⟨fr,en,cnt⟩/\ fr 1= .ptr ⟨0,1,g1⟩ 0/\ en ⟨0,1,g1⟩=some (.box [.ptr ⟨0,16,gk⟩ 0] false)/\ en ⟨0,16,gk⟩=some (.box [.fz (w.objs.map aI.enc),.fz (w.tasks.map (.int .i64)),.fz (w.outs.map aN.enc),.fz (w.ins.map (.int .i64)),.int .i64 w.used,vA,.bl ⟨0,13,g13⟩ 0 w.objs.length,.int .i64 c] false)/\ en ⟨0,13,g13⟩=some (.blk 1 ((bZ (dI ne2 w ages c) w.objs.length k).map (.int .i64)) false)/\ fr 22= .fz (w.objs.map aI.enc)/\ fr 23= .int .i64 w.objs.length/\ fr 24= .int .i64 k/\ cG en vA 1 (ages.map (.int .i64)) [120]/\ 1<=cnt 0 6/\ en ⟨0,6,0⟩=en0 ⟨0,6,0⟩/\ ∀g,en ⟨0,103,g⟩=en0 ⟨0,103,g⟩) 0 (bXl _)
  ⟨_,_,_,rfl,by simp only[go_sem,qW],by simp only[go_sem,qW],by simp only[go_sem,qW],by rw[hmz];simp only[go_sem,qW],by simp only[go_sem,qW],by simp only[go_sem,qW],by simp only[go_sem,qW],mA.keep (fun t g ht=>by simp at ht;subst ht;simp only[go_sem,qW]),by simp only[go_sem,qW];try exact c6,by simp only[go_sem,hen0],by intro g;simp only[go_sem,qW,hen0]⟩ ?_
 clear mA e16 c6
 rintro k st hk ⟨fr,en,cnt,rfl,h1,e1,e16,e13,h22,h23,h24,mA,c6,q6,q103⟩
 simp only[go_sem,qC,qG,qW,h1,e1,e16,h22,h23,h24]
 refine aA (fun hq=>?_) (fun hq=>?_)
 ·have h':k<w.objs.length:=of_decide_eq_true hq;have hka:k<ages.length:=by omega
  obtain⟨g2,hg2⟩: ∃g,g=cnt 0 2:=⟨_,rfl⟩
  obtain⟨g3,hg3⟩: ∃g,g=cnt 0 3:=⟨_,rfl⟩
  have hmg:=aEe (m:=dI ne2 w ages c) h';have hml:=lL (dI ne2 w ages c) w.objs.length k;have hc1:(0:Int)<=(k:Int):=by omega
  have hc2:(k:Int)<(w.objs.length:Int):=by omega
  have hne:ages.map (Val.int .i64)≠[]:=by intro h;have:ages.length=0:=by{rw[<-bXj (f:=Val.int .i64),h];rfl};omega
  obtain⟨ks,s1⟩:=bAk mA hne 6;have htk:((bZ (dI ne2 w ages c) w.objs.length k).map (Val.int .i64)).take w.objs.length=(bZ (dI ne2 w ages c) w.objs.length k).map (.int .i64):=bXs (by simp[lL])
  have hfull:PC L 116 [.fp [.fz (w.objs.map aI.enc),.fz (w.tasks.map (.int .i64)),.fz (w.outs.map aN.enc),.fz (w.ins.map (.int .i64)),.int .i64 w.used,.fz (ages.map (.int .i64)),.fz ((bZ (dI ne2 w ages c) w.objs.length k).map (.int .i64)),.int .i64 c] 0] (.bool (decide (c=3))):=uU ⟨w,ages,bZ (dI ne2 w ages c) w.objs.length k,c⟩;have hold:PC L 117 [.fp [.fz (w.objs.map aI.enc),.fz (w.tasks.map (.int .i64)),.fz (w.outs.map aN.enc),.fz (w.ins.map (.int .i64)),.int .i64 w.used,.fz (ages.map (.int .i64)),.fz ((bZ (dI ne2 w ages c) w.objs.length k).map (.int .i64)),.int .i64 c] 0,.int .i64 k] (.bool (decide (ages[k]=2))):=sE ⟨w,ages,bZ (dI ne2 w ages c) w.objs.length k,c⟩ k hka;simp only[go_sem,qC,qG,qW,h',h1,e1,e16,h22,h23,h24,<-hg2,<-hg3,(rK _).ret]
  refine aA (fun hT=>?_) (fun hT=>?_)
  ·have hmm:dI ne2 w ages c k=1:=by rw[dI,dH h',if_pos hT]
   have hset:((bZ (dI ne2 w ages c) w.objs.length k).map (Val.int .i64)).set k (.int .i64 1)=(bZ (dI ne2 w ages c) w.objs.length (k+1)).map (.int .i64):=by rw[<-xG,hmm]
   simp only[go_sem,qC,qG,qW,h',h1,e1,e16,e13,h22,h23,h24,hc1,hc2,hmg,hml,true_and,and_true,eq_self,if_true,bX2,bXx,bXj,bXd]
   refine⟨_,_,_,rfl,?_⟩
   simp only[go_sem,qC,qG,qW,h',h1,e1,e16,e13,h22,h23,h24,hset,aJ h' hw.objs];exact⟨mA.keep (fun t g ht=>by simp at ht;subst ht;simp only[go_sem,qW]),c6,q6,q103⟩
  ·have hnt: ¬bF (w.obj k)=true:=by rw[dH h',hT];decide
   have skip:dI ne2 w ages c k=0->bZ (dI ne2 w ages c) w.objs.length (k+1)=bZ (dI ne2 w ages c) w.objs.length k:=aBr;simp only[go_sem,qC,qG,qW,h',h1,e1,e16,e13,h22,h23,h24,s1,htk,implies_true,bXj,hml,bXd,if_true,hfull.ret]
   refine aE (fun gf=>?_) (fun gf=>?_)
   ·simp only[go_sem,qC,qG,qW,gf,h',h1,e1,e16,e13,h22,h23,h24,s1,htk,implies_true,bXj,hml,bXd,if_true,hold.ret]
    refine aA (fun go=>?_) (fun go=>?_)
    ·have hp0:vS ages []=2:=rfl;have hset2:((bZ (dI ne2 w ages c) w.objs.length k).map (Val.int .i64)).set k (.int .i64 2)=((bZ (dI ne2 w ages c) w.objs.length k).set k (vS ages [])).map (.int .i64):=by rw[hp0,bYu]
     simp only[go_sem,qC,qG,qW,h',h1,e1,e16,e13,h22,h23,h24,hc1,hc2,hmg,hml,hset2,true_and,and_true,eq_self,if_true,bX2,bXx,bXj,bXd,(uP _).ret]
     refine aA8 (f:=107) (x:=[]) (y:=[.fp [.int .i64 w.objs[k].form,.int .i64 w.objs[k].n,.fz (w.objs[k].vals.map aG.enc),.fz (w.objs[k].frames.map aC.enc)] 0]) (by simp only[go_sem,qW]) ?_
     intro fr0 key hfr0 hkey;have r1:fr0 1= .ptr ⟨0,1,g1⟩ 0:=by rw[hfr0];simp only[go_sem,qW,h1]
     have r2:fr0 2= .ptr ⟨0,2,g2⟩ 0:=by rw[hfr0];simp only[go_sem,qW]
     have r22:fr0 22= .fz (w.objs.map aI.enc):=by rw[hfr0];simp only[go_sem,qW,h22]
     have r23:fr0 23= .int .i64 w.objs.length:=by rw[hfr0];simp only[go_sem,qW,h23]
     have r24:fr0 24= .int .i64 k:=by rw[hfr0];simp only[go_sem,qW,h24]
     obtain⟨gl,rfl⟩: ∃gl,key=⟨1,0,gl⟩:=⟨_,hkey⟩
     obtain⟨c0,hc0⟩: ∃c0,c0=aQ (aQ (aQ cnt 0 2 (g2+1)) 0 3 (g3+1)) 1 0 (cnt 1 0+1) 0:=⟨_,rfl⟩
     have hcc2:g2+1<=c0 2:=by rw[hc0];simp[aQ]
     have hcc6:1<=c0 6:=by rw[hc0];simpa[aQ]using c6
     have hso:=jY hs _ (bXn h');have hr:=aQi w ages c (dI ne2 w ages c) k g1 g2 g13 gk vA (dG w.objs[k]) en0 (fr0:=fr0) (gl:=gl) (c0:=c0) h' hal r1 r2 (hin _ (bXn h')) hcc2 hcc6;rw[hc0]at hr;have hfin:vS ages (dG w.objs[k])=dI ne2 w ages c k:=by
      rw[dI,if_neg hnt,if_pos (by rw[xD hka,go,gf];rfl),dH h',vS,bDi (kG w.objs[k])]
     have hsetf:(bZ (dI ne2 w ages c) w.objs.length k).set k (vS ages (dG w.objs[k]))=bZ (dI ne2 w ages c) w.objs.length (k+1):=by
      rw[hfin];have h:=xG (m:=dI ne2 w ages c) (n:=w.objs.length) (k:=k);rw[<-bYu]at h;apply bZe
      ·simp[lL]
      ·intro i h1 h2;have hh:=congrArg (fun l=>l[i]?) h
       simp only[bZp,bYs h1,bYs h2,bX9,bXa,Val.int.injEq,true_and]at hh;exact hh
     refine(aGl w.objs[k] (yK hso) hr ⟨by simp only[go_sem,qW],by simp only[go_sem,e1],by simp only[go_sem,qW],by simp only[go_sem,e16],mA.keep (fun t g ht=>by simp at ht;subst ht;simp only[go_sem,qW]),by simp[aQ],by simpa[aQ]using c6,by simp only[go_sem,q6],by intro g;simp only[go_sem,qW,q103],[],rfl,by simp only[go_sem,qW]⟩).mono ?_
     rintro v en' cnt' (⟨i1,j1,j2,j16,mA',hg2',hg6,e6,e103,done,hd,j13⟩|hF)
     ·rw[bYx]at hd;subst hd;rw[hsetf]at j13;simp only[go_sem,qC,qG,qW,i1,j1,j2,j16,r1,r2,r22,r23,r24,h1,h22,h23,h24]
      refine⟨_,_,_,rfl,?_⟩
      simp only[go_sem,qC,qG,qW,j1,j2,j16,j13,r1,r2,r22,r23,r24,h',h1,h22,h23,h24,aJ h' hw.objs];exact⟨mA'.keep (fun t g ht=>by simp at ht;subst ht;exact eE (by intro he;injection he with h1 _ _;omega)),hg6,by simp only[go_sem,e6],by intro g;simp only[go_sem,qW,e103]⟩
     ·exact hF.elim
    ·rw[skip (by rw[dI,if_neg hnt,if_neg (by rw[xD hka,go,bYp];decide)])]
     simp only[go_sem,qC,qG,qW,h',h1,e1,e16,e13,h22,h23,h24]
     refine⟨_,_,_,rfl,?_⟩
     simp only[go_sem,qC,qG,qW,h',h1,e1,e16,e13,h22,h23,h24,aJ h' hw.objs];exact⟨mA.keep (fun t g ht=>by simp at ht;subst ht;simp only[go_sem,qW]),c6,q6,q103⟩
   ·rw[skip (by rw[dI,if_neg hnt,if_neg (by rw[gf];simp)])]
    simp only[go_sem,qC,qG,qW,gf,h',h1,e1,e16,e13,h22,h23,h24,bXp]
    refine⟨_,_,_,rfl,?_⟩
    simp only[go_sem,qC,qG,qW,h',h1,e1,e16,e13,h22,h23,h24,aJ h' hw.objs];exact⟨mA.keep (fun t g ht=>by simp at ht;subst ht;simp only[go_sem,qW]),c6,q6,q103⟩
 ·have:k=w.objs.length:=by simp at hq;omega
  subst this;rw[aBs]at e13;simp only[go_sem,qC,qG,qW];exact⟨g13,e16,mA,e13,by rw[q6,hen0],fun g=>by rw[q103,hen0]⟩
theorem bAl (s:aX)(hs:s.few)(hsm:bO s=true){en:En}{cnt:Nat->Nat->Nat}:
  WIn L (.fn 81 [] []) [.agg [.fz (s.world.objs.map aI.enc),.fz (s.world.tasks.map (.int .i64)),.fz (s.world.outs.map aN.enc),.fz (s.world.ins.map (.int .i64)),.int .i64 s.world.used,.fz (s.ages.map (.int .i64)),.fz (s.marks.map (.int .i64)),.int .i64 s.cycle]] en cnt fun v en' cnt'=> ∃g16 vA vM,v= .ptr ⟨0,16,g16⟩ 0/\ en' ⟨0,16,g16⟩=some (.box [.fz (s.world.objs.map aI.enc),.fz (s.world.tasks.map (.int .i64)),.fz (s.world.outs.map aN.enc),.fz (s.world.ins.map (.int .i64)),.int .i64 s.world.used,vA,vM,.int .i64 s.cycle] false)/\
   kH en' vA 1 (s.ages.map (.int .i64)) 8/\ kH en' vM 1 (s.marks.map (.int .i64)) 11/\ (∀t g,¬t=1-> ¬t=8-> ¬t=11-> ¬t=16->en' ⟨0,t,g⟩=en ⟨0,t,g⟩)/\ (∀t,¬t=1-> ¬t=8-> ¬t=11-> ¬t=16->cnt' 0 t=cnt 0 t)/\ ∀g,vA= .bl ⟨0,8,g⟩ 0 s.ages.length->g<cnt' 0 8:=by
 have hsw:aY s.world=true/\ (s.ages.length:Int)<=130/\ (s.marks.length:Int)<=130:=by
  simp only[bO,bXb,cAg]at hsm;exact⟨hsm.1.1,hsm.1.2,hsm.2⟩
 have c1:=jZ (s.ages.map (.int .i64)) (lK _) (by simp;omega)
 have c2:=jZ (s.marks.map (.int .i64)) (lK _) (by simp;omega)
 obtain⟨g1,hg1⟩: ∃g,g=cnt 0 1:=⟨_,rfl⟩
 obtain⟨g8,hg8⟩: ∃g,g=cnt 0 8:=⟨_,rfl⟩
 obtain⟨g11,hg11⟩: ∃g,g=cnt 0 11:=⟨_,rfl⟩
 obtain⟨g16,hg16⟩: ∃g,g=cnt 0 16:=⟨_,rfl⟩
 refine mK bI9 rfl rfl ?_
 simp only[go_sem,qC,qG,qW,aZj,<-hg1]
 refine aO ?_
 rcases iQ 1 (s.ages.map (Val.int .i64))with⟨t1,t2⟩|⟨t1,t2⟩<;>rw[t2]at c1<;>
 rcases iQ 1 (s.marks.map (Val.int .i64))with⟨o1,o2⟩|⟨o1,o2⟩<;>rw[o2]at c2
 all_goals simp only[go_sem,qC,qG,qW,bXe,bXf,bXh,bXi,bXg,bXc,if_false,bX3,(oH s.world hs.1 hsw.1).ret,c1.ret,c2.ret,<-hg8,<-hg11,<-hg16,bXj,dC,bR,cW,bL]
 all_goals refine⟨g16,_,_,rfl,aRj,?_,?_,?_,?_,?_⟩
 all_goals first
  |exact .inl ⟨rfl,by assumption⟩
  |exact oI (by simp only[go_sem,qW];try rfl) (by simp only[bXj])
  |(intro t g n1 n2 n3 n4;simp only[go_sem,qW,n1,n2,n3,n4])
  |(intro t n1 n2 n3 n4;simp only[go_sem,qW,n1,n2,n3,n4];done)
  |(intro g hg;cases hg;done)
  |(intro g hg;injection hg with h3 _ _;injection h3 with _ _ h6;subst h6;first|omega|(simp[aQ];done)|(simp[aQ];omega))
def LI (s:aX)(m:List Int)(n g2 g8 gM gk:Nat)(vA:Val)(all:List Int)(en0:En)(fr0:Nat->Val)(gl:Nat)(r:List Int)(en:En)(cnt:Nat->Nat->Nat):Prop:=
 en ⟨1,0,gl⟩=some (.loop fr0 [58] (cD.ops [o 9 (.mv (.t 58))]) (cD.block 3 (.seq (.ops [o 59 (.load false 1 (.t 2)),o 60 (.nilck (.t 59)),o 61 (.fa 0 (.t 60)),o 62 (.fa 6 (.t 61)),o 63 (.load false 1 (.t 62)),o 64 (.mv (.t 9)),o 65 (.ia 1 (.t 63) (.t 64)),o 66 (.load false 1 (.t 65)),o 67 (.bin .eql .num (.t 66) (.c (.int .i64 0)))]) (.cond (.t 67) (.seq (.ops [o 68 (.load false 1 (.t 2)),o 69 (.nilck (.t 68)),o 70 (.fa 0 (.t 69)),o 71 (.fa 6 (.t 70)),o 72 (.load false 1 (.t 71)),o 73 (.mv (.t 9)),o 74 (.ia 1 (.t 72) (.t 73)),on (.store 1 (.t 74) (.c (.int .i64 1)))]) (.ops [o 75 (.load false 1 (.t 8)),o 76 (.mv (.t 9)),o 77 (.minmax false [(.t 75),(.t 76)]),on (.store 1 (.t 8) (.t 77))])) .skip))) .ready)/\ en ⟨0,2,g2⟩=some (.box [.ptr ⟨0,16,gk⟩ 0] false)/\ en ⟨0,16,gk⟩=some (.box [.fz (s.world.objs.map aI.enc),.fz (s.world.tasks.map (.int .i64)),.fz (s.world.outs.map aN.enc),.fz (s.world.ins.map (.int .i64)),.int .i64 s.world.used,vA,.bl ⟨0,11,gM⟩ 0 m.length,.int .i64 s.cycle] false)/\ kH en vA 1 (s.ages.map (.int .i64)) 8/\ g2+1<=cnt 0 2/\ 1<=cnt 0 6/\ g8+1<=cnt 0 8/\ en ⟨0,6,0⟩=en0 ⟨0,6,0⟩/\
 ∃done,done++r=all/\ en ⟨0,11,gM⟩=some (.blk 1 ((gX m n done).map (.int .i64)) false)/\ ∃nx:Nat,en ⟨0,8,g8⟩=some (.box [.int .i64 nx] false)/\ nx<=n+1/\ ∀i,i<nx-> ¬bQ (gX m n done) i=1
theorem aN6 (s:aX)(m:List Int)(n g2 g8 gM gk:Nat)(vA:Val)(all:List Int)(en0:En){fr0:Nat->Val}{gl:Nat}{c0:Nat->Nat}(hn:n<m.length)(hml:m.length<=1000)(q2:fr0 2= .ptr ⟨0,2,g2⟩ 0)(q8:fr0 8= .ptr ⟨0,8,g8⟩ 0)
  (hA8: ∀g,vA= .bl ⟨0,8,g⟩ 0 s.ages.length->g<g8)
  (hino: ∀x∈all,inR x 0 ((m.length:Int)-1)=true) (hc2:g2+1<=c0 2) (hc6:1<=c0 6):aAd ⟨1,0,gl⟩ c0 (LI s m n g2 g8 gM gk vA all en0 fr0 gl) (fun _ _=>False):=by
 refine⟨?_,?_⟩
 ·rintro r en cnt en' cnt' ⟨i1,j2,j16,mA,hg2,hg6,hg8,e6,done,hd,j11,nx,j8,hnx,hgr⟩ hout hcnt hge
  have h2:=hge 2 (by decide)
  have h6:=hge 6 (by decide)
  exact⟨(hout 1 0 gl (.inl (by omega))).trans i1,(hout 0 2 g2 (.inr (.inr (by omega)))).trans j2,(hout 0 16 gk (.inr (.inl (by decide)))).trans j16,mA.keep fun g=>hout 0 8 g (.inr (.inl (by decide))),by omega,by omega,by rw[hcnt 0 8 (by decide)];exact hg8,(hout 0 6 0 (.inr (.inr (by omega)))).trans e6,done,hd,(hout 0 11 gM (.inr (.inl (by decide)))).trans j11,nx,(hout 0 8 g8 (.inr (.inl (by decide)))).trans j8,hnx,hgr⟩
 ·rintro x rest en cnt ⟨i1,j2,j16,mA,hg2,hg6,hg8,e6,done,hd,j11,nx,j8,hnx,hgr⟩
  have hxi:=hino x (by rw[<-hd];simp)
  simp only[inR,cAg]at hxi;obtain⟨j,rfl⟩:=bYr hxi.1;have hj:j<m.length:=by omega
  have hjl:j<(gX m n done).length:=by rw[fL];exact hj
  have hc1:(0:Int)<=(j:Int):=by omega
  have hc2':(j:Int)<(m.length:Int):=by omega
  have hgj:=aG3 hjl
  refine aEw (fr:=fr0) (ps:=[58]) (a:=(cD.ops [o 9 (.mv (.t 58))])) (b:=(cD.block 3 (.seq (.ops [o 59 (.load false 1 (.t 2)),o 60 (.nilck (.t 59)),o 61 (.fa 0 (.t 60)),o 62 (.fa 6 (.t 61)),o 63 (.load false 1 (.t 62)),o 64 (.mv (.t 9)),o 65 (.ia 1 (.t 63) (.t 64)),o 66 (.load false 1 (.t 65)),o 67 (.bin .eql .num (.t 66) (.c (.int .i64 0)))]) (.cond (.t 67) (.seq (.ops [o 68 (.load false 1 (.t 2)),o 69 (.nilck (.t 68)),o 70 (.fa 0 (.t 69)),o 71 (.fa 6 (.t 70)),o 72 (.load false 1 (.t 71)),o 73 (.mv (.t 9)),o 74 (.ia 1 (.t 72) (.t 73)),on (.store 1 (.t 74) (.c (.int .i64 1)))]) (.ops [o 75 (.load false 1 (.t 8)),o 76 (.mv (.t 9)),o 77 (.minmax false [(.t 75),(.t 76)]),on (.store 1 (.t 8) (.t 77))])) .skip)))) i1 rfl ?_
  simp only[go_sem,qC,qG,qW,q2,q8,i1,j2,j16,j11,fL,hgj,hc1,hc2',true_and,and_true,eq_self,if_true,bX2,bXx,bXj,bXd]
  refine aA (fun hb=>?_) (fun hb=>?_)
  ·have h0:bQ (gX m n done) j=0:=of_decide_eq_true hb;have hst:((gX m n done).map (Val.int .i64)).set j (.int .i64 1)=(gX m n (done++[(j:Int)])).map (.int .i64):=by rw[aN4,aW0 hj h0]
   have hmin:(min (nx:Int) (j:Int))=((min nx j:Nat):Int):=by omega
   simp only[go_sem,qC,qG,qW,q2,q8,i1,j2,j16,j11,j8,fL,hgj,hst,hc1,hc2',true_and,and_true,eq_self,if_true,bX2,bXx,bXj,bXd,hmin]
   refine⟨fun t g ht hg=>?_,fun _ _=>trivial,.inl ⟨?_,?_,?_,?_,hg2,hg6,hg8,?_,done++[(j:Int)],by rw[<-hd];simp,?_,min nx j,?_,by omega,fun i hi=>?_⟩⟩
   ·have n1:(⟨0,t,g⟩:Key)≠⟨1,0,gl⟩:=by intro he;injection he with h1 _ _;omega
    have n2:(⟨0,t,g⟩:Key)≠⟨0,11,gM⟩:=by intro he;injection he with _ h2 h3;subst h2;simp[T4]at ht
    have n3:(⟨0,t,g⟩:Key)≠⟨0,8,g8⟩:=by intro he;injection he with _ h2 h3;subst h2;simp[T4]at ht
    rw[eE n1,eE n3,eE n2,eE n1]
   ·try simp only[go_sem,qW]
    try rfl
   ·simp only[go_sem,qW,j2]
   ·simp only[go_sem,qW,j16]
   ·rcases mA with h|⟨g,hv,he⟩
    ·exact .inl h
    ·have hlt:=hA8 g (by rw[hv,bXj])
     exact .inr ⟨g,hv,by rw[eE (by intro h;injection h with h1 _ _;omega),eE (by intro h;injection h with _ _ h3;omega),eE (by intro h;injection h with _ h2 _;omega),eE (by intro h;injection h with h1 _ _;omega)];exact he⟩
   ·simp only[go_sem,qW,e6]
   ·simp only[go_sem,qW]
   ·simp only[go_sem,qW]
   ·have hij: ¬(j:Int)=(i:Int):=by omega
    have hold:=hgr i (by omega)
    by_cases hil:i<m.length
    ·rw[kI hil]at hold⊢;rw[xK,decide_eq_false hij,Bool.or_false];exact hold
    ·rw[tQ (by rw[fL];omega)];decide
  ·have h0: ¬bQ (gX m n done) j=0:=of_decide_eq_false hb;have hsk:=aQe hj h0;simp only[go_sem,qC,qG,qW,q2,q8,i1,j2,j16,j11]
   refine⟨fun t g ht hg=>?_,fun _ _=>trivial,.inl ⟨?_,?_,?_,?_,hg2,hg6,hg8,?_,done++[(j:Int)],by rw[<-hd];simp,?_,nx,?_,hnx,by rw[hsk];exact hgr⟩⟩
   ·have n1:(⟨0,t,g⟩:Key)≠⟨1,0,gl⟩:=by intro he;injection he with h1 _ _;omega
    rw[eE n1,eE n1]
   ·try simp only[go_sem,qW]
    try rfl
   ·simp only[go_sem,qW,j2]
   ·simp only[go_sem,qW,j16]
   ·exact mA.keep fun g=>by rw[eE (by intro h;injection h with h1 _ _;omega),eE (by intro h;injection h with h1 _ _;omega)]
   ·simp only[go_sem,qW,e6]
   ·rw[hsk];simp only[go_sem,qW,j11]
   ·simp only[go_sem,qW,j8]
theorem bAm {a b c d:Nat}(h:a+1=b)(h2:d<c):a*c+d<b*c:=by
 subst h;rw[bYq,Nat.one_mul];omega
theorem aQj {ws:List W}{d:Nat}{D:List Nat}(h: ∀w∈ws,w.key.n=0/\ (w.key.t=d \/w.key.t∈D)/\ ∃e,w= .ent w.key e){t' g':Nat}(ht:t'≠d/\ t'∉D):(ws.all fun w=>gE w (.val ⟨0,t',g'⟩))=true:=by
 rw[bXo];intro w hw;obtain⟨h1,h2,e,h3⟩:=h w hw;rw[h3,aF4]
 refine decide_eq_true ?_
 intro he;rw[he]at h2;rcases h2 with h2|h2
 ·exact ht.1 h2
 ·exact ht.2 h2
theorem aU5 {s:aX}{m:List Int}{n:Nat}(h: ∀i:Nat,i<n->inR (oG s i) 0 2=true): ∀a∈jM s m n,inR a 0 2=true:=by
 intro a ha;obtain⟨i,hi,rfl⟩:=bXy.1 ha;have hi:=(bY0.1 hi).1;have:=h i (by simpa using hi)
 simp only[inR,cAg]at this⊢;omega
def SlE (s:aX)(most:Nat)(g2 gk:Nat)(vA vM:Val)(en0:En)(st:St):Prop:=
 ∃fr en cnt n,st=⟨fr,en,cnt⟩/\ fr 2= .ptr ⟨0,2,g2⟩ 0/\ en ⟨0,2,g2⟩=some (.box [.ptr ⟨0,16,gk⟩ 0] false)/\ fr 6= .int .i64 (n:Nat)/\ en ⟨0,16,gk⟩=some (.box [.fz (s.world.objs.map aI.enc),.fz (s.world.tasks.map (.int .i64)),.fz (s.world.outs.map aN.enc),.fz (s.world.ins.map (.int .i64)),.int .i64 s.world.used,vA,vM,.int .i64 s.cycle] false)/\ kH en vA 1 (s.ages.map (.int .i64)) 8/\ kH en vM 1 ((cU s.world most s.marks).map (.int .i64)) 11/\ 1<=cnt 0 6/\ en ⟨0,6,0⟩=en0 ⟨0,6,0⟩/\
  decide (n<(cU s.world most s.marks).length)=decide (dX (cU s.world most s.marks)<(cU s.world most s.marks).length)
theorem aW3 (s:aX)(most:Nat)(hs:s.few)(hsm:aY s.world=true)(hin:kW s.world)(hok:nE s.world s.marks)(hA:s.ages.length=s.world.objs.length)(hmost:most<=200)(hcy:inR s.cycle 0 3=true)(hAr: ∀i:Nat,i<s.world.objs.length->inR (oG s i) 0 2=true)
  (htk: ∀t∈s.world.tasks,∃i:Nat,t=i/\ i<s.world.objs.length/\ bF (s.world.obj i)=true) {en:En} {cnt:Nat->Nat->Nat} {gk:Nat} {vA vM:Val} (e16:en ⟨0,16,gk⟩=some (.box [.fz (s.world.objs.map aI.enc),.fz (s.world.tasks.map (.int .i64)),.fz (s.world.outs.map aN.enc),.fz (s.world.ins.map (.int .i64)),.int .i64 s.world.used,vA,vM,.int .i64 s.cycle] false)) (mA:kH en vA 1 (s.ages.map (.int .i64)) 8) (mM:kH en vM 1 (s.marks.map (.int .i64)) 11) (c6:1<=cnt 0 6) (hA8: ∀g,vA= .bl ⟨0,8,g⟩ 0 s.ages.length->g<cnt 0 8):
  WIn L (.fn 89 [] []) [.ptr ⟨0,16,gk⟩ 0,.int .i64 most] en cnt fun v en' cnt'=>en' ⟨0,6,0⟩=en ⟨0,6,0⟩/\
   ((dX (cU s.world most s.marks)<(cU s.world most s.marks).length/\ v= .tup [.cl [],.bool false]/\ en' ⟨0,16,gk⟩=some (.box [.fz (s.world.objs.map aI.enc),.fz (s.world.tasks.map (.int .i64)),.fz (s.world.outs.map aN.enc),.fz (s.world.ins.map (.int .i64)),.int .i64 s.world.used,vA,vM,.int .i64 s.cycle] false)/\ kH en' vA 1 (s.ages.map (.int .i64)) 8/\ kH en' vM 1 ((cU s.world most s.marks).map (.int .i64)) 11) \/
    (¬dX (cU s.world most s.marks)<(cU s.world most s.marks).length/\ ∃vg va g13,v= .tup [vg,.bool true]/\ cG en' vg 1 ((kP (cU s.world most s.marks) s.world.objs.length).map (.int .i64)) [103]/\
     en' ⟨0,16,gk⟩=some (.box [.fz ((lP s (cU s.world most s.marks)).world.objs.map aI.enc),.fz ((lP s (cU s.world most s.marks)).world.tasks.map (.int .i64)),.fz ((lP s (cU s.world most s.marks)).world.outs.map aN.enc),.fz ((lP s (cU s.world most s.marks)).world.ins.map (.int .i64)),.int .i64 (lP s (cU s.world most s.marks)).world.used,va,.bl ⟨0,13,g13⟩ 0 (lP s (cU s.world most s.marks)).world.objs.length,.int .i64 (lP s (cU s.world most s.marks)).cycle] false)/\
     cG en' va 1 ((lP s (cU s.world most s.marks)).ages.map (.int .i64)) [120]/\ en' ⟨0,13,g13⟩=some (.blk 1 ((lP s (cU s.world most s.marks)).marks.map (.int .i64)) false))):=by
 obtain⟨b1,b2,b3,b4⟩:=iY hsm;have hml:=hok.len;obtain⟨en0,hen0⟩: ∃e,e=en:=⟨_,rfl⟩
 obtain⟨g2,hg2⟩: ∃g,g=cnt 0 2:=⟨_,rfl⟩
 refine mK bVc rfl rfl ?_
 simp only[go_sem,qC,qG,qW,bC5,iO (v:= .ptr ⟨0,16,gk⟩ 0) rfl rfl,<-hg2]
 refine Go.Abs.wp_mono (L:=L) _ (Q:=fun e st=>e= .exit 0/\ SlE s most g2 gk vA vM en0 st) ?_ ?_
 ·refine Go.Abs.wp_loop (fun(x:Nat×Nat×List Int) (st:Go.Abs.St)=> ∃fr en cnt,st=⟨fr,en,cnt⟩/\ fr 1= .int .i64 most/\ fr 2= .ptr ⟨0,2,g2⟩ 0/\ en ⟨0,2,g2⟩=some (.box [.ptr ⟨0,16,gk⟩ 0] false)/\ fr 6= .int .i64 (x.1:Nat)/\ fr 7= .int .i64 (x.2.1:Nat)/\ en ⟨0,16,gk⟩=some (.box [.fz (s.world.objs.map aI.enc),.fz (s.world.tasks.map (.int .i64)),.fz (s.world.outs.map aN.enc),.fz (s.world.ins.map (.int .i64)),.int .i64 s.world.used,vA,vM,.int .i64 s.cycle] false)/\ kH en vA 1 (s.ages.map (.int .i64)) 8/\ (∀g,vA= .bl ⟨0,8,g⟩ 0 s.ages.length->g<cnt 0 8)/\ kH en vM 1 (x.2.2.map (.int .i64)) 11/\
    g2+1<=cnt 0 2/\ 1<=cnt 0 6/\ en ⟨0,6,0⟩=en0 ⟨0,6,0⟩/\ nE s.world x.2.2/\ x.1<=x.2.2.length/\ x.2.1<=most/\ (∀i,i<x.1-> ¬bQ x.2.2 i=1)/\ cU s.world (most-x.2.1) x.2.2=cU s.world most s.marks)
   (fun x=>eW x.2.2*(x.2.2.length+1)+(x.2.2.length-x.1)) (0,0,s.marks)
   ⟨_,_,_,rfl,by simp only[go_sem,qW],by simp only[go_sem,qW],by simp only[go_sem,qW],by simp only[go_sem,qW];try rfl,by simp only[go_sem,qW];try rfl,by simp only[go_sem,e16],mA.keep (fun g=>by simp only[go_sem,qW]),by simp only[go_sem,qW];exact hA8,mM.keep (fun g=>by simp only[go_sem,qW]),by simp only[go_sem,qW];try exact bXd _,by simp only[go_sem,qW];try exact c6,by simp only[go_sem,hen0],hok,bXl _,bXl _,fun i hi=>by omega,rfl⟩ ?_
  clear e16 mA mM c6 hA8
  rintro⟨n,lk,m⟩ st ⟨fr,en,cnt,rfl,h1,h2,e2,h6,h7,e16,mA,hA8,mM,c2,c6,q6,hm,hnl,hlk,hng,hrun⟩
  dsimp only at h6 h7 mM hm hnl hlk hng hrun⊢;have hlm:m.length=s.world.objs.length:=hm.len;have hlM:=mM.mine.len;rw[bXj]at hlM;have hfl:Few m.length:=by unfold Few;omega
  simp only[go_sem,qC,qG,qW,h1,h2,e2,h6,h7,e16,hlM]
  refine aA (fun g1=>?_) (fun g1=>?_)
  ·have hn:n<m.length:=of_decide_eq_true g1;rcases mM with⟨_,hx⟩|⟨gM,rfl,eb⟩
   ·have:m.length=0:=by rw[<-bXj (f:=Val.int .i64),hx];rfl
    omega
   rw[bXj]at e16 hlM;have hc1:(0:Int)<=(n:Int):=by omega
   have hc2:(n:Int)<(m.length:Int):=by omega
   have hgn:=aG3 hn;simp only[go_sem,qC,qG,qW,h1,h2,e2,h6,h7,e16,hlM,eb,hgn,hc1,hc2,true_and,and_true,eq_self,if_true,bX2,bXx,bXj,bXd]
   refine aA (fun g3=>?_) (fun g3=>?_)
   ·have hne: ¬bQ m n=1:=by simpa using g3
    simp only[go_sem,qC,qG,qW,h1,h2,e2,h6,h7,e16]
    refine⟨(n+1,lk,m),⟨_,_,_,rfl,by simp only[go_sem,h1],by simp only[go_sem,h2],by simp only[go_sem,e2],by simp only[go_sem,aJ hn hfl],by simp only[go_sem,h7],by simp only[go_sem,e16],mA,hA8,oI eb (by simp),c2,c6,q6,hm,by dsimp only;omega,hlk,fun i hi=>?_,hrun⟩,?_⟩
    ·by_cases hin':i<n
     ·exact hng i hin'
     ·have:i=n:=by dsimp only at hi;omega
      subst this;exact hne
    ·dsimp only;omega
   ·have h1n:bQ m n=1:=by simpa using g3
    have hfg:dX m=n:=aW1 hn h1n hng;simp only[go_sem,qC,qG,qW,h1,h2,e2,h6,h7,e16]
    refine aA (fun g4=>?_) (fun g4=>?_)
    ·have hl:lk=most:=by simp at g4;omega
     subst hl;rw[Nat.sub_self]at hrun;have hrun':m=cU s.world lk s.marks:=hrun;simp only[go_sem,qC,qG,qW];exact⟨_,_,_,n,rfl,by simp only[go_sem,h2],by simp only[go_sem,e2],by simp only[go_sem,h6],by simp only[go_sem,e16],mA,by rw[<-hrun'];exact oI eb (by simp),c6,q6,by rw[<-hrun',hfg]⟩
    ·have hl:lk<most:=by simp at g4;omega
     obtain⟨g8,hg8⟩: ∃g,g=cnt 0 8:=⟨_,rfl⟩
     have hnw:n<s.world.objs.length:=by omega
     have hso:=jY hsm _ (bXn hnw);have hst:(m.map (Val.int .i64)).set n (.int .i64 2)=(gX m n []).map (.int .i64):=by rw[aN4,aWz hn]
     have hfm:Few most:=by unfold Few;omega
     have hon:s.world.obj n=s.world.objs[n]:=dH hnw;simp only[go_sem,qC,qG,qW,h1,h2,e2,h6,h7,e16,hlM,eb,hgn,hst,hc1,hc2,hnw,true_and,and_true,eq_self,if_true,bX2,bXx,bXj,bXd,aJ hl hfm,aJ hn hfl,<-hg8,(uP _).ret]
     refine aA8 (f:=107) (x:=[]) (y:=[.fp [.int .i64 s.world.objs[n].form,.int .i64 s.world.objs[n].n,.fz (s.world.objs[n].vals.map aG.enc),.fz (s.world.objs[n].frames.map aC.enc)] 0]) (by simp only[go_sem,qW]) ?_
     intro fr0 key hfr0 hkey;have r1:fr0 1= .int .i64 most:=by rw[hfr0];simp only[go_sem,qW,h1]
     have r2:fr0 2= .ptr ⟨0,2,g2⟩ 0:=by rw[hfr0];simp only[go_sem,qW,h2]
     have r7:fr0 7= .int .i64 (lk+1:Nat):=by rw[hfr0];simp only[go_sem,qW]
     have r8:fr0 8= .ptr ⟨0,8,g8⟩ 0:=by rw[hfr0];simp only[go_sem,qW]
     obtain⟨gl,rfl⟩: ∃gl,key=⟨1,0,gl⟩:=⟨_,hkey⟩
     obtain⟨c0,hc0⟩: ∃c0,c0=aQ (aQ cnt 0 8 (g8+1)) 1 0 (cnt 1 0+1) 0:=⟨_,rfl⟩
     have hcc2:g2+1<=c0 2:=by rw[hc0];simpa[aQ]using c2
     have hcc6:1<=c0 6:=by rw[hc0];simpa[aQ]using c6
     have hinm: ∀x∈dG s.world.objs[n],inR x 0 ((m.length:Int)-1)=true:=by rw[hlm];exact hin _ (bXn hnw)
     have hA8': ∀g,vA= .bl ⟨0,8,g⟩ 0 s.ages.length->g<g8:=by rw[hg8];exact hA8
     have hr:=aN6 s m n g2 g8 gM gk vA (dG s.world.objs[n]) en0 (fr0:=fr0) (gl:=gl) (c0:=c0) hn (by omega) r2 r8 hA8' hinm hcc2 hcc6
     rw[hc0]at hr
     refine(aGl s.world.objs[n] (yK hso) hr ⟨by simp only[go_sem,qW],by simp only[go_sem,e2],by simp only[go_sem,e16],?_,by simpa[aQ]using c2,by simpa[aQ]using c6,by simp[aQ],by simp only[go_sem,q6],[],rfl,by simp only[go_sem,qW],n+1,by simp only[go_sem,qW],bXd _,fun i hi=>?_⟩).mono ?_
     ·rcases mA with h|⟨g,hv,he⟩
      ·exact .inl h
      ·have hlt:=hA8' g (by rw[hv,bXj])
       exact .inr ⟨g,hv,by simp only[go_sem,Nat.ne_of_lt hlt,he]⟩
     ·by_cases hil:i<m.length
      ·rw[kI hil]
       by_cases hin':i=n
       ·rw[if_pos hin'];decide
       ·rw[if_neg hin',if_neg (by simp[pE])]
        exact hng i (by omega)
      ·rw[tQ (by rw[fL];omega)];decide
     ·rintro v en' cnt' (⟨i1,j2,j16,mA',hg2',hg6',hg8',e6',done,hd,j11,nx,j8,hnx,hgr⟩|hF)
      ·rw[bYx]at hd;subst hd;have hla:gX m n (dG s.world.objs[n])=eH s.world m n:=by rw[eH,hon]
       rw[hla]at j11 hgr;have hll:(eH s.world m n).length=m.length:=by rw[eH,fL]
       have hnb:=zH (seen:=dG (s.world.obj n)) hn h1n;rw[<-eH]at hnb;simp only[go_sem,qC,qG,qW,i1,j2,j16,j8,r1,r2,r7,r8,h1,h2]
       refine⟨(nx,lk+1,eH s.world m n),⟨_,_,_,rfl,by simp only[go_sem,r1,h1],by simp only[go_sem,r2,h2],by simp only[go_sem,j2],by simp only[go_sem,qW],by simp only[go_sem,r7],by simp only[go_sem,j16],mA'.keep (fun g=>eE (by intro h;injection h with h1 _ _;omega)),fun g hv=>by have:=hA8' g hv;omega,?_,hg2',hg6',by simp only[go_sem,e6'],aG2 hin hm n,by dsimp only;omega,by dsimp only;omega,hgr,?_⟩,?_⟩
       ·exact oI (by simp only[go_sem,j11]) (by simp[hll])
       ·dsimp only;have e1:most-lk=(most-(lk+1))+1:=by omega
        rw[e1,cU,hfg,if_pos hn]at hrun;exact hrun
       ·dsimp only;rw[hll];have h3:=bAm (c:=m.length+1) (d:=m.length-nx) hnb (by omega)
        omega
      ·exact hF.elim
  ·have hn:n=m.length:=by simp at g1;omega
   have hnone:dX m=m.length:=aN1 (by rw[<-hn];exact hng)
   rw[aJg (by omega)]at hrun
   simp only[go_sem,qC,qG,qW];exact⟨_,_,_,n,rfl,by simp only[go_sem,h2],by simp only[go_sem,e2],by simp only[go_sem,h6],by simp only[go_sem,e16],mA,by rw[<-hrun];exact mM,c6,q6,by rw[<-hrun,hnone,hn]⟩
 ·rintro e st ⟨rfl,fr,en,cnt,n,rfl,h2,e2,h6,e16,mA,mM,c6,q6,hdec⟩
  obtain⟨M,hM⟩: ∃M,M=cU s.world most s.marks:=⟨_,rfl⟩
  rw[<-hM]at mM hdec⊢;have hMok:nE s.world M:=by rw[hM];exact tR hin most hok
  have hMl:M.length=s.world.objs.length:=hMok.len;have hlM:=mM.mine.len;rw[bXj]at hlM;simp only[go_sem,qC,qG,qW,h2,e2,h6,e16,hlM,hdec]
  refine aA (fun g1=>?_) (fun g1=>?_)
  ·have hfg:dX M<M.length:=of_decide_eq_true g1;simp only[go_sem,qC,qG,qW,h2,e2,h6,e16];exact⟨by rw[q6,hen0],.inl ⟨hfg,mA,mM⟩⟩
  ·have hfg: ¬dX M<M.length:=of_decide_eq_false g1;simp only[go_sem,qC,qG,qW,h2,e2,h6,e16,hlM]
   refine bD M.length (fun k st=> ∃fr en cnt vg vk va,st=⟨fr,en,cnt⟩/\ fr 2= .ptr ⟨0,2,g2⟩ 0/\ en ⟨0,2,g2⟩=some (.box [.ptr ⟨0,16,gk⟩ 0] false)/\ en ⟨0,16,gk⟩=some (.box [.fz (s.world.objs.map aI.enc),.fz (s.world.tasks.map (.int .i64)),.fz (s.world.outs.map aN.enc),.fz (s.world.ins.map (.int .i64)),.int .i64 s.world.used,vA,vM,.int .i64 s.cycle] false)/\ kH en vA 1 (s.ages.map (.int .i64)) 8/\ kH en vM 1 (M.map (.int .i64)) 11/\ 1<=cnt 0 6/\ en ⟨0,6,0⟩=en0 ⟨0,6,0⟩/\ fr 10=vg/\ fr 11=vk/\ fr 12=va/\ fr 91=vM/\ fr 92= .int .i64 M.length/\ fr 93= .int .i64 k/\
    cG en vg 1 ((kP M k).map (.int .i64)) [103]/\ cG en vk 1 ((dP M k).map (.int .i64)) [107]/\ cG en va 1 ((jM s M k).map (.int .i64)) [120]) 0 (bXl _)
    ⟨_,_,_,.cl [],.cl [],.cl [],rfl,by simp only[go_sem,h2],by simp only[go_sem,e2],by simp only[go_sem,e16],mA,mM,c6,q6,by simp only[go_sem,qW],by simp only[go_sem,qW],by simp only[go_sem,qW],by simp only[go_sem,qW],by simp only[go_sem,qW],by simp only[go_sem,qW],cG.nil _ _,cG.nil _ _,cG.nil _ _⟩ ?_
   clear h2 e2 h6 e16 mA mM c6 q6 hdec
   rintro k st hk ⟨fr,en,cnt,vg,vk,va,rfl,h2,e2,e16,mA,mM,c6,q6,h10,h11,h12,h91,h92,h93,mg,mk,ma⟩
   simp only[go_sem,qC,qG,qW,h2,e2,e16,h10,h11,h12,h91,h92,h93]
   refine aA (fun hq=>?_) (fun hq=>?_)
   ·have h':k<M.length:=of_decide_eq_true hq;have h'w:k<s.world.objs.length:=by omega
    have hka:k<s.ages.length:=by omega
    have har:=hAr k h'w;simp only[inR,cAg,gQ hka]at har;have hwa:IntKind.i64.wrap (s.ages[k]+1)=s.ages[k]+1:=bY (by omega)
    have hgk:=aG3 h';have hga:(s.ages.map (Val.int .i64))[k]?=some (.int .i64 s.ages[k]):=by simp[hka]
    have hfM:Few M.length:=by unfold Few;omega
    have hc1:(0:Int)<=(k:Int):=by omega
    have hc2:(k:Int)<(M.length:Int):=by omega
    have hc3:(k:Int)<(s.ages.length:Int):=by omega
    rcases mM with⟨_,hx⟩|⟨gM,rfl,eb⟩
    ·have:M.length=0:=by rw[<-bXj (f:=Val.int .i64),hx];rfl
     omega
    rcases mA with⟨_,hx⟩|⟨ga,rfl,ea⟩
    ·have:s.ages.length=0:=by rw[<-bXj (f:=Val.int .i64),hx];rfl
     omega
    rw[bXj]at h91;simp only[bXj]at e16;simp only[go_sem,qC,qG,qW,h2,e2,e16,h10,h11,h12,h91,h92,h93,eb,hgk,hc1,hc2,true_and,and_true,eq_self,if_true,bX2,bXx,bXj,bXd]
    refine aA (fun g2'=>?_) (fun g2'=>?_)
    ·have hm0:bQ M k=0:=of_decide_eq_true g2';simp only[go_sem,qC,qG,qW,h2,e2,e16,h10,h11,h12,h91,h92,h93]
     refine pR (D:=[103]) (xs:=(kP M k).map (.int .i64)) (ys:=[.int .i64 k]) (rs:=[]) ?_ ?_ ?_ ?_ ?_
     ·simp only[go_sem,qW];exact mg
     ·simp only[go_sem,qW]
     ·rfl
     ·have:=aN2 M k;simp;omega
     ·intro v' en' cnt' hown hen hcnt;have k2:en' ⟨0,2,g2⟩=some (.box [.ptr ⟨0,16,gk⟩ 0] false):=by rw[hen 0 2 g2 (.inr ⟨by decide,by simp⟩)];exact e2
      have k16:=(hen 0 16 gk (.inr ⟨by decide,by simp⟩)).trans e16
      have kb:=(hen 0 11 gM (.inr ⟨by decide,by simp⟩)).trans eb
      have ka:=(hen 0 8 ga (.inr ⟨by decide,by simp⟩)).trans ea
      simp only[go_sem,qC,qG,qW,h2,h11,h12,h91,h92,h93]
      refine⟨h',_,_,_,v',vk,va,rfl,?_⟩
      simp only[go_sem,qC,qG,qW,h2,k2,h11,h12,h91,h92,h93,aJ h' hfM]
      refine⟨k16,oI ka (by simp),oI kb (by simp),by rw[hcnt 0 6 (by decide)];exact c6,(hen 0 6 0 (.inr ⟨by decide,by simp⟩)).trans q6,?_,?_,?_⟩
      ·rw[bGh hm0,bXw];exact cG.sub (D:=[103,103]) hown (by simp)
      ·rw[bGk hm0];exact mk.keep fun t g ht=>by rw[hen 0 t g (.inr (by simp at ht;subst ht;decide))]
      ·rw[bGm hm0];exact ma.keep fun t g ht=>by rw[hen 0 t g (.inr (by simp at ht;subst ht;decide))]
    ·have hm0: ¬bQ M k=0:=of_decide_eq_false g2';simp only[go_sem,qC,qG,qW,h2,e2,e16,h10,h11,h12,h91,h92,h93]
     refine aO ?_
     simp only[go_sem,qC,qG,qW,h2,e2,e16,h10,h11,h12,h91,h92,h93,bXe,bXf,bXh,bXi,bXg,bXc,if_false]
     refine nM (D:=[107]) (xs:=(dP M k).map (.int .i64)) (ys:=[.int .i64 k]) (rs:=[]) ?_ ?_ ?_ rfl ?_ ?_
     ·simp only[go_sem,qW];exact mk
     ·simp only[go_sem,qW]
     ·rfl
     ·have:=aAl M k;simp;omega
     ·intro v1 en1 cnt1 r1 own1 hen1 hcnt1 hw1 hr1 hm1;have k2:en1 ⟨0,2,g2⟩=some (.box [.ptr ⟨0,16,gk⟩ 0] false):=by rw[hen1 0 2 g2 (.inr ⟨by decide,by simp⟩)];exact e2
      have k16:=(hen1 0 16 gk (.inr ⟨by decide,by simp⟩)).trans e16
      have kb:=(hen1 0 11 gM (.inr ⟨by decide,by simp⟩)).trans eb
      have ka:=(hen1 0 8 ga (.inr ⟨by decide,by simp⟩)).trans ea
      simp only[go_sem,qC,qG,qW,h2,k2,k16,ka,h10,h12,h91,h92,h93,hga,hc1,hc3,hwa,true_and,and_true,eq_self,if_true,bX2,bXx,bXj,bXd,bXe,bXf,bXh,bXi,bXg,bXc,if_false]
      refine nM (D:=[120]) (xs:=(jM s M k).map (.int .i64)) (ys:=[.int .i64 (min (s.ages[k]+1) 2)]) (rs:=[]) ?_ ?_ ?_ rfl ?_ ?_
      ·simp only[go_sem,qW];exact ma.keep fun t g ht=>by rw[hen1 0 t g (.inr (by simp at ht;subst ht;decide))]
      ·simp only[go_sem,qW]
      ·rfl
      ·have:=aAl M k;have:=nG s M k;simp;omega
      ·intro v2 en2 cnt2 r2 own2 hen2 hcnt2 hw2 hr2 hm2;have j2:=(hen2 0 2 g2 (.inr ⟨by decide,by simp⟩)).trans k2
       have j16:=(hen2 0 16 gk (.inr ⟨by decide,by simp⟩)).trans k16
       have jb:=(hen2 0 11 gM (.inr ⟨by decide,by simp⟩)).trans kb
       have ja:=(hen2 0 8 ga (.inr ⟨by decide,by simp⟩)).trans ka
       have p1:=fun o n=>aC7 hw1 (t':=2) (g':=g2) ⟨by decide,by decide⟩ o n
       have p2:=fun o n=>aC7 hw1 (t':=16) (g':=gk) ⟨by decide,by decide⟩ o n
       have p3:=aQj hw1 (t':=8) (g':=ga) ⟨by decide,by decide⟩
       simp only[go_sem,qC,qG,qW,h2,j2,h10,h91,h92,h93,p1,p2,p3,hm1,hm2,bAc,bXe,bXf,bXh,bXi,bXg,bXc,if_false]
       refine⟨h',_,_,_,vg,v1,v2,rfl,?_⟩
       simp only[go_sem,qC,qG,qW,h2,j2,h10,h91,h92,h93,aJ h' hfM]
       refine⟨j16,oI ja (by simp),oI jb (by simp),by rw[hcnt2 0 6 (by decide),hcnt1 0 6 (by decide)];exact c6,(hen2 0 6 0 (.inr ⟨by decide,by simp⟩)).trans ((hen1 0 6 0 (.inr ⟨by decide,by simp⟩)).trans q6),?_,?_,?_⟩
       ·rw[bGi hm0];exact mg.keep fun t g ht=>by rw[hen2 0 t g (.inr (by simp at ht;subst ht;decide)),hen1 0 t g (.inr (by simp at ht;subst ht;decide))]
       ·rw[bGj hm0,bXw]
        refine cG.sub (D:=[107,107]) (own1.keep fun t g ht=>?_) (by simp)
        rw[hen2 0 t g (.inr (by simp at ht;subst ht;decide))]
       ·rw[bGl hm0,gQ hka,bXw];exact cG.sub (D:=[120,120]) own2 (by simp)
   ·have:k=M.length:=by simp at hq;omega
    subst this;rw[hMl]at mg mk ma;simp only[go_sem,qC,qG,qW,h2,e2,e16,h10,h11,h12,h91,h92,h93];obtain⟨hsh1,hsh2⟩:=aAn hMok hin hfg;have hkl:=hsh1.len;have hal:=aIa s.world (dP M s.world.objs.length) hs.1 hsm (by omega) hsh1.rise hsh1.rng hsh1.refs (fun t ht=>hsh2 t (htk t ht))
    have hkf:Few (dP M s.world.objs.length).length:=by unfold Few;omega
    have hcf:=aEf hs.1 hsm hkf hsh1.rng;have hcs:=zJ hsm hsh1;have hci:=aQf hsh1;have hcy':=hcy;simp only[inR,cAg]at hcy';have hwc:IntKind.i64.wrap (s.cycle+1)=s.cycle+1:=bY (by omega)
    have hsv:=ma.shape
    refine aO ?_
    rcases mk with⟨rfl,mkx⟩|⟨t1,gx,f1,rfl,ek,tk⟩
    ·rw[mkx]at hal;simp only[go_sem,qC,qG,qW,h2,e2,e16,h10,h11,h12,hwc,hal.ret,hsv.1,hsv.2,bXe,bXf,bXh,bXi,bXg,bXc,if_false]
     refine(aJh (aU s.world (dP M s.world.objs.length)) (jM s M s.world.objs.length) ((s.cycle+1).tmod 4) hcf hcs (by rw[nG];simp[aU]) (aU5 hAr) hci (gk:=gk) (vA:=va) (vM:=vM) (by simp only[go_sem,qW]) (ma.keep fun t g ht=>by simp at ht;subst ht;simp only[go_sem,qW]) c6).mono ?_
     rintro v en' cnt' ⟨g13,x16,xA,x13,x6,x103⟩
     try simp only[go_sem,qC,qG,qW,h10]
     refine⟨by rw[x6];simp only[go_sem,qW,q6,hen0],.inr ⟨hfg,vg,va,g13,rfl,mg.keep fun t g ht=>?_,x16,xA,x13⟩⟩
     simp at ht;subst ht
     rw[x103];simp only[go_sem,qW]
    ·have:t1=107:=by simpa using tk
     subst this;simp only[go_sem,qC,qG,qW,h2,e2,e16,h10,h11,h12,hwc,hal.ret,hsv.1,hsv.2,ek,bXj,bXd,if_true,qL,bXe,bXf,bXh,bXi,bXg,bXc,if_false]
     refine(aJh (aU s.world (dP M s.world.objs.length)) (jM s M s.world.objs.length) ((s.cycle+1).tmod 4) hcf hcs (by rw[nG];simp[aU]) (aU5 hAr) hci (gk:=gk) (vA:=va) (vM:=vM) (by simp only[go_sem,qW]) (ma.keep fun t g ht=>by simp at ht;subst ht;simp only[go_sem,qW]) c6).mono ?_
     rintro v en' cnt' ⟨g13,x16,xA,x13,x6,x103⟩
     try simp only[go_sem,qC,qG,qW,h10]
     refine⟨by rw[x6];simp only[go_sem,qW,q6,hen0],.inr ⟨hfg,vg,va,g13,rfl,mg.keep fun t g ht=>?_,x16,xA,x13⟩⟩
     simp at ht;subst ht
     rw[x103];simp only[go_sem,qW]
theorem uX {en:En}{v:Val}{size t:Nat}{xs:List Val}(h:cG en v size xs [t])(n:Nat): ∃r ks,r.wk0= .fz xs/\ r.wk1= .fz xs/\ ∀en':En,(∀g,en' ⟨0,t,g⟩=en ⟨0,t,g⟩)->snapD (n+1) en' v=some (r,ks):=by
 rcases h with⟨rfl,rfl⟩|⟨t',g,f,rfl,h2,ht⟩
 ·exact⟨.cl [],[],rfl,rfl,fun _ _=>rfl⟩
 ·have:t'=t:=by simpa using ht
  subst this;exact⟨.fz xs,[⟨0,t',g⟩],rfl,rfl,fun en' he=>by simp[snapD,he,h2]⟩
theorem aJi (n:Int):PC L 88 [.int .i64 n] (.bool (inR n 1 200)):=by
 have e:inR n 1 200=(decide (1<=n)&&decide (n<=200)):=by simp[inR]
 rw[e]
 refine aL bVb rfl rfl ?_
 simp only[go_sem,qC,qG,qW,bC4]
 refine aE (fun g=>?_) (fun g=>?_)<;>simp only[go_sem,qC,qG,qW,g,bX0,bX6,bXp]
theorem bDj (n:Int):PC L 42 [.int .i64 n] (.bool (inR n 1 200)):=by
 refine aL bUn rfl rfl ?_
 simp only[go_sem,qC,qG,qW,bCh,(uO _ _ _).ret]
theorem gY (s:aX)(i:Nat):fR s i=bQ s.marks i:=by simp[fR,bQ]
theorem aEg {p:aP}{s:aX}(h:cE p s=true):nE s.world s.marks/\ s.ages.length=s.world.objs.length/\ inR s.cycle 0 3=true/\ (∀i:Nat,i<s.world.objs.length->inR (oG s i) 0 2=true)/\ eV p s.world=true:=by
 simp only[cE,jX,lJ,bXb,cAg,bXo]at h;obtain⟨⟨hg,⟨h1,h2⟩,h3⟩,h4⟩:=h;have row:=fun(i:Nat) (hi:i<s.world.objs.length)=>h4 i (by simpa using hi)
 refine⟨⟨h2,fun i hi=>?_,fun i hi ht h0=>?_,fun i hi hb x hx h0=>?_⟩,h1,h3,fun i hi=>?_,hg⟩
 ·have:=(row i (by omega)).1
  simp only[kV,bXb]at this;have:=this.2;rw[gY]at this;simp only[inR,cAg]at this;omega
 ·have:=(row i hi).2;simp only[lH,gC,bXb,bYh,gY,h0,ht]at this
  simp at this
 ·have:=(row i hi).2;simp only[lH,bXb,bXo]at this;have:=this.2 x ((kG _ _).2 hx);have h0':fR s x=0:=by unfold fR;unfold bQ at h0;exact h0
  simp only[iJ,gY,hb,h0',decide_true,Bool.and_self,bXp]at this;cases this
 ·have:=(row i hi).1;simp only[kV,bXb]at this;exact this.1
theorem aIb (p:aP)(s:aX)(most:Int)(hp:p.few)(hs:s.few)(hsp:aT p=true)(hss:bO s=true):
  PC L 41 [.agg [.fz (p.nodes.map aK.enc),.fz (p.funs.map (.int .i64)),.int .i64 p.main,.fz (p.cons.map bE.enc)],.agg [.fz (s.world.objs.map aI.enc),.fz (s.world.tasks.map (.int .i64)),.fz (s.world.outs.map aN.enc),.fz (s.world.ins.map (.int .i64)),.int .i64 s.world.used,.fz (s.ages.map (.int .i64)),.fz (s.marks.map (.int .i64)),.int .i64 s.cycle],.int .i64 most] (if cE p s=true/\ inR most 1 200=true then .tup [.agg [.fz ((bI s most.toNat).world.objs.map aI.enc),.fz ((bI s most.toNat).world.tasks.map (.int .i64)),.fz ((bI s most.toNat).world.outs.map aN.enc),.fz ((bI s most.toNat).world.ins.map (.int .i64)),.int .i64 (bI s most.toNat).world.used,.fz ((bI s most.toNat).ages.map (.int .i64)),.fz ((bI s most.toNat).marks.map (.int .i64)),.int .i64 (bI s most.toNat).cycle],.fz ((pF s most.toNat).map (.int .i64)),.bool (gJ s most.toNat),.int .i64 0]
   else .tup [.agg [.fz [],.fz [],.fz [],.fz [],.int .i64 0,.fz [],.fz [],.int .i64 0],.fz [],.bool false,.int .i64 2]):=by
 have hsw1:aY s.world=true:=by
  simp only[bO,bXb]at hss;exact hss.1.1
 have hck:=zF p s hp hs hsp hsw1
 refine aL bUm rfl rfl ?_
 by_cases h1:cE p s=true
 ·rw[if_pos h1]at hck;obtain⟨hok,hA,hcy,hAr,hg⟩:=aEg h1;have hin:kW s.world:=fun o ho x hx=>aBm hg o ho x ((kG _ _).2 hx)
  by_cases h2:inR most 1 200=true
  ·rw[if_pos ⟨h1,h2⟩];have hpr:=aJi most;rw[h2]at hpr;simp only[inR,cAg]at h2;obtain⟨k,rfl⟩:=bYr (show 0<=most by omega)
   simp only[go_sem,qC,qG,qW,aWd,hck.ret,hpr.ret]
   refine(bAl s hs hss).mono ?_
   rintro v en1 cnt1 ⟨g16,vA,vM,rfl,e16,mA,mM,hfr,hcn,hA8⟩
   have q6:=hfr 6 0 (by decide) (by decide) (by decide) (by decide)
   have c6:1<=cnt1 0 6:=by rw[hcn 6 (by decide) (by decide) (by decide) (by decide)];simp only[go_sem,qW];try exact bXd _
   have q6':en1 ⟨0,6,0⟩=some (.box [.cl [],.cl [],.cl [],.cl [],.int .i64 0,.cl [],.cl [],.int .i64 0] false):=by rw[q6];simp only[go_sem,qW]
   try simp only[go_sem,qC,qG,qW]
   refine(aW3 s k hs hsw1 hin hok hA (by omega) hcy hAr (sH hg).1 e16 mA mM c6 hA8).mono ?_
   rintro v en2 cnt2 ⟨x6,(⟨hfg,rfl,x16,xA,xM⟩|⟨hfg,vg,va,g13,rfl,xg,x16,xA,x13⟩)⟩
   ·have y6:=x6.trans q6';have hS:bI s k=⟨s.world,s.ages,cU s.world k s.marks,s.cycle⟩:=by rw[bI,if_pos hfg]
    have hG:pF s k=[]:=by rw[pF,if_pos hfg]
    have hE:gJ s k=false:=by rw[gJ,decide_eq_true hfg];rfl
    rw[bXx,hS,hG,hE];obtain⟨r1,k1,a1,a2,a3⟩:=uX xA.mine 5;obtain⟨r2,k2,d1,d2,d3⟩:=uX xM.mine 5;simp only[go_sem,qC,qG,qW,x16,y6,a1,a2,a3,d1,d2,d3,implies_true]
   ·have y6:=x6.trans q6';have hS:bI s k=lP s (cU s.world k s.marks):=by rw[bI,if_neg hfg]
    have hG:pF s k=kP (cU s.world k s.marks) s.world.objs.length:=by rw[pF,if_neg hfg]
    have hE:gJ s k=true:=by rw[gJ,decide_eq_false hfg];rfl
    rw[bXx,hS,hG,hE];obtain⟨r1,k1,a1,a2,a3⟩:=uX xA 5;obtain⟨r2,k2,d1,d2,d3⟩:=uX xg 6;have hlm:(lP s (cU s.world k s.marks)).marks.length=(lP s (cU s.world k s.marks)).world.objs.length:=by simp[lP,gH]
    have htk:((lP s (cU s.world k s.marks)).marks.map (Val.int .i64)).take (lP s (cU s.world k s.marks)).world.objs.length=(lP s (cU s.world k s.marks)).marks.map (.int .i64):=bXs (by simp[hlm])
    simp only[go_sem,qC,qG,qW,x16,y6,x13,a1,a2,a3,d1,d2,d3,implies_true,hlm,htk,bXj,bXd,if_true]
  ·rw[if_neg (fun h=>h2 h.2)]
   have hpr:=aJi most;rw[bYf]at h2;rw[h2]at hpr;simp only[go_sem,qC,qG,qW,aWd,hck.ret,hpr.ret]
 ·rw[if_neg h1]at hck;rw[if_neg (fun h=>h1 h.1)]
  simp only[go_sem,qC,qG,qW,aWd,hck.ret]
theorem bAn {s:aX}{m:List Int}(hs:s.few)(hsm:aY s.world=true)(h:yV s.world (dP m s.world.objs.length)):(lP s m).few:=by
 have hl:=h.len;have h1:=hs.1.objs;have hkf:Few (dP m s.world.objs.length).length:=by unfold Few at*;omega
 refine⟨aEf hs.1 hsm hkf h.rng,?_,?_⟩
 ·simp only[lP,nG];exact hkf
 ·simpa[lP,gH,aU]using hkf
theorem aW4 {s:aX}{most:Nat}(hs:s.few)(hsm:aY s.world=true)(hin:kW s.world)(hok:nE s.world s.marks):(bI s most).few:=by
 unfold bI;split
 ·refine⟨hs.1,hs.2.1,?_⟩
  have:=hok.len;have h1:=hs.1.objs;simp only[aBw];unfold Few at*;omega
 ·rename_i hfg;exact bAn hs hsm (aAn (tR hin most hok) hin hfg).1
theorem aQk {s:aX}{most:Nat}(hs:s.few):Few (pF s most).length:=by
 have h1:=hs.1.objs;unfold pF;split
 ·unfold Few at*;simp
 ·have:=aN2 (cU s.world most s.marks) s.world.objs.length;unfold Few at*;omega
theorem lC {keep:List Int}{x:Int}(h:x∈keep):keep.idxOf x<keep.length:=List.idxOf_lt_length_of_mem h
theorem aBx {keep:List Int}{x:Int}(h:x∈keep):keep[keep.idxOf x]'(lC h)=x:=List.getElem_idxOf (lC h)
theorem aU6 {keep:List Int}{x y:Int}(hx:x∈keep)(hy:y∈keep)(h:keep.idxOf x=keep.idxOf y):x=y:=by
 have h1:=aBx hx;have h2:=aBx hy;simp only[h]at h1;rw[<-h1,h2]
theorem aQl {keep:List Int}(hr:keep.Pairwise (· < ·)){i:Nat}(h:i<keep.length):keep.idxOf keep[i]=i:=by
 have hm:=bXn h;have hl:=lC hm;have hg:=aBx hm
 by_cases h1:keep.idxOf keep[i]<i
 ·have:=cAf.1 hr _ _ hl h h1;omega
 ·by_cases h2:i<keep.idxOf keep[i]
  ·have:=cAf.1 hr _ _ h hl h2;omega
  ·omega
theorem xN {w:aB}{keep:List Int}{t:Int}(h:t∈keep):(aU w keep).obj (keep.idxOf t:Nat)=cA keep (w.obj t):=by
 have hl:=lC h;have hg:=aBx h;simp only[aB.obj,aU,bXx,bXm,bZp,bYs hl,bX9,bX3,hg]
theorem uY {w:aB}{keep:List Int}{i:Nat}(h:i<keep.length):(aU w keep).obj i=cA keep (w.obj keep[i]):=by
 simp only[aB.obj,aU,bXx,bXm,bZp,bYs h,bX9,bX3]
theorem aIc {p:aP}{w:aB}{keep:List Int}{v:aG}(h:cO p w v=true)(hr:jK v=true->v.n∈keep):cO p (aU w keep) (dZ keep v)=true:=by
 by_cases h5:jK v=true
 ·have hk:v.kind=5:=of_decide_eq_true h5;have:=lC (hr h5);simp only[cO,dZ,hk,h5,if_true,inR,aU,bXj]
  simp;omega
 ·have hk: ¬v.kind=5:=fun e=>h5 (decide_eq_true e)
  have e:dZ keep v=v:=by rw[dZ,if_neg h5]
  rw[e]
  simpa only[cO,hk,if_false]using h
theorem nQ {l:List aG}{v:aG}(hv:v∈l)(h:jK v=true):v.n∈cP l:=bXy.2 ⟨v,bY0.2 ⟨hv,h⟩,rfl⟩
theorem fS {p:aP}{w:aB}{keep:List Int}{l:List aG}{m:Int}(h:aR p w l m=true)(hr: ∀x∈cP l,x∈keep):aR p (aU w keep) (dW keep l) m=true:=by
 simp only[aR,bXb,cAg,bXo]at h⊢
 refine⟨by simpa[dW]using h.1,fun v hv=>?_⟩
 obtain⟨u,hu,rfl⟩:=bXy.1 hv;exact aIc (h.2 u hu) fun h5=>hr _ (nQ hu h5)
theorem uZ (keep:List Int)(l:List aG):(dW keep l).length=l.length:=by simp[dW]
theorem aId {p:aP}{w:aB}{keep:List Int}{f:aC}(h:bG p w f=true)(hr: ∀x∈cX f,x∈keep):bG p (aU w keep) (iZ keep f)=true:=by
 simp only[bG,bXb]at h⊢;exact⟨⟨h.1.1,fS h.1.2 fun x hx=>hr x (bYo _ hx)⟩,fS h.2 fun x hx=>hr x (bYl _ hx)⟩
theorem xO {p:aP}{w:aB}{keep:List Int}{l:List aC}(h:bK p w l=true)(hr: ∀x∈l.flatMap cX,x∈keep):bK p (aU w keep) (l.map (iZ keep))=true:=by
 simp only[bK,bXb,cAg,bXo]at h⊢
 refine⟨by simpa using h.1,fun f hf=>?_⟩
 obtain⟨g,hg,rfl⟩:=bXy.1 hf;exact aId (h.2 g hg) fun x hx=>hr x (bYk.2 ⟨g,hg,hx⟩)
theorem vV (p:aP)(keep:List Int)(f:aC):cS p (iZ keep f)=cS p f:=by simp[cS,iZ,uZ]
theorem aN7 (p:aP)(keep:List Int)(l:List aC)(k:Nat):((l.map (iZ keep)).take k).all (cS p)=(l.take k).all (cS p):=by
 rw[<-bZd,List.all_map]
 congr 1;funext f;exact vV p keep f
theorem aLc {p:aP}{w:aB}{keep:List Int}{o:aI}(h:iH p w o=true)(hr: ∀x∈dG o,x∈keep):iH p (aU w keep) (cA keep o)=true:=by
 have hv: ∀x∈cP o.vals,x∈keep:=fun x hx=>hr x (bYo _ hx)
 have hf: ∀x∈o.frames.flatMap cX,x∈keep:=fun x hx=>hr x (bYl _ hx)
 unfold iH at h⊢;simp only[cA,bXj,uZ,aN7]
 split at h
 ·rename_i h0;rw[if_pos h0];simp only[bXb]at h⊢;exact⟨⟨⟨xO h.1.1.1 hf,fS h.1.1.2 hv⟩,h.1.2⟩,h.2⟩
 split at h
 ·rename_i h0 h1;rw[if_neg h0,if_pos h1];simp only[bXb]at h⊢;exact⟨h.1,fS h.2 hv⟩
 split at h
 ·rename_i h0 h1 h2;rw[if_neg h0,if_neg h1,if_pos h2];exact h
 ·cases h
theorem aQm (keep:List Int)(l:List aC):((l.map (iZ keep)).headD default).node=(l.headD default).node:=by cases l<;>rfl
theorem aN8 {p:aP}{w:aB}{keep:List Int}{o:aI}(h:dN p w o=true)(hr: ∀x∈dG o,x∈keep):dN p (aU w keep) (cA keep o)=true:=by
 have hv: ∀x∈cP o.vals,x∈keep:=fun x hx=>hr x (bYo _ hx)
 have hf: ∀x∈o.frames.flatMap cX,x∈keep:=fun x hx=>hr x (bYl _ hx)
 unfold dN at h⊢
 split at h
 ·rename_i h0;rw[if_pos (show(cA keep o).form=6 from h0)]
  exact aLc h hr
 rename_i h0;rw[if_neg (show¬(cA keep o).form=6 from h0)]
 split at h
 ·rename_i h1;rw[if_pos (show(cA keep o).form=5 from h1)]
  have ho:(o.frames.map (iZ keep)).all (cS p)=o.frames.all (cS p):=by
   rw[List.all_map];congr 1;funext f;exact vV p keep f
  simp only[cA,bXj,uZ,aQm,ho];simp only[bXb]at h⊢;exact⟨⟨⟨h.1.1.1,xO h.1.1.2 hf⟩,h.1.2⟩,h.2⟩
 rename_i h1;rw[if_neg (show¬(cA keep o).form=5 from h1)]
 have hL:(cA keep o).frames.length=o.frames.length:=by simp only[cA,bXj]
 have hVl:(cA keep o).vals.length=o.vals.length:=by simp only[cA,uZ]
 rw[hL,hVl]
 split at h
 ·cases h
 rename_i h2;rw[if_neg h2]
 split at h
 ·rename_i h3;rw[if_pos (show(cA keep o).form=1 from h3)]
  simp only[bXb]at h⊢;exact⟨h.1,fS h.2 hv⟩
 rename_i h3;rw[if_neg (show¬(cA keep o).form=1 from h3)]
 split at h
 ·rename_i h4;rw[if_pos (show(cA keep o).form=2 from h4)]
  simp only[bXb]at h⊢;exact⟨h.1,fS h.2 hv⟩
 rename_i h4;rw[if_neg (show¬(cA keep o).form=2 from h4)]
 split at h
 ·rename_i h5;rw[if_pos (show(cA keep o).form=3 from h5)]
  simp only[bXb]at h⊢;exact⟨h.1,fS h.2 hv⟩
 rename_i h5;rw[if_neg (show¬(cA keep o).form=3 from h5)]
 split at h
 ·rename_i h6;rw[if_pos (show(cA keep o).form=4 from h6)]
  simp only[bXb]at h⊢;exact⟨h.1,fS h.2 hv⟩
 ·cases h
theorem qM (keep:List Int)(o:aI):bF (cA keep o)=bF o:=rfl
theorem xP {w:aB}{keep:List Int}: ∀(l met:List Int),(∀x∈l,x∈keep)->(∀x∈met,x∈keep)->bB w met l=true->bB (aU w keep) (met.map fun t=>(keep.idxOf t:Int)) (l.map fun t=>(keep.idxOf t:Int))=true
 |[],_,_,_,_=>rfl
 |k::l,met,hl,hm,h=>by
  simp only[bB,bXb]at h;have hk:=hl k (by simp)
  have hlt:=lC hk;have ih:=xP l (met++[k]) (fun x hx=>hl x (by simp[hx])) (fun x hx=>by rcases bX1.1 hx with hx|hx;exact hm x hx;simp only[bYi]at hx;rw[hx];exact hk) h.2
  rw[bXw]at ih;simp only[bYa,bB,bXb]
  refine⟨⟨⟨?_,?_⟩,?_⟩,ih⟩
  ·simp only[inR,cAg,aU,bXj];omega
  ·rw[xN hk,qM];exact h.1.1.2
  ·have hn:=h.1.2;rw[bYh,<-bYf,bZm]at hn⊢
   rintro⟨x,hx,he⟩
   obtain⟨y,hy,rfl⟩:=bXy.1 hx;have he':keep.idxOf y=keep.idxOf k:=by have:=of_decide_eq_true he;omega
   exact hn ⟨y,hy,decide_eq_true (aU6 (hm y hy) hk he')⟩
theorem aQn {p:aP}{w:aB}{keep:List Int}(h:eV p w=true)(hs:yV w keep)(ht: ∀t,(∃i:Nat,t=(i:Int)/\ i<w.objs.length/\ bF (w.obj i)=true)->t∈keep):eV p (aU w keep)=true:=by
 obtain⟨hT1,hT2⟩:=sH h;have htk: ∀t∈w.tasks,t∈keep:=fun t hm=>ht t (hT1 t hm)
 simp only[eV,gG,bXb,<-aAh]at h⊢;obtain⟨hfm,⟨⟨⟨⟨⟨⟨a1,a2⟩,a3⟩,a4⟩,a5⟩,a6⟩,a7⟩⟩:=h;have hl:=hs.len
 refine⟨hfm,⟨⟨⟨⟨⟨⟨?_,a2⟩,a3⟩,a4⟩,?_⟩,?_⟩,a7⟩⟩
 ·simp only[cAg,aU,bXj]at a1⊢;omega
 ·simp only[rI,bXb]at a5⊢
  refine⟨xP w.tasks [] htk (fun x hx=>by cases hx) a5.1,?_⟩
  simp only[yM,bXo];intro i hi;have hi':i<keep.length:=by simpa[aU]using hi
  rw[uY hi',qM];cases hk:bF (w.obj keep[i])with
  |false=>simp
  |true=>
   have hri:=hs.rng _ (bXn hi');simp only[inR,cAg]at hri;obtain⟨j,hj⟩:=bYr hri.1;rw[hj]at hk;have hm:=hT2 j (by omega) hk
   simp only[bXp,Bool.or_false,bZm,cAg]
   refine⟨(keep.idxOf (j:Int):Int),bXy.2 ⟨_,hm,rfl⟩,?_⟩
   rw[<-hj,aQl hs.rise hi']
 ·rw[bXo]at a6⊢;intro o ho;obtain⟨n,hn,rfl⟩:=bXy.1 ho;exact aN8 (a6 _ (aBt (hs.rng n hn))) (hs.refs n hn)
theorem eB {p:aP}{s:aX}:cE p s=true↔eV p s.world=true/\ nE s.world s.marks/\ s.ages.length=s.world.objs.length/\ inR s.cycle 0 3=true/\ (∀i:Nat,i<s.world.objs.length->inR (oG s i) 0 2=true)/\ (∀i:Nat,i<s.world.objs.length->bQ s.marks i=0->oG s i=2->s.cycle=3):=by
 constructor
 ·intro h;obtain⟨a,b,c,d,e⟩:=aEg h
  refine⟨e,a,b,c,d,fun i hi h0 h2=>?_⟩
  simp only[cE,jX,lJ,bXb,cAg,bXo]at h;have:=(h.2 i (by simpa using hi)).2
  simp only[lH,gC,bXb,bYh,gY,h0,h2]at this
  by_cases hc:s.cycle=3
  ·exact hc
  ·simp[hc]at this
 ·rintro⟨hg,hm,hA,hc,hr,hw⟩
  simp only[cE,jX,lJ,bXb,cAg,bXo]
  refine⟨⟨hg,⟨hA,hm.len⟩,hc⟩,fun i hi=>?_⟩
  have hi:i<s.world.objs.length:=by simpa using hi
  refine⟨?_,?_⟩
  ·simp only[kV,bXb]
   refine⟨hr i hi,?_⟩
   have:=hm.range i (by rw[hm.len];exact hi)
   rw[gY];simp only[inR,cAg];omega
  ·simp only[lH,bXb,bXo,bYh]
   refine⟨?_,fun x hx=>?_⟩
   ·rw[<-bYf];intro hb;simp only[gC,bXb,bZv,cAg,bYh,cAh,gY]at hb;rcases hb with⟨h0,ht|⟨h2,h3⟩⟩
    ·exact hm.tasks i hi ht h0
    ·exact h3 (hw i hi h0 h2)
   ·rw[<-bYf];intro hb;simp only[iJ,bXb,cAg,gY]at hb;exact hm.black i hi hb.1 x ((kG _ _).1 hx) hb.2
theorem bAo (w:aB){i:Nat}: ∀(k:Nat) {m:List Int},¬bQ m i=0-> ¬bQ (cU w k m) i=0
 |0,_,h=>h
 |k+1,m,h=>by
  rw[cU];split
  ·exact bAo w k (aLb h)
  ·exact h
theorem vB (y:Int->Bool)(w:aB)(ages:List Int)(c:Int):(gH y w ages c).length=w.objs.length:=by simp[gH]
theorem pG {y:Int->Bool}{w:aB}{ages:List Int}{c:Int}{i:Nat}(h:i<w.objs.length):bQ (gH y w ages c) i=dI y w ages c i:=by
 rw[tP (by rw[vB];exact h)];simp[gH]
theorem aG4 {w:aB}{i:Nat}(h:i<w.objs.length):w.obj i∈w.objs:=by rw[dH h];exact bXn _
theorem aEh {w:aB}{ages:List Int}{c:Int}(hin:kW w)(hr: ∀i:Nat,i<w.objs.length->inR (qB ages i) 0 2=true):
  nE w (gH lt2 w ages c)/\ ∀i:Nat,i<w.objs.length->bQ (gH lt2 w ages c) i=0->qB ages i=2->c=3:=by
 refine⟨⟨vB ..,fun i hi=>?_,fun i hi ht=>?_,fun i hi h2 x hx=>?_⟩,fun i hi h0 h2=>?_⟩
 ·rw[vB]at hi;rw[pG hi,dI];split
  ·exact .inr (.inl rfl)
  ·split
   ·split
    ·exact .inr (.inl rfl)
    ·exact .inr (.inr rfl)
   ·exact .inl rfl
 ·rw[pG hi,dI,if_pos ht];decide
 ·have hxi:=hin _ (aG4 hi) x hx;simp only[inR,cAg]at hxi;have hl:x.toNat<w.objs.length:=by omega
  rw[pG hi,dI]at h2
  split at h2
  ·exact absurd h2 (by decide)
  split at h2
  ·rename_i hc
   split at h2
   ·exact absurd h2 (by decide)
   ·rename_i hy;have h3: ¬lt2 (qB ages x)=true:=fun e=>hy (bZm.2 ⟨x,(kG _ _).2 hx,e⟩)
    have h4:=hr x.toNat hl;have e5:qB ages (x.toNat:Nat)=qB ages x:=by rw[bZo hxi.1]
    rw[e5]at h4;simp only[lt2,cAg,inR]at h3 h4;have h6:qB ages x=2:=by omega
    rw[pG hl,dI];split
    ·decide
    ·simp only[bXb]at hc;rw[e5,h6,hc.1];simp only[decide_true,Bool.and_self,if_true]
     split<;>decide
  ·exact absurd h2 (by decide)
 ·rw[pG hi,dI]at h0
  split at h0
  ·exact absurd h0 (by decide)
  split at h0
  ·split at h0<;>exact absurd h0 (by decide)
  ·rename_i hc
   by_cases h3:c=3
   ·exact h3
   ·exact absurd (by simp[h2,h3]) hc
theorem aW5 {s:aX}{m:List Int}{k:Nat}(hr: ∀i:Nat,i<k->inR (oG s i) 0 2=true): ∀x∈jM s m k,inR x 0 2=true:=by
 intro x hx;obtain⟨i,hi,rfl⟩:=bXy.1 hx;have hi:=hr i (by have:=(bY0.1 hi).1;simpa using this)
 simp only[inR,cAg]at hi⊢;omega
theorem eJ {p:aP}{w:aB}(h:eV p w=true):kW w:=fun o ho x hx=>aBm h o ho x ((kG _ _).2 hx)
theorem aC9 {p:aP}{s:aX}{most:Nat}(h:cE p s=true)(hg: ¬dX (cU s.world most s.marks)<(cU s.world most s.marks).length):
  yV s.world (dP (cU s.world most s.marks) s.world.objs.length)/\ ∀t,(∃i:Nat,t=(i:Int)/\ i<s.world.objs.length/\ bF (s.world.obj i)=true)->t∈dP (cU s.world most s.marks) s.world.objs.length:=by
 obtain⟨hgv,hm,_,_,_,_⟩:=eB.1 h;exact aAn (tR (eJ hgv) most hm) (eJ hgv) hg
theorem sI {p:aP}{s:aX}{most:Nat}(h:cE p s=true):cE p (bI s most)=true:=by
 obtain⟨hgv,hm,hA,hc,hr,hw⟩:=eB.1 h;have hin:=eJ hgv;have hmr:=tR hin most hm;unfold bI;split
 ·refine eB.2 ⟨hgv,hmr,hA,hc,hr,fun i hi h0 h2=>?_⟩
  refine hw i hi ?_ h2
  by_cases h':bQ s.marks i=0
  ·exact h'
  ·exact absurd h0 (bAo _ most h')
 ·rename_i hg;obtain⟨hs,ht⟩:=aC9 h hg;have hgv':=aQn hgv hs ht;have hl:(aU s.world (dP (cU s.world most s.marks) s.world.objs.length)).objs.length=(dP (cU s.world most s.marks) s.world.objs.length).length:=by simp[aU]
  have hr': ∀i:Nat,i<(aU s.world (dP (cU s.world most s.marks) s.world.objs.length)).objs.length->inR (qB (jM s (cU s.world most s.marks) s.world.objs.length) i) 0 2=true:=fun i hi=>by
   rw[xD (by rw[nG];omega)]
   exact aW5 hr _ (bXn _)
  obtain⟨b1,b2⟩:=aEh (c:=(s.cycle+1).tmod 4) (eJ hgv') hr'
  refine eB.2 ⟨hgv',b1,by rw[lP,nG,hl],?_,hr',b2⟩
  simp only[inR,cAg]at hc⊢;have:(s.cycle+1).tmod 4=(s.cycle+1)%4:=Int.tmod_eq_emod_of_nonneg (by omega)
  show 0<=(s.cycle+1).tmod 4/\ (s.cycle+1).tmod 4<=3;omega
theorem sJ {p:aP}{s:aX}{most:Nat}(h:cE p s=true)(hs:bO s=true):bO (bI s most)=true:=by
 obtain⟨hgv,hm,hA,hc,hr,hw⟩:=eB.1 h;simp only[bO,bXb,cAg]at hs⊢;unfold bI;split
 ·exact⟨hs.1,by rw[aBw];exact hs.2⟩
 ·rename_i hg;obtain⟨hsh,ht⟩:=aC9 h hg;have hkl:=hsh.len;have hml:=hm.len
  refine⟨⟨zJ hs.1.1 hsh,?_⟩,?_⟩
  ·show((jM _ _ _).length:Int)<=130;rw[nG];omega
  ·show((gH _ _ _ _).length:Int)<=130;rw[vB];simp only[aU,bXj];omega
theorem aEu (l:List Int)(n:Int)(hl:Few l.length):PC L 137 [.fz (l.map (.int .i64)),.int .i64 n] (.int .i64 (if pE l n=true then(l.idxOf n:Nat)else-1)):=by
 refine aL bJx rfl rfl ?_
 simp only[go_sem,qC,qG,qW,aR9]
 refine bD (l.length) (fun k st=> ∃fr en cnt,st=⟨fr,en,cnt⟩/\ (fr 0= .fz (l.map (.int .i64)))/\ (fr 1= .int .i64 n)/\ (fr 7= .int .i64 l.length)/\ (fr 8= .int .i64 k)/\ (l.idxOf n=(l.drop k).idxOf n+k)/\ (pE (l.drop k) n=pE l n)) 0 (bXl _) ⟨_,_,_,rfl,(by first|(simp only[go_sem,qW];(try rfl);done)|rfl|simp),(by first|(simp only[go_sem,qW];(try rfl);done)|rfl|simp),(by first|(simp only[go_sem,qW];(try rfl);done)|rfl|simp),(by first|(simp only[go_sem,qW];(try rfl);done)|rfl|simp),(by first|(simp only[go_sem,qW];(try rfl);done)|rfl|simp),(by first|(simp only[go_sem,qW];(try rfl);done)|rfl|simp)⟩ ?_
 rintro k st hk ⟨fr,en,cnt,rfl,h0,h1,h7,h8,hI,hM⟩
 simp only[go_sem,qC,qG,qW,h0,h1,h7,h8]
 refine aA (fun hq=>?_) (fun hq=>?_)
 ·have h':k<l.length:=of_decide_eq_true hq;rw[bAd h']at hI;rw[bX7 h']at hM;simp only[go_sem,qC,qG,qW,hq,h',h0,h1,h7,h8]
  refine aA (fun g=>?_) (fun g=>?_)
  ·have g':l[k]=n:=by simp at g;omega
   rw[if_pos g']at hI;have hm:pE l n=true:=by rw[<-hM];simp[pE,g']
   rw[if_pos hm];simp only[go_sem,qC,qG,qW,h0,h1,h7,h8];rw[hI,bX2]
  ·have g': ¬l[k]=n:=by simp at g;omega
   rw[if_neg g']at hI;have hm:pE (l.drop (k+1)) n=pE l n:=by rw[<-hM];simp only[pE,bZs,g',decide_false,bYy]
   clear hM;simp only[go_sem,qC,qG,qW,h',h0,h1,h7,h8]
   refine⟨_,_,_,rfl,?_⟩
   simp only[go_sem,qW,h0,h1,h7,h8,aJ h' hl];exact⟨by omega,hm⟩
 ·have:k=l.length:=by simp at hq;omega
  subst this;have hm: ¬pE l n=true:=by rw[<-hM];simp[pE]
  simp only[go_sem,qC,qG,qW,hq,h0,h1,h7,h8];rw[if_neg hm]
theorem aN9 (l:List Int)(n:Int)(hl:Few l.length):PC L 97 [.fz (l.map (.int .i64)),.int .i64 n] (.bool (pE l n)):=by
 have h:=aEu l n hl
 refine aL bVg rfl rfl ?_
 simp only[go_sem,qC,qG,qW,bC8,h.ret];cases pE l n
 ·simp
 ·simp
theorem aOa (p:aP)(s:aX)(hp:p.few)(hs:s.few)(hc:p.cons.length<=1000):PC L 48 [.agg [.fz (p.nodes.map aK.enc),.fz (p.funs.map (.int .i64)),.int .i64 p.main,.fz (p.cons.map bE.enc)],.agg [.fz (s.world.objs.map aI.enc),.fz (s.world.tasks.map (.int .i64)),.fz (s.world.outs.map aN.enc),.fz (s.world.ins.map (.int .i64)),.int .i64 s.world.used,.fz (s.ages.map (.int .i64)),.fz (s.marks.map (.int .i64)),.int .i64 s.cycle]] (.bool (bO s&&cE p s)):=by
 refine aL bUp rfl rfl ?_
 simp only[go_sem,qC,qG,qW,bCi,(aBg s hs).ret]
 refine aE (fun g=>?_) (fun g=>?_)
 ·have hsw:aY s.world=true:=by
   simp only[bO,bXb]at g;exact g.1.1
  simp only[go_sem,qC,qG,qW,g,(aK2 p s hp hs hc hsw).ret,bX0]
 ·simp only[go_sem,qC,qG,qW,g,bX6]
def aQo (gone:List Int)(k:Nat):List Int:=((List.range k).filter fun(i:Nat)=>!pE gone i).map fun(i:Nat)=>(i:Int)
end Go.Proofs.YthpmfghgoabnhaaGreat
