/- Contracts of functions of the program and of the document: part 4. -/
import Derived.Test.YthpmfghgoabnhaaGreatM3
import Derived.Test.YthpmfghgoabnhaaGreatM2
set_option linter.all false
open Bool renaming and_eq_true → bVc, and_false → bWn, and_true → bW7, false_and → bV5, false_eq_true → bVd, not_eq_true → bWi, not_eq_true' → bWh, or_true → bVi, true_and → bVy, true_or → bVj
open Int renaming eq_ofNat_of_zero_le → bWq, natCast_nonneg → bX1, toNat_natCast → bV3, toNat_of_nonneg → bXr
open List renaming all_cons → bVf, all_eq_true → bVo, any_eq_true → bXk, append_nil → bWw, cons_append → bXe, drop_eq_getElem_cons → bWc, drop_length → bW8, flatMap_nil → bXu, getD_eq_getElem?_getD → bVm, getElem?_append_left → bX8, getElem?_cons_succ → bVh, getElem?_cons_zero → bVg, getElem?_eq_getElem → bWo, getElem?_set → bXm, getElem_mem → bVp, length_append → bV7, length_cons → bVu, length_drop → bXf, length_map → bVk, length_nil → bWa, length_pos_iff → bX6, length_set → bXt, length_singleton → bXw, length_take → bXc, map_append → bVx, map_cons → bV9, map_nil → bVv, map_set → bW0, mem_append → bV6, mem_append_left → bW6, mem_append_right → bW1, mem_cons → bWe, mem_cons_of_mem → bX7, mem_filter → bW5, mem_flatMap → bWt, mem_map → bV4, mem_of_mem_take → bXp, mem_or_eq_of_mem_set → bYa, mem_range → bW4, mem_singleton → bWk, nil_append → bWv, range_succ → bWr, take_length → bWf, take_of_length_le → bVw
open Nat renaming add_zero → bWu, le_of_eq → bWl, le_refl → bVe, le_trans → bWd, lt_of_lt_of_le → bWg, zero_add → bWb, zero_le → bVn
open Option renaming getD_none → bX4, getD_some → bV0, isSome_none → bXg, isSome_some → bXd, map_eq_some_iff → bVr
open Option.some renaming injEq → bVb
open Prod.mk renaming injEq → bVl
namespace Go.Proofs.YthpmfghgoabnhaaGreat
open Go.Abs Go.Proofs
theorem aM1 {hi:Int}: ∀(evs:List (Int×Int)) {u u':List Bool},pI hi u evs=some u'-> ∀e∈evs,inR e.2 e.1 hi=true
 |[],_,_,_=>fun e he=>by cases he
 |(lo,x)::evs,u,u',h=>by
  simp only[pI]at h
  split at h
  ·rename_i hc;simp only[bVc]at hc;intro e he;rcases bWe.1 he with rfl|he
   ·exact hc.1
   ·exact aM1 evs h e he
  ·cases h
theorem aYy : ∀(l:List aJ) (i:Nat) {n:aJ} {k:Int},n∈l->k∈n.kids-> ∃e∈iZ i l,e.2=k/\ 0<=e.1
 |[],_,_,_,h,_=>by cases h
 |m::l,i,n,k,h,hk=>by
  simp only[iZ,bV6,bV4];rcases bWe.1 h with rfl|h
  ·exact⟨_,.inl ⟨k,hk,rfl⟩,rfl,by simp only;omega⟩
  ·obtain⟨e,he,h1,h2⟩:=aYy l (i+1) h hk;exact⟨e,.inr he,h1,h2⟩
structure cF (p:aQ):Prop where
 nodes: ∀n∈p.nodes,eC p n=true
 kids: ∀n∈p.nodes,∀k∈n.kids,inR k 0 ((p.nodes.length:Int)-1)=true
 funs: ∀k∈p.funs,inR k 0 ((p.nodes.length:Int)-1)=true
 cons: ∀c∈p.cons,inR c.args 0 3=true
 main:inR p.main 0 ((p.funs.length:Int)-1)=true
theorem aVf {p:aQ}(h:fU p=true):cF p:=by
 simp only[fU,bVc,bYb]at h;obtain⟨⟨⟨⟨_,_⟩,hm⟩,hc⟩,h⟩:=h;simp only[aJe,rW]at h
 by_cases hn:p.nodes.all (eC p)=true
 ·simp only[hn,if_true]at h;rw[<-pX]at h;have hs: ∃u',pI (↑p.nodes.length-1) (List.replicate p.nodes.length false) (List.map (fun x=>((0:Int),x)) p.funs++iZ 0 p.nodes)=some u':=by
   cases he:pI (↑p.nodes.length-1) (List.replicate p.nodes.length false) (List.map (fun x=>((0:Int),x)) p.funs++iZ 0 p.nodes)with
   |some u=>exact⟨u,rfl⟩
   |none=>rw[he]at h;cases h
  obtain⟨u',hu⟩:=hs;have hin:=aM1 _ hu
  refine⟨bVo.1 hn,fun n hn k hk=>?_,fun k hk=>?_,fun c hc'=>?_,hm⟩
  ·obtain⟨e,he,h1,h2⟩:=aYy p.nodes 0 hn hk;have:=hin e (bW1 _ he);rw[h1]at this;simp only[inR,bYb]at this⊢;omega
  ·exact hin (0,k) (bW6 _ (bV4.2 ⟨k,hk,rfl⟩))
  ·simp only[tW,bVc]at hc;have:=bVo.1 hc.1.1 c hc';simp only[rS,bVc]at this;exact this.2
 ·simp only[hn,if_false,bVd]at h;cases he:pI (↑p.nodes.length-1) (List.replicate p.nodes.length false) (List.map (fun x=>((0:Int),x)) p.funs)with
  |none=>rw[he]at h;cases h
  |some u=>rw[he]at h;cases h
theorem bV {p:aQ}{i:Int}(h:inR i 0 ((p.nodes.length:Int)-1)=true):p.node i∈p.nodes:=by
 simp only[inR,bYb]at h;have hj:i.toNat<p.nodes.length:=by omega
 simp only[aQ.node,bVm,bWo hj,bV0];exact bVp hj
theorem lB {α:Type}{l:List α}{i:Nat}{d:α}(h:i<l.length):l.getD i d∈l:=by
 simp only[bVm,bWo h,bV0];exact bVp h
def mS (o:aI):List aG:=o.vals++o.frames.flatMap fun f=>f.env++f.vals
theorem aM2 {p:aQ}{w w':aC}{v:aG}(h:w.objs.length<=w'.objs.length)(hv:cJ p w v=true):cJ p w' v=true:=by
 unfold cJ at hv⊢;split
 ·rename_i h1;rw[if_pos h1]at hv;exact hv
 rename_i h1;rw[if_neg h1]at hv;split
 ·rename_i h2;rw[if_pos h2]at hv;exact hv
 rename_i h2;rw[if_neg h2]at hv;split
 ·rename_i h3;rw[if_pos h3]at hv;exact hv
 rename_i h3;rw[if_neg h3]at hv;split
 ·rename_i h4;rw[if_pos h4]at hv;exact hv
 rename_i h4;rw[if_neg h4]at hv;split
 ·rename_i h5;rw[if_pos h5]at hv;simp only[inR,bYb]at hv⊢;omega
 ·rename_i h5;rw[if_neg h5]at hv;exact hv
theorem nH {p:aQ}{w w':aC}{l:List aG}{m:Int}(h:w.objs.length<=w'.objs.length)(hv:aR p w l m=true):aR p w' l m=true:=by
 simp only[aR,bVc,bVo]at hv⊢;exact⟨hv.1,fun v hm=>aM2 h (hv.2 v hm)⟩
theorem aM3 {p:aQ}{w w':aC}{f:aB}(h:w.objs.length<=w'.objs.length)(hv:bD p w f=true):bD p w' f=true:=by
 simp only[bD,bVc]at hv⊢;exact⟨⟨hv.1.1,nH h hv.1.2⟩,nH h hv.2⟩
theorem aH4 {p:aQ}{w w':aC}{l:List aB}(h:w.objs.length<=w'.objs.length)(hv:bJ p w l=true):bJ p w' l=true:=by
 simp only[bJ,bVc,bVo]at hv⊢;exact⟨hv.1,fun f hm=>aM3 h (hv.2 f hm)⟩
theorem wW {p:aQ}{w w':aC}{o:aI}(h:w.objs.length<=w'.objs.length)(hv:dG p w o=true):dG p w' o=true:=by
 unfold dG at hv⊢;split
 ·rename_i h0;rw[if_pos h0]at hv;unfold hH at hv⊢;split
  ·rename_i h1;rw[if_pos h1]at hv;simp only[bVc]at hv⊢;exact⟨⟨⟨aH4 h hv.1.1.1,nH h hv.1.1.2⟩,hv.1.2⟩,hv.2⟩
  rename_i h1;rw[if_neg h1]at hv;split
  ·rename_i h2;rw[if_pos h2]at hv;simp only[bVc]at hv⊢;exact⟨hv.1,nH h hv.2⟩
  ·rename_i h2;rw[if_neg h2]at hv;exact hv
 rename_i h0;rw[if_neg h0]at hv;split
 ·rename_i h1;rw[if_pos h1]at hv;simp only[bVc]at hv⊢;exact⟨⟨⟨hv.1.1.1,aH4 h hv.1.1.2⟩,hv.1.2⟩,hv.2⟩
 rename_i h1;rw[if_neg h1]at hv;split
 ·rename_i h2;rw[if_pos h2]at hv;exact hv
 rename_i h2;rw[if_neg h2]at hv;split
 ·rename_i h3;rw[if_pos h3]at hv;simp only[bVc]at hv⊢;exact⟨hv.1,nH h hv.2⟩
 rename_i h3;rw[if_neg h3]at hv;split
 ·rename_i h4;rw[if_pos h4]at hv;simp only[bVc]at hv⊢;exact⟨hv.1,nH h hv.2⟩
 rename_i h4;rw[if_neg h4]at hv;split
 ·rename_i h5;rw[if_pos h5]at hv;simp only[bVc]at hv⊢;exact⟨hv.1,nH h hv.2⟩
 rename_i h5;rw[if_neg h5]at hv;split
 ·rename_i h6;rw[if_pos h6]at hv;simp only[bVc]at hv⊢;exact⟨hv.1,nH h hv.2⟩
 ·rename_i h6;rw[if_neg h6]at hv;exact hv
theorem aCb {p:aQ}{w:aC}{o:aI}(hv:dG p w o=true):(∀v∈o.vals,cJ p w v=true)/\ bJ p w o.frames=true:=by
 have vs: ∀{l:List aG} {m:Int},aR p w l m=true-> ∀v∈l,cJ p w v=true:=fun h=>by
  simp only[aR,bVc,bVo]at h;exact h.2
 have none_: ∀{l:List aB},(l.length:Int)=0->bJ p w l=true:=fun h=>by
  have h:=List.eq_nil_of_length_eq_zero (Int.ofNat_eq_zero.1 h);subst h;simp[bJ]
 have nov: ∀{l:List aG},(l.length:Int)=0-> ∀v∈l,cJ p w v=true:=fun h=>by
  have h:=List.eq_nil_of_length_eq_zero (Int.ofNat_eq_zero.1 h);subst h;simp
 unfold dG at hv
 split at hv
 ·unfold hH at hv
  split at hv
  ·simp only[bVc]at hv;exact⟨vs hv.1.1.2,hv.1.1.1⟩
  split at hv
  ·simp only[bVc,bYb]at hv;exact⟨vs hv.2,none_ hv.1.1⟩
  split at hv
  ·simp only[bVc,bYb]at hv;exact⟨nov hv.2,none_ hv.1⟩
  ·cases hv
 split at hv
 ·simp only[bVc,bYb]at hv;exact⟨nov hv.1.1.1.1.2,hv.1.1.2⟩
 split at hv
 ·cases hv
 rename_i hz;have hz:=none_ (Decidable.not_not.1 hz)
 split at hv
 ·simp only[bVc]at hv;exact⟨vs hv.2,hz⟩
 split at hv
 ·simp only[bVc]at hv;exact⟨vs hv.2,hz⟩
 split at hv
 ·simp only[bVc]at hv;exact⟨vs hv.2,hz⟩
 split at hv
 ·simp only[bVc]at hv;exact⟨vs hv.2,hz⟩
 ·cases hv
theorem lC {w w':aC}(hl:w.objs.length<=w'.objs.length)(hk: ∀k,inR k 0 ((w.objs.length:Int)-1)=true->bH (w'.obj k)=bH (w.obj k)): ∀(l met:List Int),aZ w met l=true->aZ w' met l=true
 |[],_,_=>rfl
 |k::l,met,h=>by
  simp only[aZ,bVc]at h⊢;obtain⟨⟨⟨h1,h2⟩,h3⟩,h4⟩:=h
  refine⟨⟨⟨?_,by rw[hk k h1];exact h2⟩,h3⟩,lC hl hk l _ h4⟩
  simp only[inR,bYb]at h1⊢;omega
theorem aA5 {w:aC}{k:Int}(h1:inR k 0 ((w.objs.length:Int)-1)=true)(h2:bH (w.obj k)=true): ∀(l met:List Int),aZ w met l=true->k∉met->k∉l->aZ w met (l++[k])=true
 |[],met,_,hm,_=>by
  simp only[bWv,aZ,h1,h2,bW7,bVy,bWh,<-bWi,bXk,bYb]
  rintro⟨x,hx,rfl⟩
  exact hm hx
 |x::l,met,h,hm,hl=>by
  simp only[bXe,aZ,bVc]at h⊢
  refine⟨h.1,aA5 h1 h2 l _ h.2 (fun hc=>?_) (fun hc=>hl (bX7 _ hc))⟩
  rcases bV6.1 hc with hc|hc
  ·exact hm hc
  ·simp only[bWk]at hc;exact hl (by rw[hc];simp)
theorem wX {w:aC}: ∀(l met:List Int),aZ w met l=true-> ∀k∈l,inR k 0 ((w.objs.length:Int)-1)=true/\ bH (w.obj k)=true
 |[],_,_=>fun k hk=>by cases hk
 |x::l,met,h=>by
  simp only[aZ,bVc]at h;intro k hk;rcases bWe.1 hk with rfl|hk
  ·exact⟨h.1.1.1,h.1.1.2⟩
  ·exact wX l _ h.2 k hk
structure bQ (p:aQ) (w0:aC) (S:Nat->Prop) (w:aC):Prop where
 ok:fY p w=true
 le:w0.objs.length<=w.objs.length
 form: ∀i:Nat,i<w0.objs.length->(w.obj i).form=(w0.obj i).form
 pre:w0.tasks<+:w.tasks
 shut: ∀i:Nat,i<w.objs.length->S i-> ∀v∈mS (w.obj i),v.kind=5->S v.n.toNat
 ts: ∀t∈w.tasks,S t.toNat
 new: ∀i,w0.objs.length<=i->S i
structure VOk (p:aQ) (S:Nat->Prop) (w:aC) (v:aG):Prop where
 ok:cJ p w v=true
 ref:v.kind=5->S v.n.toNat
structure OOk (p:aQ) (S:Nat->Prop) (w:aC) (o:aI):Prop where
 ok:dG p w o=true
 ref: ∀v∈mS o,v.kind=5->S v.n.toNat
structure FOk (p:aQ) (S:Nat->Prop) (w:aC) (f:aB):Prop where
 ok:bD p w f=true
 ref: ∀v∈f.env++f.vals,v.kind=5->S v.n.toNat
variable {p :aQ}{w0 w w':aC}{S:Nat->Prop}
theorem VOk.le {v:aG}(h:VOk p S w v)(hl:w.objs.length<=w'.objs.length):VOk p S w' v:=⟨aM2 hl h.ok,h.ref⟩
theorem OOk.le {o:aI}(h:OOk p S w o)(hl:w.objs.length<=w'.objs.length):OOk p S w' o:=⟨wW hl h.ok,h.ref⟩
theorem FOk.le {f:aB}(h:FOk p S w f)(hl:w.objs.length<=w'.objs.length):FOk p S w' f:=⟨aM3 hl h.ok,h.ref⟩
theorem FOk.env {f:aB}(h:FOk p S w f){v:aG}(hv:v∈f.env):VOk p S w v:=by
 have:=h.ok;simp only[bD,aR,bVc,bVo]at this;exact⟨this.1.2.2 v hv,h.ref v (bW6 _ hv)⟩
theorem FOk.vals {f:aB}(h:FOk p S w f){v:aG}(hv:v∈f.vals):VOk p S w v:=by
 have:=h.ok;simp only[bD,aR,bVc,bVo]at this;exact⟨this.2.2 v hv,h.ref v (bW1 _ hv)⟩
theorem OOk.vals {o:aI}(h:OOk p S w o){v:aG}(hv:v∈o.vals):VOk p S w v:=⟨(aCb h.ok).1 v hv,h.ref v (bW6 _ hv)⟩
theorem OOk.frames {o:aI}(h:OOk p S w o){f:aB}(hf:f∈o.frames):FOk p S w f:=by
 have:=(aCb h.ok).2;simp only[bJ,bVc,bVo]at this;exact⟨this.2 f hf,fun v hv=>h.ref v (bW1 _ (bWt.2 ⟨f,hf,hv⟩))⟩
theorem eN {p:aQ}{w:aC}:fY p w=true↔w.objs.length<=120/\ w.outs.length<=100/\ lV w.ins 50=true/\ inR w.used 0 1000000000=true/\ iJ w=true/\ (∀o∈w.objs,dG p w o=true)/\ ∀o∈w.outs,rQ o=true:=by
 simp only[fY,bVc,bYb,bVo,and_assoc];constructor
 ·rintro⟨a,b,c⟩;exact⟨by omega,by omega,c⟩
 ·rintro⟨a,b,c⟩;exact⟨by omega,by omega,c⟩
theorem bBp {w:aC}{i:Int}(h:inR i 0 ((w.objs.length:Int)-1)=true):w.obj i∈w.objs:=by
 simp only[inR,bYb]at h;exact lB (by omega)
theorem bQ.obj (h:bQ p w0 S w){i:Int}(hi:inR i 0 ((w.objs.length:Int)-1)=true)(hs:S i.toNat):OOk p S w (w.obj i):=by
 have hi':=hi;simp only[inR,bYb]at hi'
 refine⟨(eN.1 h.ok).2.2.2.2.2.1 _ (bBp hi),fun v hv=>?_⟩
 have e:w.obj i=w.obj (i.toNat:Nat):=by rw[bXr hi'.1]
 rw[e]at hv;exact h.shut _ (by omega) hs v hv
theorem bQ.ref (h:bQ p w0 S w){v:aG}(hv:VOk p S w v)(h5:v.kind=5):inR v.n 0 ((w.objs.length:Int)-1)=true/\ OOk p S w (w.obj v.n):=by
 have h1:=hv.ok;simp only[cJ,h5]at h1;have h1:inR v.n 0 ((w.objs.length:Int)-1)=true:=by simpa using h1
 exact⟨h1,h.obj h1 (hv.ref h5)⟩
theorem bQ.task (h:bQ p w0 S w){a:Int}(ha:inR a 0 ((w.tasks.length:Int)-1)=true):inR (iT w a) 0 ((w.objs.length:Int)-1)=true/\ (w.obj (iT w a)).form=6/\ S (iT w a).toNat:=by
 simp only[inR,bYb]at ha;have hm:iT w a∈w.tasks:=lB (by omega)
 have ht:=(eN.1 h.ok).2.2.2.2.1;simp only[iJ,bVc]at ht;obtain⟨h1,h2⟩:=wX _ _ ht.2 _ hm;exact⟨h1,of_decide_eq_true h2,h.ts _ hm⟩
theorem aJ1 {i:Int}{o:aI}{j:Nat}(hi:inR i 0 ((w.objs.length:Int)-1)=true):(fZ w i o).obj j=if(i.toNat=j)then o else w.obj j:=by
 simp only[inR,bYb]at hi;simp only[aC.obj,fZ,bVm,bV3,bXm]
 by_cases h:i.toNat=j
 ·subst h;simp only[if_true];rw[if_pos (by omega)];rfl
 ·simp[h]
theorem oC {i:Int}{o:aI}:(fZ w i o).objs.length=w.objs.length:=by simp[fZ]
theorem aVg {l:List aI}{i:Nat}{o:aI}(hi:i<l.length)(h:bH o=bH l[i]):(l.set i o).countP bH=l.countP bH:=by
 rw[List.countP_set hi,h];have:bH l[i]=true->0<l.countP bH:=fun h=>List.countP_pos_iff.2 ⟨_,bVp hi,h⟩
 split
 ·rename_i h1;have:=this h1;omega
 ·omega
theorem aTh {w:aC}{i:Nat}(h:i<w.objs.length):w.obj i=w.objs[i]:=by
 simp only[aC.obj,bV3,bVm,bWo h,bV0]
theorem bQ.set (h:bQ p w0 S w){i:Int}{o:aI}(hi:inR i 0 ((w.objs.length:Int)-1)=true)(ho:OOk p S w o)(hf:o.form=(w.obj i).form):bQ p w0 S (fZ w i o):=by
 have hi':=hi;simp only[inR,bYb]at hi';have hit:i.toNat<w.objs.length:=by omega
 have e:w.obj i=w.objs[i.toNat]:=by rw[<-aTh hit,bXr hi'.1]
 have hk:bH o=bH w.objs[i.toNat]:=by simp only[bH,hf,e]
 obtain⟨a1,a2,a3,a4,a5,a6,a7⟩:=eN.1 h.ok;have hle:w.objs.length<=(fZ w i o).objs.length:=by rw[oC];exact bVe _
 refine⟨eN.2 ⟨by rw[oC];exact a1,a2,a3,a4,?_,fun x hx=>?_,a7⟩,by rw[oC];exact h.le,fun j hj=>?_,h.pre,fun j hj hs v hv=>?_,h.ts,h.new⟩
 ·simp only[iJ,bVc,bYb]at a5⊢
  refine⟨?_,lC hle (fun k hk'=>?_) _ _ a5.2⟩
  ·show w.tasks.length=(w.objs.set i.toNat o).countP bH;rw[aVg hit hk];exact a5.1
  ·simp only[inR,bYb]at hk';obtain⟨j,rfl⟩:=bWq hk'.1;rw[aJ1 hi];split
   ·rename_i hj;subst hj;rw[hk,aTh hit]
   ·rfl
 ·rcases bYa hx with hx|rfl
  ·exact wW hle (a6 x hx)
  ·exact wW hle ho.ok
 ·rw[aJ1 hi];split
  ·rename_i hj';subst hj';rw[hf,<-h.form _ hj,bXr hi'.1]
  ·exact h.form j hj
 ·rw[aJ1 hi]at hv;rw[oC]at hj
  split at hv
  ·exact ho.ref v hv
  ·exact h.shut j hj hs v hv
theorem kL {o:aI}:(gZ w o).objs.length=w.objs.length+1:=by simp[gZ]
theorem uO {o:aI}{j:Nat}(hj:j<w.objs.length+1):(gZ w o).obj j=if j=w.objs.length then o else w.obj j:=by
 simp only[aC.obj,gZ,bV3,bVm];split
 ·rename_i h;subst h;simp
 ·rename_i h;rw[bX8 (by omega)]
theorem bQ.add (h:bQ p w0 S w){o:aI}(hl:w.objs.length<120)(ho:OOk p S w o)(hf: ¬o.form=6):bQ p w0 S (gZ w o):=by
 obtain⟨a1,a2,a3,a4,a5,a6,a7⟩:=eN.1 h.ok;have hle:w.objs.length<=(gZ w o).objs.length:=by rw[kL];omega
 have hk:bH o=false:=decide_eq_false hf;have hl0:=h.le
 refine⟨eN.2 ⟨by rw[kL];omega,a2,a3,a4,?_,fun x hx=>?_,a7⟩,by rw[kL];omega,fun j hj=>?_,h.pre,fun j hj hs v hv=>?_,h.ts,h.new⟩
 ·simp only[iJ,bVc,bYb]at a5⊢
  refine⟨?_,lC hle (fun k hk'=>?_) _ _ a5.2⟩
  ·show w.tasks.length=(w.objs++[o]).countP bH;rw[List.countP_append];simp[hk,a5.1]
  ·simp only[inR,bYb]at hk';obtain⟨j,rfl⟩:=bWq hk'.1;rw[uO (by omega),if_neg (by omega)]
 ·rcases bV6.1 hx with hx|hx
  ·exact wW hle (a6 x hx)
  ·simp only[bWk]at hx;subst hx;exact wW hle ho.ok
 ·rw[uO (by omega),if_neg (by omega)];exact h.form j hj
 ·rw[kL]at hj;rw[uO hj]at hv
  split at hv
  ·exact ho.ref v hv
  ·exact h.shut j (by omega) hs v hv
theorem bQ.born (h:bQ p w0 S w){o:aI}(hl:w.objs.length<120)(ho:OOk p S w o)(hf:o.form=6):bQ p w0 S (yA (gZ w o)):=by
 obtain⟨a1,a2,a3,a4,a5,a6,a7⟩:=eN.1 h.ok;have hlen:(yA (gZ w o)).objs.length=w.objs.length+1:=kL;have hle:w.objs.length<=(yA (gZ w o)).objs.length:=by rw[hlen];omega
 have hk:bH o=true:=decide_eq_true hf;have hl0:=h.le;have hT:(yA (gZ w o)).tasks=w.tasks++[(w.objs.length:Int)]:=by
  show w.tasks++[((gZ w o).objs.length:Int)-1]=_;rw[kL];congr 2;omega
 have hO: ∀j:Int,(yA (gZ w o)).obj j=(gZ w o).obj j:=fun j=>rfl
 refine⟨eN.2 ⟨by rw[hlen];omega,a2,a3,a4,?_,fun x hx=>?_,a7⟩,by rw[hlen];omega,fun j hj=>?_,?_,fun j hj hs v hv=>?_,fun t ht=>?_,h.new⟩
 ·simp only[iJ,bVc,bYb]at a5⊢;rw[hT]
  refine⟨?_,aA5 ?_ ?_ _ _ (lC hle (fun k hk'=>?_) _ _ a5.2) (by simp) (fun hc=>?_)⟩
  ·show(w.tasks++[_]).length=(w.objs++[o]).countP bH;rw[List.countP_append];simp[hk,a5.1]
  ·rw[hlen];simp only[inR,bYb];omega
  ·rw[hO,uO (by omega),if_pos rfl];exact hk
  ·simp only[inR,bYb]at hk';obtain⟨j,rfl⟩:=bWq hk'.1;rw[hO,uO (by omega),if_neg (by omega)]
  ·have:=(wX _ _ a5.2 _ hc).1;simp only[inR,bYb]at this;omega
 ·rcases bV6.1 hx with hx|hx
  ·exact wW hle (a6 x hx)
  ·simp only[bWk]at hx;subst hx;exact wW hle ho.ok
 ·rw[hO,uO (by omega),if_neg (by omega)];exact h.form j hj
 ·rw[hT];exact h.pre.trans (List.prefix_append _ _)
 ·rw[hlen]at hj;rw[hO,uO hj]at hv
  split at hv
  ·exact ho.ref v hv
  ·exact h.shut j (by omega) hs v hv
 ·rw[hT]at ht;rcases bV6.1 ht with ht|ht
  ·exact h.ts t ht
  ·simp only[bWk]at ht;subst ht;exact h.new _ (by simp only[bV3];omega)
variable {p :aQ}{w0 w w':aC}{S:Nat->Prop}{a:Int}{left:List aB}
structure LOk (p:aQ) (S:Nat->Prop) (w:aC) (l:List aB):Prop where
 len:l.length<=40
 ok: ∀f∈l,FOk p S w f
 opn: ∀f∈l,cN p f=true
theorem LOk.le {l:List aB}(h:LOk p S w l)(hl:w.objs.length<=w'.objs.length):LOk p S w' l:=⟨h.len,fun f hf=>(h.ok f hf).le hl,h.opn⟩
theorem LOk.frames {l:List aB}(h:LOk p S w l):bJ p w l=true:=by
 simp only[bJ,bVc,bYb,bVo];exact⟨by have:=h.len;omega,fun f hf=>(h.ok f hf).ok⟩
theorem LOk.sub {l l':List aB}(h:LOk p S w l)(hs: ∀f∈l',f∈l)(hl:l'.length<=40):LOk p S w l':=⟨hl,fun f hf=>h.ok f (hs f hf),fun f hf=>h.opn f (hs f hf)⟩
theorem aJ2 {n:Int}(h:inR n (-1000000000) 1000000000=true):VOk p S w (tG n):=⟨by simp[cJ,tG,h],fun h=>by cases h⟩
theorem aF1 {b:Bool}:VOk p S w (rD b):=⟨by cases b<;>rfl,fun h=>by cases b<;>cases h⟩
theorem oD :VOk p S w eD:=⟨rfl,fun h=>by cases h⟩
theorem aJ3 (h:bQ p w0 S w){o:aI}:VOk p S (gZ w o) (nA w.objs.length):=by
 refine⟨?_,fun _=>h.new _ (by simp only[nA,bV3];exact h.le)⟩
 simp only[cJ,nA,inR,kL];simp
theorem aM4 {l:List aB}{v:aG}(hl:LOk p S w l)(hv:VOk p S w v):OOk p S w ⟨6,0,[v],l⟩:=by
 refine⟨?_,fun u hu=>?_⟩
 ·rw[dG,if_pos rfl,hH,if_pos rfl];simp only[bVc,bYb,bVo]
  refine⟨⟨⟨hl.frames,?_⟩,?_⟩,fun f hf=>?_⟩
  ·simp[aR,hv.ok]
  ·simp only[bVu,bWa];omega
  ·exact hl.opn f (bXp hf)
 ·simp only[mS,bXe,bWv,bWe,bWt]at hu;rcases hu with rfl|⟨f,hf,hu⟩
  ·exact hv.ref
  ·exact(hl.ok f hf).ref u hu
theorem aF2 {l:List aB}{f:aB}(hl:LOk p S w l)(hlen:l.length<40)(hf:FOk p S w f):OOk p S w ⟨6,0,[],l++[f]⟩:=by
 refine⟨?_,fun u hu=>?_⟩
 ·rw[dG,if_pos rfl,hH,if_pos rfl];simp only[bVc,bYb,bVo,bJ]
  refine⟨⟨⟨⟨?_,fun g hg=>?_⟩,rfl⟩,?_⟩,fun g hg=>?_⟩
  ·simp only[bV7,bVu,bWa];omega
  ·rcases bV6.1 hg with hg|hg
   ·exact(hl.ok g hg).ok
   ·simp only[bWk]at hg;subst hg;exact hf.ok
  ·simp only[bV7,bVu,bWa];omega
  ·rw[List.take_append_of_le_length (by simp)]at hg
   exact hl.opn g (bXp hg)
 ·simp only[mS,bWv,bWt]at hu;obtain⟨g,hg,hu⟩:=hu;rcases bV6.1 hg with hg|hg
  ·exact(hl.ok g hg).ref u hu
  ·simp only[bWk]at hg;subst hg;exact hf.ref u hu
theorem aYz {st:Int}(h:st=2 \/st=3 \/st=4):OOk p S w ⟨6,st,[],[]⟩:=by
 refine⟨?_,fun u hu=>by simp[mS]at hu⟩
 rcases h with rfl|rfl|rfl<;>rfl
theorem aY0 {v:aG}(hv:VOk p S w v):OOk p S w ⟨6,1,[v],[]⟩:=by
 refine⟨?_,fun u hu=>?_⟩
 ·simp[dG,hH,aR,hv.ok]
 ·simp only[mS,bXu,bWw,bWk]at hu;subst hu;exact hv.ref
theorem bBq (n:aJ):0<=n.asks:=by
 unfold aJ.asks;split
 ·decide
 split
 ·exact bX1 _
 split<;>decide
theorem aTi {node:Int}{env:List aG}(hn:inR node 0 ((p.nodes.length:Int)-1)=true)(he: ∀v∈env,VOk p S w v)(hl:env.length<=30):FOk p S w ⟨node,env,[]⟩:=by
 refine⟨?_,fun v hv=>?_⟩
 ·simp only[bD,aR,bVc,bYb,bVo,hn,true_and]
  refine⟨⟨by omega,fun v hv=>(he v hv).ok⟩,by simpa using bBq _,fun v hv=>by cases hv⟩
 ·simp only[bWw]at hv;exact(he v hv).ref
theorem cH (h:bQ p w0 S w)(ha:inR a 0 ((w.tasks.length:Int)-1)=true){st:Int}(hs:st=2 \/st=3 \/st=4):bQ p w0 S (bG w a st).w:=by
 obtain⟨h1,h2,_⟩:=h.task ha;exact h.set h1 (aYz hs) h2.symm
theorem dO (h:bQ p w0 S w)(ha:inR a 0 ((w.tasks.length:Int)-1)=true){v:aG}(hl:LOk p S w left)(hv:VOk p S w v):bQ p w0 S (bW w a left v).w:=by
 obtain⟨h1,h2,_⟩:=h.task ha;exact h.set h1 (aM4 hl hv) h2.symm
theorem qH (h:bQ p w0 S w)(ha:inR a 0 ((w.tasks.length:Int)-1)=true){node:Int}{env:List aG}(hl:LOk p S w left)(hn:inR node 0 ((p.nodes.length:Int)-1)=true)(he: ∀v∈env,VOk p S w v):
  bQ p w0 S (fB w a left node env).w:=by
 obtain⟨h1,h2,_⟩:=h.task ha;unfold fB;split
 ·exact cH h ha (by simp)
 ·exact h.set h1 (aF2 hl (by omega) (aTi hn he (by omega))) h2.symm
theorem xV (h:bQ p w0 S w)(ha:inR a 0 ((w.tasks.length:Int)-1)=true){o:aI}(hl:LOk p S w left)(ho:OOk p S w o)(hf: ¬o.form=6):bQ p w0 S (gP w a left o).w:=by
 unfold gP;split
 ·exact cH h ha (by simp)
 ·exact dO (h.add (by omega) ho hf) ha (hl.le (by rw[kL];omega)) (aJ3 h)
theorem oE {d:Did}{act n:Int}{v:aG}:(dC d a act n v).w=d.w:=by unfold dC;split<;>rfl
theorem aH5 (h:bQ p w0 S w)(ha:inR a 0 ((w.tasks.length:Int)-1)=true){o:aI}(hl:LOk p S w left)(ho:OOk p S w o)(hf:o.form=6):bQ p w0 S (yO w a left o).w:=by
 unfold yO;simp only[oE];unfold gP;split
 ·rw[if_pos (show(bG w a 4).what=1 from rfl)];exact cH h ha (by simp)
 ·rename_i hc;rw[if_neg (by simp[bW])]
  have hb:=h.born (by omega) ho hf
  have ha':inR a 0 (((yA (gZ w o)).tasks.length:Int)-1)=true:=by
   simp only[inR,bYb,yA,bV7,bVu,bWa]at ha⊢;have e:(gZ w o).tasks=w.tasks:=rfl;rw[e];omega
  have hT:iT (yA (gZ w o)) a=iT (gZ w o) a:=by
   simp only[inR,bYb]at ha;show(w.tasks++_).getD a.toNat 0=w.tasks.getD a.toNat 0;simp only[bVm];rw[bX8 (by omega)]
  have:=dO hb ha' (left:=left) (v:=nA w.objs.length) (hl.le (by show _<=(gZ w o).objs.length;rw[kL];omega)) ((aJ3 h (o:=o)).le (bVe _))
  have e:yA (bW (gZ w o) a left (nA w.objs.length)).w=(bW (yA (gZ w o)) a left (nA w.objs.length)).w:=by
   simp only[bW,hT];simp only[yA,fZ,bXt]
  show bQ p w0 S (yA (bW (gZ w o) a left (nA w.objs.length)).w);rw[e];exact this
theorem bQ.io (h:bQ p w0 S w){outs:List aO}{ins:List Int}{used:Int}(h1:outs.length<=100)(h2: ∀o∈outs,rQ o=true)(h3:lV ins 50=true)(h4:inR used 0 1000000000=true):bQ p w0 S ⟨w.objs,w.tasks,outs,ins,used⟩:=by
 obtain⟨a1,a2,a3,a4,a5,a6,a7⟩:=eN.1 h.ok
 refine⟨eN.2 ⟨a1,h1,h3,h4,?_,fun o ho=>wW (bVe _) (a6 o ho),h2⟩,h.le,h.form,h.pre,h.shut,h.ts,h.new⟩
 simp only[iJ,bVc]at a5⊢;exact⟨a5.1,lC (w:=w) (w':=⟨w.objs,w.tasks,outs,ins,used⟩) (bVe _) (fun _ _=>rfl) _ _ a5.2⟩
theorem bS {n:aJ}(h:eC p n=true):(n.kids.length:Int)=fR n.op n.pats.length (oP p n):=by
 simp only[eC,bVc,bYb]at h;exact h.2
theorem aH6 {n:aJ}(h:eC p n=true):n.asks<=n.kids.length:=by
 have:=bS h;unfold aJ.asks;unfold fR at this
 repeat' split at this
 all_goals (repeat' split)
 all_goals omega
theorem aPa (hp:cF p){i:Int}(hi:inR i 0 ((p.nodes.length:Int)-1)=true){k:Int}(h0:0<=k)(hk:k<(p.node i).kids.length):inR (uN (p.node i) k) 0 ((p.nodes.length:Int)-1)=true:=
 hp.kids _ (bV hi) _ (lB (by omega))
theorem jH (h:bQ p w0 S w){f:aG}{k:Int}(hv:VOk p S w f)(hi:kA w f k=true):inR f.n 0 ((w.objs.length:Int)-1)=true/\ OOk p S w (w.obj f.n)/\ (w.obj f.n).form=k/\ f.kind=5:=by
 simp only[kA,bVc,bYb]at hi;obtain⟨h1,h2⟩:=h.ref hv hi.1;exact⟨h1,h2,hi.2,hi.1⟩
theorem zQ (hp:cF p)(h:bQ p w0 S w){f v:aG}(hf:VOk p S w f)(hv:VOk p S w v){b:aB}(hb:oA p w f v=some b):
  inR b.node 0 ((p.nodes.length:Int)-1)=true/\ (∀u∈b.env,VOk p S w u)/\ b.vals=[]:=by
 unfold oA at hb
 split at hb
 ·rename_i h4;simp only[bVb]at hb;subst hb;have h1:=hf.ok;simp only[cJ,h4]at h1;have h1:inR f.n 0 ((p.funs.length:Int)-1)=true:=by simpa using h1
  simp only[inR,bYb]at h1;exact⟨hp.funs _ (lB (by omega)),fun u hu=>by simp only[bWk]at hu;subst hu;exact hv,rfl⟩
 ·split at hb
  ·rename_i h2;simp only[bVb]at hb;subst hb;obtain⟨a1,a2,a3,_⟩:=jH h hf h2;have hk:=a2.ok;simp only[dG,a3]at hk
   simp at hk
   obtain⟨_,⟨b1,b2⟩,_⟩:=hk
   refine⟨aPa hp b1 (by decide) ?_,fun u hu=>?_,rfl⟩
   ·rw[bS (hp.nodes _ (bV b1)),b2];simp[fR]
   ·rcases bV6.1 hu with hu|hu
    ·exact a2.vals hu
    ·simp only[bWk]at hu;subst hu;exact hv
  ·cases hb
theorem aCc {o:aI}(h:OOk p S w o)(h5:o.form=5):LOk p S w o.frames:=by
 have hk:=h.ok;simp only[dG,h5]at hk;simp[bJ]at hk;exact⟨by omega,fun f hf=>h.frames hf,hk.1.2⟩
theorem LOk.app {l m:List aB}(h:LOk p S w l)(k:LOk p S w m)(hl:(l++m).length<=40):LOk p S w (l++m):=
 ⟨hl,fun f hf=>(bV6.1 hf).elim (h.ok f) (k.ok f),fun f hf=>(bV6.1 hf).elim (h.opn f) (k.opn f)⟩
theorem aJ4 (hp:cF p)(h:bQ p w0 S w)(ha:inR a 0 ((w.tasks.length:Int)-1)=true)(hl:LOk p S w left){f v:aG}(hf:VOk p S w f)(hv:VOk p S w v):bQ p w0 S (eE p w a left f v).w:=by
 unfold eE;split
 ·rename_i h5;obtain⟨_,a2,a3,_⟩:=jH h hf h5;split
  ·exact cH h ha (by simp)
  ·exact dO h ha (hl.app (aCc a2 a3) (by omega)) hv
 ·split
  ·exact cH h ha (by simp)
  ·rename_i b hb;obtain⟨b1,b2,_⟩:=zQ hp h hf hv hb;exact qH h ha hl b1 b2
theorem aJ5 (h:bQ p w0 S w)(ha:inR a 0 ((w.tasks.length:Int)-1)=true)(hl:LOk p S w left){op:Int}{u v:aG}:bQ p w0 S (cD w a left op u v).w:=by
 unfold cD;split
 ·split
  ·exact cH h ha (by simp)
  ·exact dO h ha hl aF1
 split
 ·exact cH h ha (by simp)
 split
 ·exact dO h ha hl aF1
 split
 ·rename_i hr;exact dO h ha hl (aJ2 hr)
 ·exact cH h ha (by simp)
mutual
theorem aF3 (h:bQ p w0 S w): ∀(q:Pat) {v:aG} {l:List aG},VOk p S w v->jT w q v=some l-> ∀u∈l,VOk p S w u
 | .mk f n t ps,v,l,hv,hm=>by
  unfold jT at hm
  split at hm
  ·cases hm;intro u hu;cases hu
  split at hm
  ·cases hm;intro u hu;simp only[bWk]at hu;subst hu;exact hv
  split at hm
  ·split at hm
   ·cases hm;intro u hu;cases hu
   ·cases hm
  split at hm
  ·split at hm
   ·cases hm;intro u hu;cases hu
   ·cases hm
  split at hm
  ·split at hm
   ·cases hm;intro u hu;cases hu
   ·cases hm
  split at hm
  ·rename_i hc;obtain⟨_,a2,_,_⟩:=jH h hv hc.1;exact aDe h ps (fun u hu=>a2.vals hu) hm
  ·cases hm
theorem aDe (h:bQ p w0 S w): ∀(ps:List Pat) {vs l:List aG},(∀v∈vs,VOk p S w v)->fQ w ps vs=some l-> ∀u∈l,VOk p S w u
 |[],vs,l,hv,hm=>by
  simp only[fQ,bVb]at hm;subst hm;intro u hu;cases hu
 |q::ps,[],l,hv,hm=>by
  simp only[fQ,bVb]at hm;subst hm;intro u hu;cases hu
 |q::ps,v::vs,l,hv,hm=>by
  simp only[fQ]at hm
  split at hm
  ·cases hm
  rename_i l1 h1
  split at hm
  ·cases hm
  rename_i l2 h2;simp only[bVb]at hm;subst hm;intro u hu;rcases bV6.1 hu with hu|hu
  ·exact aF3 h q (hv v (by simp)) h1 u hu
  ·exact aDe h ps (fun u hu=>hv u (by simp[hu])) h2 u hu
end
theorem aA6 (h:bQ p w0 S w)(ha:inR a 0 ((w.tasks.length:Int)-1)=true)(hl:LOk p S w left){kids:List Int}(hk: ∀k∈kids,inR k 0 ((p.nodes.length:Int)-1)=true){env:List aG}(he: ∀v∈env,VOk p S w v){u:aG}(hu:VOk p S w u):
  ∀(l:List Pat) (i:Nat),1+i+l.length<=kids.length->bQ p w0 S (lM w a left kids env u i l).w
 |[],i,_=>cH h ha (by simp)
 |q::qs,i,hi=>by
  unfold lM;simp only[bVu]at hi;split
  ·rename_i l hm
   refine qH h ha hl (hk _ (lB (by omega))) fun v hv=>?_
   rcases bV6.1 hv with hv|hv
   ·exact he v hv
   ·exact aF3 h q hu hm v hv
  ·exact aA6 h ha hl hk he hu qs (i+1) (by omega)
theorem aM5 {left:List aB}: ∀{m k:Nat},qA p left m=k+1->k<m/\ (p.node (left.getD k default).node).op=26
 |0,k,h=>by simp[qA]at h
 |m+1,k,h=>by
  unfold qA at h
  split at h
  ·rename_i hc;have:m=k:=by omega
   subst this;exact⟨by omega,hc⟩
  ·obtain⟨a,b⟩:=aM5 h;exact⟨by omega,b⟩
theorem aY1 {l:List aB}(h:LOk p S w l)(h0:0<l.length)(hr:(p.node (l.headD default).node).op=26):OOk p S w ⟨5,0,[],l⟩:=by
 refine⟨?_,fun u hu=>?_⟩
 ·rw[dG,if_neg (by simp),if_pos rfl]
  simp only[bVc,bYb,bVo];exact⟨⟨⟨⟨⟨by simp,by simp⟩,by omega⟩,h.frames⟩,h.opn⟩,hr⟩
 ·simp only[mS,bWv,bWt]at hu;obtain⟨f,hf,hu⟩:=hu;exact(h.ok f hf).ref u hu
theorem aVh {node:Int}{env:List aG}:(fB w a left node env).what=1->(fB w a left node env).e.n=4:=by
 unfold fB;split
 ·intro _;rfl
 ·intro h;cases h
theorem aJ6 (h:bQ p w0 S w)(ha:inR a 0 ((w.tasks.length:Int)-1)=true)(hl:LOk p S w left){kid:Int}(hk:inR kid 0 ((p.nodes.length:Int)-1)=true){env:List aG}(he: ∀v∈env,VOk p S w v):bQ p w0 S (eF p w a left kid env).w:=by
 unfold eF;split
 ·exact cH h ha (by simp)
 ·rename_i k hr;obtain⟨hkl,hop⟩:=aM5 hr;split
  ·exact cH h ha (by simp)
  ·rename_i hc
   simp only
   split
   ·rename_i hw;rw[aVh hw];exact cH h ha (by simp)
   ·have hld:=hl.len;have hd:LOk p S w (left.drop k):=hl.sub (fun f hf=>List.mem_of_mem_drop hf) (by simp only[bXf];omega)
    have hh:(p.node ((left.drop k).headD default).node).op=26:=by
     rw[bVm]at hop;rw[List.headD_eq_head?_getD,List.head?_drop];exact hop
    have hF:=h.add (o:=⟨5,0,[],left.drop k⟩) (by omega) (aY1 hd (by simp only[bXf];omega) hh) (by simp)
    have hle:w.objs.length<=(gZ w ⟨5,0,[],left.drop k⟩).objs.length:=by rw[kL];omega
    refine qH hF ha ((hl.sub (fun f hf=>bXp hf) (by simp only[bXc];omega)).le hle) hk fun v hv=>?_
    rcases bV6.1 hv with hv|hv
    ·exact(he v hv).le hle
    ·simp only[bWk]at hv;subst hv;exact aJ3 h
theorem aJ7 (hp:cF p)(h:bQ p w0 S w)(ha:inR a 0 ((w.tasks.length:Int)-1)=true)(hl:LOk p S w left){f:aG}(hf:VOk p S w f):bQ p w0 S (dR p w a left f).w:=by
 unfold dR;split
 ·rename_i h5;obtain⟨_,a2,a3,_⟩:=jH h hf h5;exact aH5 h ha hl (aM4 (aCc a2 a3) oD) rfl
 ·split
  ·exact cH h ha (by simp)
  ·rename_i b hb;obtain⟨b1,b2,b3⟩:=zQ hp h hf oD hb;split
   ·exact cH h ha (by simp)
   ·have e:b=⟨b.node,b.env,[]⟩:=by rw[<-b3]
    have h0:LOk p S w []:=⟨by simp,by simp,by simp⟩
    have:=aF2 h0 (by simp) (aTi b1 b2 (by omega))
    rw[<-e]at this;exact aH5 h ha hl this rfl
theorem cK {l:List aG}{i:Nat}(h:i<l.length):aW l i∈l:=lB h
theorem aM6 {v:aG}(hv:VOk p S w v):OOk p S w ⟨3,0,[v],[]⟩:=by
 refine⟨?_,fun u hu=>?_⟩
 ·simp[dG,aR,hv.ok]
 ·simp only[mS,bXu,bWw,bWk]at hu;subst hu;exact hv.ref
theorem aF4 {l:List aG}(hl:l.length<=4)(hv: ∀v∈l,VOk p S w v):OOk p S w ⟨4,0,l,[]⟩:=by
 refine⟨?_,fun u hu=>?_⟩
 ·simp only[dG,aR,bVc,bVo];simp;exact⟨by omega,fun v h=>(hv v h).ok⟩
 ·simp only[mS,bXu,bWw]at hu;exact(hv u hu).ref
theorem aM7 (h:bQ p w0 S w)(ha:inR a 0 ((w.tasks.length:Int)-1)=true)(hl:LOk p S w left){op:Int}{l:List aG}(hv: ∀v∈l,VOk p S w v)(h0:0<l.length)(h1: ¬op=16-> ¬op=17->1<l.length):bQ p w0 S (eG w a left op l).w:=by
 unfold eG;have hv0:=hv _ (cK h0);split
 ·rw[oE];exact xV h ha hl (aM6 hv0) (by simp)
 rename_i n16;split
 ·rename_i h3;obtain⟨a1,a2,a3,_⟩:=jH h hv0 h3;split
  ·rw[oE];have hk:=a2.ok;simp only[dG,a3]at hk
   simp at hk
   exact dO h ha hl (a2.vals (cK (by omega)))
  ·rename_i n17;rw[oE];have hF:=h.set a1 (aM6 (hv _ (cK (h1 n16 n17)))) a3.symm;exact dO hF ha (hl.le (by rw[oC];exact bVe _)) oD
 ·exact cH h ha (by simp)
theorem aF5 (h:bQ p w0 S w)(ha:inR a 0 ((w.tasks.length:Int)-1)=true)(hl:LOk p S w left){op:Int}{l:List aG}(hv: ∀v∈l,VOk p S w v)(h0:0<l.length)(h1:op=22->1<l.length):bQ p w0 S (bZ w a left op l).w:=by
 unfold bZ;have hv0:=hv _ (cK h0);split
 ·rename_i h3;obtain⟨a1,a2,a3,_⟩:=jH h hv0 h3;have hk:=a2.ok;simp only[dG,a3]at hk;simp[aR]at hk;split
  ·rename_i h22;split
   ·exact h
   ·rw[oE];have hF:=h.set a1 (aF4 (l:=(w.obj (aW l 0).n).vals++[aW l 1]) (by simp only[bV7,bVu,bWa];omega) fun v hv'=>by
     rcases bV6.1 hv' with hv'|hv'
     ·exact a2.vals hv'
     ·simp only[bWk]at hv';subst hv';exact hv _ (cK (h1 h22))) a3.symm
    exact dO hF ha (hl.le (by rw[oC];exact bVe _)) oD
  ·split
   ·exact h
   ·rename_i hne;rw[oE];have hF:=h.set a1 (aF4 (l:=(w.obj (aW l 0).n).vals.drop 1) (by simp only[bXf];omega) fun v hv'=>a2.vals (List.mem_of_mem_drop hv')) a3.symm
    exact dO hF ha (hl.le (by rw[oC];exact bVe _)) ((a2.vals (cK (by omega))).le (by rw[oC];exact bVe _))
 ·exact cH h ha (by simp)
theorem aM8 (h:bQ p w0 S w)(ha:inR a 0 ((w.tasks.length:Int)-1)=true)(hl:LOk p S w left){v:aG}(hv:VOk p S w v):bQ p w0 S (eL w a left v).w:=by
 unfold eL;split
 ·rename_i h6;obtain⟨a1,a2,a3,_⟩:=jH h hv h6;have hk:=a2.ok;rw[dG,if_pos a3,hH]at hk;split
  ·exact h
  rename_i n0;rw[if_neg n0]at hk;split
  ·rename_i n1;rw[if_neg n1]at hk
   split at hk
   ·rename_i hst;exact cH h ha hst
   ·cases hk
  ·rename_i n1;rw[if_pos (Decidable.not_not.1 n1)]at hk;simp only[bVc,bYb]at hk;rw[oE];exact dO h ha hl (a2.vals (cK (by omega)))
 ·exact cH h ha (by simp)
theorem aJ8 (h:bQ p w0 S w)(ha:inR a 0 ((w.tasks.length:Int)-1)=true)(hl:LOk p S w left){op port:Int}{l:List aG}(hv: ¬op=25->0<l.length/\ inR port 0 3=true)(hv': ∀v∈l,VOk p S w v):bQ p w0 S (cR w a left op port l).w:=by
 obtain⟨a1,a2,a3,a4,a5,a6,a7⟩:=eN.1 h.ok;unfold cR;split
 ·split
  ·exact h
  ·rename_i x xs hi;split
   ·exact cH h ha (by simp)
   ·rename_i hu;rw[oE];simp only[lV,hi,bVu,bVf,bVc,bYb]at a3;simp only[inR,bYb]at a4;have hF:=h.io (outs:=w.outs) (ins:=xs) (used:=w.used+1) a2 a7 (by simp only[lV,bVc,bYb];exact⟨by omega,a3.2.2⟩) (by simp only[inR,bYb];omega)
    exact dO hF ha (hl.le (bVe _)) (aJ2 a3.2.1)
 ·rename_i hop;obtain⟨h0,hport⟩:=hv hop;split
  ·exact cH h ha (by simp)
  ·rename_i hk;split
   ·exact cH h ha (by simp)
   ·rw[oE];have h1:=(hv' _ (cK h0)).ok;rw[cJ,if_pos (Decidable.not_not.1 hk)]at h1;have hF:=h.io (outs:=w.outs++[⟨port,(aW l 0).n⟩]) (ins:=w.ins) (used:=w.used) (by simp only[bV7,bVu,bWa];omega) (fun o ho=>by
     rcases bV6.1 ho with ho|ho
     ·exact a7 o ho
     ·simp only[bWk]at ho;subst ho;simp only[rQ,hport,h1,Bool.and_self]) a3 a4
    exact dO hF ha (hl.le (bVe _)) oD
theorem aVi (hp:cF p)(h:bQ p w0 S w)(ha:inR a 0 ((w.tasks.length:Int)-1)=true)(hl:LOk p S w left){f:aB}(hf:FOk p S w f)(hfull:(f.vals.length:Int)=(p.node f.node).asks):bQ p w0 S (rE p w a left f).w:=by
 have hni:inR f.node 0 ((p.nodes.length:Int)-1)=true:=by
  have:=hf.ok;simp only[bD,bVc]at this;exact this.1.1
 have hok:=hp.nodes _ (bV hni);have hkd:=bS hok;have hnum:nE p (p.node f.node)=true:=by simp only[eC,bVc]at hok;exact hok.1.1.1
 have hv: ∀v∈f.vals,VOk p S w v:=fun v hv=>hf.vals hv
 unfold rE;generalize hn:p.node f.node=n at*;have ik: ∀k:Int,0<=k->k<n.kids.length->inR (uN n k) 0 ((p.nodes.length:Int)-1)=true:=fun k h1 h2=>by
  rw[<-hn]at h2⊢;exact aPa hp hni h1 h2
 unfold aD
 by_cases e:n.op=1
 ·rw[if_pos e];rw[nE,if_pos e]at hnum;exact dO h ha hl (aJ2 hnum)
 rw[if_neg e]
 by_cases e:n.op=2
 ·rw[if_pos e];exact dO h ha hl aF1
 rw[if_neg e]
 by_cases e:n.op=3
 ·rw[if_pos e];exact dO h ha hl oD
 rw[if_neg e]
 by_cases e:n.op=4
 ·rw[if_pos e];simp only[nE,e]at hnum;simp[inR]at hnum;split
  ·refine dO h ha hl ⟨?_,fun h=>by cases h⟩
   simp only[cJ,inR];simp;omega
  ·split
   ·exact cH h ha (by simp)
   ·exact dO h ha hl (hf.env (cK (by omega)))
 rw[if_neg e]
 by_cases e:n.op=5
 ·rw[if_pos e]
  refine xV h ha hl ⟨?_,fun u hu=>?_⟩ (by simp)
  ·have:=hf.ok;simp only[bD,bVc]at this;simp only[dG,hn,e,this.1.1,this.1.2];simp
  ·simp only[mS,bXu,bWw]at hu;exact(hf.env hu).ref
 rw[if_neg e]
 by_cases e:n.op=6
 ·rw[if_pos e];have:n.asks=2:=by simp[aJ.asks,e]
  exact aJ4 hp h ha hl (hv _ (cK (by omega))) (hv _ (cK (by omega)))
 rw[if_neg e]
 by_cases e:n.op=7
 ·rw[if_pos e];have h1:n.asks=1:=by simp[aJ.asks,e]
  refine qH h ha hl (ik 1 (by decide) ?_) fun v hv'=>?_
  ·rw[hkd];simp[fR,e]
  ·rcases bV6.1 hv' with hv'|hv'
   ·exact hf.env hv'
   ·simp only[bWk]at hv';subst hv';exact hv _ (cK (by omega))
 rw[if_neg e]
 by_cases e:n.op=8
 ·rw[if_pos e];have h1:n.asks=1:=by simp[aJ.asks,e]
  split
  ·exact cH h ha (by simp)
  ·rename_i hk;have h2:=(hv _ (cK (i:=0) (by omega))).ok
   simp only[cJ,Decidable.not_not.1 hk]at h2;simp[inR]at h2
   refine qH h ha hl (ik _ (by omega) ?_) fun v hv'=>hf.env hv'
   have:(n.kids.length:Int)=3:=by rw[hkd];simp[fR,e]
   omega
 rw[if_neg e]
 by_cases e:n.op=9 \/n.op=10 \/n.op=11 \/n.op=12 \/n.op=13
 ·rw[if_pos e];exact aJ5 h ha hl
 rw[if_neg e]
 by_cases e:n.op=14
 ·rw[if_pos e];have h1:n.asks=n.kids.length:=by simp[aJ.asks,e]
  simp only[nE,e]at hnum
  simp at hnum
  have h2:(n.kids.length:Int)=(p.cons.getD n.n.toNat default).args:=by rw[hkd];simp[fR,oP,e,hnum]
  have h3:inR (p.cons.getD n.n.toNat default).args 0 3=true:=hp.cons _ (lB (by simp only[inR,bYb]at hnum;omega))
  simp only[inR,bYb]at h3
  refine xV h ha hl ⟨?_,fun u hu=>?_⟩ (by simp)
  ·rw[dG,if_neg (by simp),if_neg (by simp),if_neg (by simp),if_pos rfl]
   simp only[bVc,bYb,aR,bVo];exact⟨⟨hnum,by omega⟩,by omega,fun v h'=>(hv v h').ok⟩
  ·simp only[mS,bXu,bWw]at hu;exact(hv u hu).ref
 rw[if_neg e]
 by_cases e:n.op=15
 ·rw[if_pos e];have h1:n.asks=1:=by simp[aJ.asks,e]
  have h2:(n.kids.length:Int)=1+n.pats.length:=by rw[hkd];simp[fR,e]
  refine aA6 h ha hl (fun k hk=>?_) (fun v hv'=>hf.env hv') (hv _ (cK (by omega))) n.pats 0 (by omega)
  rw[<-hn]at hk;exact hp.kids _ (bV hni) k hk
 rw[if_neg e]
 by_cases e:n.op=26
 ·rw[if_pos e];have h1:n.asks=1:=by simp[aJ.asks,e]
  exact dO h ha hl (hv _ (cK (by omega)))
 rw[if_neg e]
 by_cases e:n.op=27
 ·rw[if_pos e]
  refine aJ6 h ha hl (ik 0 (by decide) ?_) fun v hv'=>hf.env hv'
  rw[hkd];simp[fR,e]
 rw[if_neg e]
 by_cases e:n.op=16 \/n.op=17 \/n.op=18
 ·rw[if_pos e]
  refine aM7 h ha hl hv ?_ ?_
  ·have:1<=n.asks:=by rcases e with e|e|e<;>simp[aJ.asks,e]
   omega
  ·intro h1 h2;have e:n.op=18:=by omega
   have:n.asks=2:=by simp[aJ.asks,e]
   omega
 rw[if_neg e]
 by_cases e:n.op=19
 ·rw[if_pos e];have h1:n.asks=1:=by simp[aJ.asks,e]
  exact aJ7 hp h ha hl (hv _ (cK (by omega)))
 rw[if_neg e]
 by_cases e:n.op=20
 ·rw[if_pos e];have h1:n.asks=1:=by simp[aJ.asks,e]
  exact aM8 h ha hl (hv _ (cK (by omega)))
 rw[if_neg e]
 by_cases e:n.op=21
 ·rw[if_pos e];rw[oE];exact xV h ha hl (aF4 (by simp) (by simp)) (by decide)
 rw[if_neg e]
 by_cases e:n.op=22 \/n.op=23
 ·rw[if_pos e]
  refine aF5 h ha hl hv ?_ ?_
  ·have:1<=n.asks:=by rcases e with e|e<;>simp[aJ.asks,e]
   omega
  ·intro e;have:n.asks=2:=by simp[aJ.asks,e]
   omega
 rw[if_neg e]
 by_cases e:n.op=24 \/n.op=25
 ·rw[if_pos e]
  refine aJ8 h ha hl (fun h25=>?_) hv
  have e:n.op=24:=by omega
  have h1:n.asks=1:=by simp[aJ.asks,e]
  simp only[nE,e]at hnum
  simp at hnum
  exact⟨by omega,hnum⟩
 rw[if_neg e];rw[oE];exact dO h ha hl oD
theorem aDf {o:aI}(h0:0<o.frames.length):o.frames=o.frames.take (o.frames.length-1)++[o.frames.getD (o.frames.length-1) nZ]:=by
 have h:o.frames.length-1<o.frames.length:=by omega
 simp only[bVm,bWo h,bV0];rw[List.take_append_getElem h];rw[bVw (by omega)]
theorem tH (hp:cF p)(h:bQ p w0 S w)(ha:inR a 0 ((w.tasks.length:Int)-1)=true):bQ p w0 S (dV p w a).w:=by
 obtain⟨h1,h2,h3⟩:=h.task ha;have hO:=h.obj h1 h3;unfold dV
 simp only
 generalize ho:w.obj (iT w a)=o at hO h2⊢;have hk:=hO.ok;rw[dG,if_pos h2,hH]at hk;split
 ·exact h
 rename_i n0;rw[if_pos (Decidable.not_not.1 n0)]at hk;simp only[bJ,bVc,bYb,bVo,aR]at hk;obtain⟨⟨⟨⟨k1,k2⟩,k3,k4⟩,k5⟩,k6⟩:=hk;have hF: ∀f∈o.frames,FOk p S w f:=fun f hf=>hO.frames hf
 split
 ·rename_i hv1;have hv:VOk p S w (aW o.vals 0):=hO.vals (cK (by omega))
  split
  ·exact h.set h1 (aY0 hv) (by rw[ho,h2])
  ·rename_i hf0;rw[bVw (by omega)]at k6
   refine h.set h1 ?_ (by rw[ho,h2])
   have hm:o.frames.getD (o.frames.length-1) nZ∈o.frames:=lB (by omega)
   have hl:LOk p S w (o.frames.take (o.frames.length-1)):=⟨by simp only[bXc];omega,fun f hf=>hF f (bXp hf),fun f hf=>k6 f (bXp hf)⟩
   have e:aM0 o.frames (aW o.vals 0)=o.frames.take (o.frames.length-1)++[⟨(o.frames.getD (o.frames.length-1) nZ).node,(o.frames.getD (o.frames.length-1) nZ).env,(o.frames.getD (o.frames.length-1) nZ).vals++[aW o.vals 0]⟩]:=by
    unfold aM0;generalize hx:(⟨(o.frames.getD (o.frames.length-1) nZ).node,(o.frames.getD (o.frames.length-1) nZ).env,(o.frames.getD (o.frames.length-1) nZ).vals++[aW o.vals 0]⟩:aB)=x;have:=aDf (o:=o) (by omega)
    generalize o.frames.getD (o.frames.length-1) nZ=y at this;have hlen:(o.frames.take (o.frames.length-1)).length=o.frames.length-1:=by simp only[bXc];omega
    conv=>lhs;rw[this]
    rw[List.set_append_right _ _ (by simp only[bV7,bVu,bWa,hlen];omega)]
    simp only[bV7,bVu,bWa,hlen];simp
   rw[e]
   refine aF2 hl (by simp only[bXc];omega) ⟨?_,fun v hv'=>?_⟩
   ·have a1:=(hF _ hm).ok;have a2:=k6 _ hm;simp only[cN,bYb]at a2;simp only[bD,aR,bVc,bYb,bVo]at a1⊢
    refine⟨a1.1,by simp only[bV7,bVu,bWa];omega,fun v hv'=>?_⟩
    rcases bV6.1 hv' with hv'|hv'
    ·exact a1.2.2 v hv'
    ·simp only[bWk]at hv';subst hv';exact hv.ok
   ·simp only at hv'
    rw[<-List.append_assoc]at hv';rcases bV6.1 hv' with hv'|hv'
    ·exact(hF _ hm).ref v hv'
    ·simp only[bWk]at hv';subst hv';exact hv.ref
 ·rename_i hv1;have hz:o.vals.length=0:=by omega
  have hf0:0<o.frames.length:=by omega
  have hm:o.frames.getD (o.frames.length-1) nZ∈o.frames:=lB (by omega)
  have hl:LOk p S w (o.frames.take (o.frames.length-1)):=⟨by simp only[bXc];omega,fun f hf=>hF f (bXp hf),fun f hf=>k6 f (by rw[hz,bWu];exact hf)⟩
  have hfo:=hF _ hm;have hni:inR (o.frames.getD (o.frames.length-1) nZ).node 0 ((p.nodes.length:Int)-1)=true:=by
   have:=hfo.ok;simp only[bD,bVc]at this;exact this.1.1
  split
  ·rename_i hop;have hL:LOk p S w o.frames:=by
    refine⟨by omega,hF,fun f hf=>?_⟩
    rw[aDf hf0]at hf;rcases bV6.1 hf with hf|hf
    ·exact hl.opn f hf
    ·simp only[bWk]at hf;subst hf;simpa[cN]using hop
   refine qH h ha hL (aPa hp hni (by omega) ?_) fun v hv=>hfo.env hv
   have:=aH6 (hp.nodes _ (bV hni));omega
  ·rename_i hop
   refine aVi hp h ha hl hfo ?_
   have:=hfo.ok;simp only[bD,aR,bVc,bYb]at this;omega
theorem aPb (h:gG p w0=true)(hs: ∀i:Nat,i<w0.objs.length->S i-> ∀v∈mS (w0.obj i),v.kind=5->S v.n.toNat)(ht: ∀t∈w0.tasks,S t.toNat)(hn: ∀i,w0.objs.length<=i->S i):bQ p w0 S w0:=by
 simp only[gG,bVc]at h;exact⟨h.2,bVe _,fun _ _=>rfl,List.prefix_refl _,hs,ht,hn⟩
theorem aJ9 {p:aQ}{w0 w:aC}{S:Nat->Prop}(h:bQ p w0 S w):fP w0 w=true:=by
 simp only[fP,bVc,bYb,rX,bVo,bW4];exact⟨⟨⟨h.le,h.pre.length_le⟩,(List.prefix_iff_eq_take.1 h.pre)⟩,fun i hi=>(h.form i hi).symm⟩
theorem aY2 {p:aQ}{w:aC}(h:gG p w=true):bQ p w (fun _=>True) w:=aPb h (fun _ _ _ _ _ _=>trivial) (fun _ _=>trivial) (fun _ _=>trivial)
def Now (w:aC)(i:Nat):Prop:=uI w i \/w.objs.length<=i
def bTh (S:Nat->Prop)(m:List Int):Prop:= ∀j,j<m.length-> ¬bR m j=0->S j
theorem aGy {s:aX}{k:Nat}(hE:uJ s k=false):dM s k=⟨s.world,s.ages,dY s.world k s.marks,s.cycle⟩/\ dX (dY s.world k s.marks)<(dY s.world k s.marks).length:=by
 have hfg:dX (dY s.world k s.marks)<(dY s.world k s.marks).length:=by
  unfold uJ at hE
  simpa using hE
 exact⟨by rw[dM,if_pos hfg],hfg⟩
structure bU9 (p:aQ) (w0:aC) (s:aX):Prop where
 few:s.few
 small:bI s=true
 ok:bY p s=true
 cyc:s.cycle=3
 fine:bQ p w0 (Now w0) s.world
 only:bTh (Now w0) s.marks
theorem aKa {s:aX}{w:aC}(hl:s.marks.length<=w.objs.length):dL (cQ s w).marks<=dL s.marks+jE s w w.objs.length:=by
 have hlen:(cQ s w).marks.length=w.objs.length:=by simp[cQ,pS]
 have key: ∀n,n<=w.objs.length->((List.range n).map fun i=>if bR (cQ s w).marks i=2 then 0 else 1).sum<=((List.range (min n s.marks.length)).map fun i=>if bR s.marks i=2 then 0 else 1).sum+jE s w n:=by
  intro n
  induction n with
  |zero=>intro _;exact bVn _
  |succ n ih=>
   intro hn;have ih:=ih (by omega)
   rw[rY];have hmk:bR (cQ s w).marks n=iS s w n:=oU (by omega)
   simp only[bWr,bVx,bV9,bVv,List.sum_append,List.sum_cons,List.sum_nil,hmk]
   by_cases hlt:n<s.marks.length
   ·rw[show min (n+1) s.marks.length=min n s.marks.length+1 by omega]
    simp only[bWr,bVx,bV9,bVv,List.sum_append,List.sum_cons,List.sum_nil];rw[show min n s.marks.length=n by omega]at ih⊢
    simp only[iS,aJr,if_pos hlt]
    by_cases hg:rC s w n=true
    ·simp only[hg,if_true];simp;omega
    ·simp only[hg,if_false,bVd];rw[jG];omega
   ·rw[show min (n+1) s.marks.length=min n s.marks.length by omega]
    simp only[iS,aJr,if_neg hlt];simp;omega
 have:=key w.objs.length (bVe _);rw[show min w.objs.length s.marks.length=s.marks.length by omega]at this
 unfold dL at*;rw[hlen];exact this
section
variable {L :cO}{fr:Nat->Val}{en:En}{cnt:Nat->Nat->Nat}{Q:St->Prop}{l:List bE}{d g:Nat}{dst:Option Nat}{get:Opd->Val}
def aPc (d g:Nat)(en:En)(size:Nat)(x:Val)(s:Option (List Val×List R)):Option Res:=
 match s with
 |some (ys,rs)=>if cS size ys=true then
   match x with
   | .cl xs=>if ys.isEmpty then some {v:= .cl xs,rs}else if xs.length+ys.length<=16777216/\ cS size xs=true then
     some {v:= .bl ⟨0,d,g⟩ 0 (xs.length+ys.length),ws:=[.ent ⟨0,d,g⟩ (some (.blk size (xs++ys) (!xs.isEmpty)))],rs,bump:=true}else none
   | .bl k off len=>match en k with
    |some (.blk sz xs f)=>if(off+len=xs.length \/f=false/\ off+len<=xs.length)/\ len+ys.length<=16777216/\ sz=size then
      some {v:= .bl ⟨0,d,g⟩ 0 (len+ys.length),ws:=[.ent k none,.ent ⟨0,d,g⟩ (some (.blk size ((xs.take (off+len)).drop off++ys) f))],rs:= .val k:: .flag k::rs,bump:=true}else none
    |_=>none
   |_=>none
   else none
 |none=>none
theorem gQ {x y:Opd}{size:Nat}:cP d g en get (.append size x y)=aPc d g en size (get x) (jJ en (get y)):=(rfl)
theorem lD {size:Nat}{rs:List R}:aPc d g en size (.cl []) (some ([],rs))=some {v:= .cl [],rs}:=by simp[aPc,cS]
theorem gV {size:Nat}{ys:List Val}{rs:List R}(h0:ys.isEmpty=false)(h1:cS size ys=true)(hl:ys.length<=16777216):
  aPc d g en size (.cl []) (some (ys,rs))=some {v:= .bl ⟨0,d,g⟩ 0 ys.length,ws:=[.ent ⟨0,d,g⟩ (some (.blk size ys false))],rs,bump:=true}:=by
 have hz:cS size []=true:=rfl;simp[aPc,h1,h0,hl,hz]
def aY3 (d g:Nat)(k:Key)(size n:Nat)(ys:List Val)(rs:List R)(e:Option Ent):Option Res:=
 match e with
 |some (.blk sz xs f)=>if(0+n=xs.length \/f=false/\ 0+n<=xs.length)/\ n+ys.length<=16777216/\ sz=size then
      some {v:= .bl ⟨0,d,g⟩ 0 (n+ys.length),ws:=[.ent k none,.ent ⟨0,d,g⟩ (some (.blk size ((xs.take (0+n)).drop 0++ys) f))],rs:= .val k:: .flag k::rs,bump:=true}else none
 |_=>none
theorem uP {size n:Nat}{k:Key}{ys:List Val}{rs:List R}(h1:cS size ys=true):aPc d g en size (.bl k 0 n) (some (ys,rs))=aY3 d g k size n ys rs (en k):=by
 simp only[aPc,h1,if_true];rfl
theorem lP {size n:Nat}{k:Key}{xs ys:List Val}{rs:List R}{f:Bool}(hn:n=xs.length)(hl:n+ys.length<=16777216):
  aY3 d g k size n ys rs (some (.blk size xs f))=some {v:= .bl ⟨0,d,g⟩ 0 (n+ys.length),ws:=[.ent k none,.ent ⟨0,d,g⟩ (some (.blk size (xs++ys) f))],rs:= .val k:: .flag k::rs,bump:=true}:=by
 subst hn;simp[aY3,hl]
@[congr] theorem bEs {k:Key}{size n:Nat}{ys:List Val}{rs:List R}{e e':Option Ent}(h:e=e'):aY3 d g k size n ys rs e=aY3 d g k size n ys rs e':=by rw[h]
end
theorem aTj (l:List aI):cS 4 (l.map aI.enc)=true:=by cases l<;>rfl
theorem aDu (l:List Int):cS 1 (l.map (.int .i64))=true:=by cases l<;>rfl
theorem aTk (l:List aO):cS 2 (l.map aO.enc)=true:=by cases l<;>rfl
theorem aA7 (l:List aG):cS 2 (l.map aG.enc)=true:=by cases l<;>rfl
theorem nJ (l:List aB):cS 3 (l.map aB.enc)=true:=by cases l<;>rfl
theorem aTl {a b:Int}:cS 2 [.agg [.int .i64 a,.int .i64 b]]=true:=(rfl)
theorem fG {α:Type}{f:α->Val}{l:List α}:(l.map f).isEmpty=l.isEmpty:=by cases l<;>rfl
theorem aF6 {α:Type}{l:List α}(h:0<l.length):l.isEmpty=false:=by cases l<;>simp at h⊢
theorem aCd (n:Int):PC L 103 [.int .i64 n] (.agg [.int .i64 (nA n).kind,.int .i64 (nA n).n]):=by
 refine aL bHe rfl rfl ?_
 simp only[go_sem,qC,qG,qW,aP2,nA]
theorem wY (n:Int):PC L 105 [.int .i64 n] (.agg [.int .i64 (tG n).kind,.int .i64 (tG n).n]):=by
 refine aL bHf rfl rfl ?_
 simp only[go_sem,qC,qG,qW,aP3,tG]
theorem iM :PC L 158 [] (.agg [.int .i64 eD.kind,.int .i64 eD.n]):=by
 refine aL bIe rfl rfl ?_
 simp only[go_sem,qC,qG,qW,aQ1,eD]
theorem aA8 (b:Bool):PC L 157 [.bool b] (.agg [.int .i64 (rD b).kind,.int .i64 (rD b).n]):=by
 refine aL bId rfl rfl ?_
 cases b<;>simp only[go_sem,qC,qG,qW,aQ0,rD]
theorem aH7 (v:aG):PC L 128 [.agg [.int .i64 v.kind,.int .i64 v.n]] (.agg [.int .i64 (aDd v).kind,.int .i64 (aDd v).n]):=by
 obtain⟨k,n⟩:=v
 refine aL bHw rfl rfl ?_
 by_cases h4:k=4
 ·subst h4;simp only[go_sem,qC,qG,qW,aHk,(aCd 0).ret,aDd,true_or,nA]
 ·have g4:decide (k=4)=false:=decide_eq_false h4
  by_cases h5:k=5
  ·subst h5;simp only[go_sem,qC,qG,qW,aHk,(aCd 0).ret,aDd,or_true,nA]
  ·have g5:decide (k=5)=false:=decide_eq_false h5;simp only[go_sem,qC,qG,qW,aHk,g4,g5,(aCd 0).ret,aDd,h4,h5,or_self]
theorem aA9 (l:List aG)(v:aG)(hl:l.length<1000000):PC L 129 [.fz (l.map aG.enc),.agg [.int .i64 v.kind,.int .i64 v.n]] (.fz ((l++[v]).map aG.enc)):=by
 have hlen:l.length+1<=16777216:=by omega
 have hl1:l.length<=16777216:=by omega
 refine aL bHx rfl rfl ?_
 simp only[go_sem,qC,qG,qW,aQl]
 refine aN ?_
 cases hl0:l.isEmpty with
 |true=>
  have:l=[]:=by simpa using hl0
  subst this;simp only[go_sem,qC,qG,qW,cW,gQ,lD,gV,List.isEmpty_cons,aTl,bVf,bVg,bVh,bVj,bVi,bVd,if_false]
 |false=>
  simp only[go_sem,qC,qG,qW,cW,gQ,gV,uP,fG,hl0,hl1,hlen,lP,aA7,aTl,bVk,bV7,bXw,bVe,bVw,bVx,bVf,bVg,bVh,bVj,bVi,bVd,if_false]
  trace_state
structure bVa (en:En) (cnt:Nat->Nat->Nat) (en':En) (cnt':Nat->Nat->Nat):Prop where
 old: ∀t g,g<cnt 0 t->en' ⟨0,t,g⟩=en ⟨0,t,g⟩
 up: ∀t,cnt 0 t<=cnt' 0 t
def tI (en:En)(cnt:Nat->Nat->Nat)(v:Val)(size:Nat)(xs:List Val)(t:Nat):Prop:=(v= .cl []/\ xs=[]) \/ ∃g,v= .bl ⟨0,t,g⟩ 0 xs.length/\ en ⟨0,t,g⟩=some (.blk size xs false)/\ g<cnt 0 t/\ xs.isEmpty=false
theorem gR {en:En}{cnt:Nat->Nat->Nat}{a ga t g:Nat}{e:Option Ent}(h:cnt 0 a<=ga)(hg:g<cnt 0 t):En.set en ⟨0,a,ga⟩ e ⟨0,t,g⟩=en ⟨0,t,g⟩:=by
 refine dZ fun he=>?_
 injection he with h1 h2 h3
 subst h2;subst h3;omega
theorem lY {cnt c:Nat->Nat->Nat}{a ga:Nat}(h: ∀t,cnt 0 t<=c 0 t)(hg:ga=cnt 0 a): ∀t,cnt 0 t<=aP c 0 a (ga+1) 0 t:=by
 intro t
 by_cases ht:t=a
 ·subst ht;rw[bDg];omega
 ·rw[bDh ht];exact h t
theorem tI.keep {en en':En}{cnt cnt':Nat->Nat->Nat}{v:Val}{size t:Nat}{xs:List Val}(h:tI en cnt v size xs t)(he: ∀g,g<cnt 0 t->en' ⟨0,t,g⟩=en ⟨0,t,g⟩)(hc:cnt 0 t<=cnt' 0 t):tI en' cnt' v size xs t:=by
 rcases h with h|⟨g,h1,h2,h3,h4⟩
 ·exact .inl h
 ·exact .inr ⟨g,h1,by rw[he g h3];exact h2,by omega,h4⟩
theorem aF7 {en:En}{k:Key}{off len:Nat}:jJ en (.bl k off len)=(match en k with
  |some (.blk _ xs _)=>if off+len<=xs.length then some ((xs.drop off).take len,[.val k])else none
  |_=>none):=(rfl)
def aBa (en:En)(cnt:Nat->Nat->Nat)(w:aC)(vO vT vU vI:Val):Prop:=
 (vO= .fz (w.objs.map aI.enc)/\ vT= .fz (w.tasks.map (.int .i64))/\ vU= .fz (w.outs.map aO.enc)/\ vI= .fz (w.ins.map (.int .i64))) \/
 ∃gO gT,vO= .bl ⟨0,22,gO⟩ 0 w.objs.length/\ en ⟨0,22,gO⟩=some (.blk 4 (w.objs.map aI.enc) false)/\ gO<cnt 0 22/\ vT= .bl ⟨0,8,gT⟩ 0 w.tasks.length/\ en ⟨0,8,gT⟩=some (.blk 1 (w.tasks.map (.int .i64)) false)/\ gT<cnt 0 8/\
  tI en cnt vU 2 (w.outs.map aO.enc) 11/\ tI en cnt vI 1 (w.ins.map (.int .i64)) 14
theorem aBa.keep {en en':En}{cnt cnt':Nat->Nat->Nat}{w:aC}{vO vT vU vI:Val}(h:aBa en cnt w vO vT vU vI)(he: ∀t g,g<cnt 0 t->en' ⟨0,t,g⟩=en ⟨0,t,g⟩)(hc: ∀t,cnt 0 t<=cnt' 0 t):aBa en' cnt' w vO vT vU vI:=by
 rcases h with h|⟨gO,gT,h1,h2,h3,h4,h5,h6,h7,h8⟩
 ·exact .inl h
 ·exact .inr ⟨gO,gT,h1,by rw[he _ _ h3];exact h2,bWg h3 (hc _),h4,by rw[he _ _ h6];exact h5,bWg h6 (hc _),h7.keep (fun g hg=>he _ g hg) (hc _),h8.keep (fun g hg=>he _ g hg) (hc _)⟩
theorem wZ (en:En)(cnt:Nat->Nat->Nat)(w:aC):aBa en cnt w (.fz (w.objs.map aI.enc)) (.fz (w.tasks.map (.int .i64))) (.fz (w.outs.map aO.enc)) (.fz (w.ins.map (.int .i64))):= .inl ⟨rfl,rfl,rfl,rfl⟩
structure rZ (en:En) (cnt:Nat->Nat->Nat) (w:aC) (tail:List Val) (v:Val) (en':En) (cnt':Nat->Nat->Nat):Prop where
 parts: ∃g5 g8 vU vI,v= .agg (.bl ⟨0,5,g5⟩ 0 w.objs.length:: .bl ⟨0,8,g8⟩ 0 w.tasks.length::vU::vI:: .int .i64 w.used::tail)/\
   en' ⟨0,5,g5⟩=some (.blk 4 (w.objs.map aI.enc) false)/\ cnt 0 5<=g5/\ g5<cnt' 0 5/\ en' ⟨0,8,g8⟩=some (.blk 1 (w.tasks.map (.int .i64)) false)/\ cnt 0 8<=g8/\ g8<cnt' 0 8/\ tI en' cnt' vU 2 (w.outs.map aO.enc) 11/\ tI en' cnt' vI 1 (w.ins.map (.int .i64)) 14
 old: ∀t g,g<cnt 0 t->en' ⟨0,t,g⟩=en ⟨0,t,g⟩
 up: ∀t,cnt 0 t<=cnt' 0 t
theorem aBb (w:aC)(h1:0<w.objs.length)(h2:0<w.tasks.length)(hl:w.objs.length<=130/\ w.tasks.length<=130/\ w.outs.length<=110/\ w.ins.length<=60){en:En}{cnt:Nat->Nat->Nat}{vO vT vU vI:Val}(hL:aBa en cnt w vO vT vU vI):
  WIn L (.fn 154 [] []) [.agg [vO,vT,vU,vI,.int .i64 w.used]] en cnt fun v en' cnt'=>rZ en cnt w [] v en' cnt':=by
 obtain⟨objs,tasks,outs,ins,used⟩:=w;dsimp only at h1 h2 hl;have hl1:objs.length<=16777216:=by omega
 have hl2:tasks.length<=16777216:=by omega
 have hl3:outs.length<=16777216:=by omega
 have hl4:ins.length<=16777216:=by omega
 have he1:objs.isEmpty=false:=aF6 h1;have he2:tasks.isEmpty=false:=aF6 h2;have tk1:((objs.map aI.enc).take objs.length)=objs.map aI.enc:=bVw (by simp)
 have tk2:((tasks.map (Val.int .i64)).take tasks.length)=tasks.map (.int .i64):=bVw (by simp)
 have tk3:((outs.map aO.enc).take outs.length)=outs.map aO.enc:=bVw (by simp)
 have tk4:((ins.map (Val.int .i64)).take ins.length)=ins.map (.int .i64):=bVw (by simp)
 obtain⟨g1,hg1⟩: ∃g,g=cnt 0 1:=⟨_,rfl⟩
 obtain⟨g2,hg2⟩: ∃g,g=cnt 0 2:=⟨_,rfl⟩
 obtain⟨g5,hg5⟩: ∃g,g=cnt 0 5:=⟨_,rfl⟩
 obtain⟨g8,hg8⟩: ∃g,g=cnt 0 8:=⟨_,rfl⟩
 obtain⟨g11,hg11⟩: ∃g,g=cnt 0 11:=⟨_,rfl⟩
 obtain⟨g14,hg14⟩: ∃g,g=cnt 0 14:=⟨_,rfl⟩
 have fin: ∀{vU vI:Val} {en':En} {cnt':Nat->Nat->Nat},en' ⟨0,5,g5⟩=some (.blk 4 (objs.map aI.enc) false)->g5<cnt' 0 5->en' ⟨0,8,g8⟩=some (.blk 1 (tasks.map (.int .i64)) false)->g8<cnt' 0 8->tI en' cnt' vU 2 (outs.map aO.enc) 11->tI en' cnt' vI 1 (ins.map (.int .i64)) 14->
   (∀t g,g<cnt 0 t->en' ⟨0,t,g⟩=en ⟨0,t,g⟩)->(∀t,cnt 0 t<=cnt' 0 t)->rZ en cnt ⟨objs,tasks,outs,ins,used⟩ [] (.agg [.bl ⟨0,5,g5⟩ 0 objs.length,.bl ⟨0,8,g8⟩ 0 tasks.length,vU,vI,.int .i64 used]) en' cnt':=
  fun a1 a2 a3 a4 a5 a6 a7 a8=>⟨⟨g5,g8,_,_,rfl,a1,by omega,a2,a3,by omega,a4,a5,a6⟩,a7,a8⟩
 have old: ∀{t g:Nat},g<cnt 0 t-> ∀{e:En} {a ga:Nat} {x:Option Ent},ga=cnt 0 a->En.set e ⟨0,a,ga⟩ x ⟨0,t,g⟩=e ⟨0,t,g⟩:=fun hg _ _ _ _ h=>gR (bWl h.symm) hg
 refine mX bIb rfl rfl ?_
 rcases hL with⟨rfl,rfl,rfl,rfl⟩|⟨gO,gT,rfl,eO,lO,rfl,eT,lT,mU,mI⟩
 ·simp only[go_sem,qC,qG,qW,aLl,<-hg1,<-hg2]
  refine aN ?_
  cases hu:outs.isEmpty<;>cases hi:ins.isEmpty
  all_goals
   try(have hu':outs=[]:=(by simpa using hu);subst hu')
   try(have hi':ins=[]:=(by simpa using hi);subst hi')
   simp only[go_sem,qC,qG,qW,cW,gQ,lD,gV,fG,he1,he2,hu,hi,hl1,hl2,hl3,hl4,aTj,aDu,aTk,bVk,bVv,<-hg5,<-hg8,<-hg11,<-hg14,cX,bP,dA,bO,bVf,bVg,bVh,bVj,bVi,bVd,if_false]
   refine fin (by simp only[go_sem,qW]) (by simp[aP]) (by simp only[go_sem,qW]) (by simp[aP]) ?_ ?_ ?_ ?_
   ·first
     |exact .inl ⟨rfl,rfl⟩
     |exact .inr ⟨g11,by rw[bVk],by simp only[go_sem,qW],by simp[aP],by rw[fG];exact hu⟩
   ·first
     |exact .inl ⟨rfl,rfl⟩
     |exact .inr ⟨g14,by rw[bVk],by simp only[go_sem,qW],by simp[aP],by rw[fG];exact hi⟩
   ·intro t g hg;simp only[old hg hg1,old hg hg2,old hg hg5,old hg hg8,old hg hg11,old hg hg14]
   ·repeat' (refine lY ?_ (by assumption))
    exact fun _=>bVe _
 ·dsimp only at eO eT;have eU:=True.intro;have eI:=True.intro;rcases mU with⟨rfl,hu⟩|⟨gU,rfl,eU,lU,hu⟩<;>rcases mI with⟨rfl,hi⟩|⟨gI,rfl,eI,lI,hi⟩
  all_goals try dsimp only at eU
  all_goals try dsimp only at eI
  all_goals
   try(have hu':outs=[]:=(by simpa using hu);subst hu')
   try(have hi':ins=[]:=(by simpa using hi);subst hi')
   simp only[go_sem,qC,qG,qW,aLl,<-hg1,<-hg2,cX,bP,dA,bO]
   refine aN ?_
   try(have hu:=hu;rw[fG]at hu)
   try(have hi:=hi;rw[fG]at hi)
   simp only[go_sem,qC,qG,qW,cW,gQ,aF7,lD,gV,fG,he1,he2,hu,hi,hl1,hl2,hl3,hl4,tk1,tk2,tk3,tk4,aTj,aDu,aTk,bVk,bVv,bVe,<-hg5,<-hg8,<-hg11,<-hg14,eO,eT,eU,eI,cX,bP,dA,bO,bVf,bVg,bVh,bVj,bVi,bVd,if_false]
   refine fin (by simp only[go_sem,qW]) (by simp[aP]) (by simp only[go_sem,qW]) (by simp[aP]) ?_ ?_ ?_ ?_
   ·first
     |exact .inl ⟨rfl,rfl⟩
     |exact .inr ⟨g11,by rw[bVk],by simp only[go_sem,qW],by simp[aP],by rw[fG];assumption⟩
   ·first
     |exact .inl ⟨rfl,rfl⟩
     |exact .inr ⟨g14,by rw[bVk],by simp only[go_sem,qW],by simp[aP],by rw[fG];assumption⟩
   ·intro t g hg;simp only[old hg hg1,old hg hg2,old hg hg5,old hg hg8,old hg hg11,old hg hg14]
   ·repeat' (refine lY ?_ (by assumption))
    exact fun _=>bVe _
theorem tI.shape {en:En}{cnt:Nat->Nat->Nat}{v:Val}{size t:Nat}{xs:List Val}(h:tI en cnt v size xs t):v.one=true/\ v.cells=[v]:=by
 rcases h with⟨rfl,_⟩|⟨g,rfl,_⟩<;>exact⟨rfl,rfl⟩
structure yP (a x:Val):Prop where
 snap: ∀n en,snapD (n+1) en a=some (a,[])
 wk:a.wk0=x
 one:a.one=true
 cells:a.cells=[a]
theorem pK (xs:List Val):yP (.fz xs) (.fz xs):=⟨fun _ _=>rfl,rfl,rfl,rfl⟩
theorem aBc (xs:List Val):yP (.cl xs) (.fz xs):=⟨fun _ _=>rfl,rfl,rfl,rfl⟩
theorem aTm (w:aC)(j:Nat)(o:aI){a b:Val}(ha:yP a (.fz (o.vals.map aG.enc)))(hb:yP b (.fz (o.frames.map aB.enc)))(hj:j<w.objs.length)(ht:0<w.tasks.length)(hl:w.objs.length<=130/\ w.tasks.length<=130/\ w.outs.length<=110/\ w.ins.length<=60){en:En}{cnt:Nat->Nat->Nat}{vO vT vU vI:Val}(hL:aBa en cnt w vO vT vU vI)
  (hs:(vO.one=true/\ vO.cells=[vO])/\ (vT.one=true/\ vT.cells=[vT])/\ (vU.one=true/\ vU.cells=[vU])/\ (vI.one=true/\ vI.cells=[vI])):
  WIn L (.fn 127 [] []) [.agg [vO,vT,vU,vI,.int .i64 w.used],.int .i64 j,.agg [.int .i64 o.form,.int .i64 o.n,a,b]] en cnt fun v en' cnt'=>rZ en cnt (fZ w j o) [] v en' cnt':=by
 obtain⟨g3,hg3⟩: ∃g,g=cnt 0 3:=⟨_,rfl⟩
 obtain⟨gA,hgA⟩: ∃g,g=cnt 0 5:=⟨_,rfl⟩
 obtain⟨g6,hg6⟩: ∃g,g=cnt 0 6:=⟨_,rfl⟩
 have hget:(w.objs.map aI.enc)[j]?=some (aI.enc w.objs[j]):=by simp[hj]
 have up0: ∀t,cnt 0 t<=aP (aP (aP cnt 0 3 (g3+1)) 0 5 (gA+1)) 0 6 (g6+1) 0 t:=lY (lY (lY (fun _=>bVe _) hg3) hgA) hg6
 refine mX bCi rfl rfl ?_
 simp only[go_sem,qC,qG,qW,aQk,<-hg3,<-hgA,<-hg6]
 refine(aBb w (by omega) ht hl (hL.keep (fun t g hg=>?_) up0)).mono ?_
 ·rw[gR (bWl hg6.symm) hg,gR (bWl hgA.symm) hg,gR (bWl hg3.symm) hg]
 rintro v en' cnt' ⟨⟨g5,g8,vU',vI',rfl,e5,l5,m5,e8,l8,m8,mU,mI⟩,old,up⟩
 have e3:=old 3 g3 (by simp[aP])
 have eA:=old 5 gA (by simp[aP])
 have e6:=old 6 g6 (by simp[aP])
 have l5':gA<g5:=by have:=l5;simp[aP]at this;omega
 try simp only[go_sem,qW]at e3 eA e6
 simp only[go_sem,qC,qG,qW,e3,eA,e6,e5,hget,hj,ha.snap,hb.snap,ha.wk,hb.wk,dA,bO,bX1,bV3]
 refine⟨⟨g5,g8,vU',vI',?_,?_,by omega,m5,?_,bWd (up0 8) l8,m8,?_,?_⟩,fun t g hg=>?_,fun t=>bWd (up0 t) (up t)⟩
 ·simp only[fZ,bV3,bXt]
 ·simp only[go_sem,qW,fZ,bW0,bV3]
 ·simp only[go_sem,qW,e8,fZ]
 ·exact mU.keep (fun g _=>by simp only[go_sem,qW]) (bVe _)
 ·exact mI.keep (fun g _=>by simp only[go_sem,qW]) (bVe _)
 ·rw[gR (bWl hg6.symm) hg,gR (by omega) hg,gR (bWl hg3.symm) hg,old t g (bWg hg (up0 t)),gR (bWl hg6.symm) hg,gR (bWl hgA.symm) hg,gR (bWl hg3.symm) hg]
theorem aBa.shape {en:En}{cnt:Nat->Nat->Nat}{w:aC}{vO vT vU vI:Val}(h:aBa en cnt w vO vT vU vI):
  (vO.one=true/\ vO.cells=[vO])/\ (vT.one=true/\ vT.cells=[vT])/\ (vU.one=true/\ vU.cells=[vU])/\ (vI.one=true/\ vI.cells=[vI]):=by
 rcases h with⟨rfl,rfl,rfl,rfl⟩|⟨gO,gT,rfl,_,_,rfl,_,_,mU,mI⟩
 ·exact⟨⟨rfl,rfl⟩,⟨rfl,rfl⟩,⟨rfl,rfl⟩,rfl,rfl⟩
 ·exact⟨⟨rfl,rfl⟩,⟨rfl,rfl⟩,mU.shape,mI.shape⟩
theorem aCe {f:Nat}{lf:aM}{args:List Val}{r:Val}(hL:L f=some lf)(hk:lf.keep=false)(hn:args.length=lf.np)(ha:aCh lf args=false)
  (h:WIn L (.fn f [] []) args (fun _=>none) (fun _ _=>0) fun v en' _=> ∃r' ks,snapD 8 en' v=some (r',ks)/\ r'.wk=r):PC L f args r:=by
 obtain⟨v,en',cnt',⟨n0,h0⟩,r',ks,h1,h2⟩:=h
 refine⟨n0,fun n hm=>?_⟩
 have hx:=h0 n hm (fun _=> .tup [])
 simp only[Inl.call,pT,oW,hL,bWv,bWw,hn,if_true,ha,bVd,if_false]at hx;simp only[pC,jV,hL,hn,if_true,ha,bVd,if_false,gD,Go.Abs.start]
 split at hx
 ·rename_i e st' he
  split at hx
  ·rename_i hend;simp only[hend,if_true];obtain⟨vs,hvs,heq⟩:=bVr.1 hx;simp only[bVl,St.mk.injEq]at heq;obtain⟨rfl,_,rfl,_⟩:=heq;simp only[zS,hvs,hk,bVd,if_false,vQ _ _ _ _ h1 8 (bVe _),h2]
  ·cases hx
 ·cases hx
theorem tI.snapB {en:En}{cnt:Nat->Nat->Nat}{v:Val}{size t:Nat}{xs:List Val}(h:tI en cnt v size xs t)(n:Nat): ∃r ks,snapD (n+1) en v=some (r,ks)/\ r.wk0= .fz xs:=by
 rcases h with⟨rfl,rfl⟩|⟨g,rfl,h2,_⟩
 ·exact⟨.cl [],[],rfl,rfl⟩
 ·exact⟨.fz xs,[⟨0,t,g⟩],by simp[snapD,h2],rfl⟩
theorem rZ.snap {en en':En}{cnt cnt':Nat->Nat->Nat}{w:aC}{v:Val}(h:rZ en cnt w [] v en' cnt'): ∃r ks,snapD 8 en' v=some (r,ks)/\ r.wk= .agg [.fz (w.objs.map aI.enc),.fz (w.tasks.map (.int .i64)),.fz (w.outs.map aO.enc),.fz (w.ins.map (.int .i64)),.int .i64 w.used]:=by
 obtain⟨⟨g5,g8,vU,vI,rfl,e5,_,_,e8,_,_,mU,mI⟩,_,_⟩:=h;obtain⟨r1,k1,s1,t1⟩:=mU.snapB 6;obtain⟨r2,k2,s2,t2⟩:=mI.snapB 6;have l1:(w.objs.map aI.enc).take w.objs.length=w.objs.map aI.enc:=bVw (by simp)
 have l2:(w.tasks.map (Val.int .i64)).take w.tasks.length=w.tasks.map (.int .i64):=bVw (by simp)
 refine⟨_,_,by simp only[go_sem,e5,e8,s1,s2,l1,l2,bVe];rfl,?_⟩
 simp only[go_sem,qW,t1,t2]
theorem rZ.snapD {en en':En}{cnt cnt':Nat->Nat->Nat}{d:Did}{v:Val}(h:rZ en cnt d.w [.int .i64 d.what,.int .i64 d.e.task,.int .i64 d.e.act,.int .i64 d.e.n,.int .i64 d.e.v.kind,.int .i64 d.e.v.n] v en' cnt'): ∃r ks,Go.Abs.snapD 8 en' v=some (r,ks)/\ r.wk= .agg [.fz (d.w.objs.map aI.enc),.fz (d.w.tasks.map (.int .i64)),.fz (d.w.outs.map aO.enc),.fz (d.w.ins.map (.int .i64)),.int .i64 d.w.used,.int .i64 d.what,.int .i64 d.e.task,.int .i64 d.e.act,.int .i64 d.e.n,.int .i64 d.e.v.kind,.int .i64 d.e.v.n]:=by
 obtain⟨⟨g5,g8,vU,vI,rfl,e5,_,_,e8,_,_,mU,mI⟩,_,_⟩:=h;obtain⟨r1,k1,s1,t1⟩:=mU.snapB 6;obtain⟨r2,k2,s2,t2⟩:=mI.snapB 6;have l1:(d.w.objs.map aI.enc).take d.w.objs.length=d.w.objs.map aI.enc:=bVw (by simp)
 have l2:(d.w.tasks.map (Val.int .i64)).take d.w.tasks.length=d.w.tasks.map (.int .i64):=bVw (by simp)
 refine⟨_,_,by simp only[go_sem,e5,e8,s1,s2,l1,l2,bVe];rfl,?_⟩
 simp only[go_sem,qW,t1,t2]
structure Fit (w:aC) (a:Int):Prop where
 len:w.objs.length<=130/\ w.tasks.length<=130/\ w.outs.length<=110/\ w.ins.length<=60
 at_:inR a 0 ((w.tasks.length:Int)-1)=true
 rng:inR (iT w a) 0 ((w.objs.length:Int)-1)=true
theorem aKb {w:aC}{a:Int}{en:En}(ha:inR a 0 ((w.tasks.length:Int)-1)=true):rJ 1 en (.fz (w.tasks.map (.int .i64))) (.int .i64 a)=some {v:= .fp [.int .i64 (iT w a)] 0}:=sF ha
theorem aF8 (w:aC)(n:Int)(o:aI)(hn:inR n 0 ((w.objs.length:Int)-1)=true)(ht:0<w.tasks.length)(hl:w.objs.length<=130/\ w.tasks.length<=130/\ w.outs.length<=110/\ w.ins.length<=60):
  PC L 127 [.agg [.fz (w.objs.map aI.enc),.fz (w.tasks.map (.int .i64)),.fz (w.outs.map aO.enc),.fz (w.ins.map (.int .i64)),.int .i64 w.used],.int .i64 n,.agg [.int .i64 o.form,.int .i64 o.n,.fz (o.vals.map aG.enc),.fz (o.frames.map aB.enc)]] (.agg [.fz ((fZ w n o).objs.map aI.enc),.fz ((fZ w n o).tasks.map (.int .i64)),.fz ((fZ w n o).outs.map aO.enc),.fz ((fZ w n o).ins.map (.int .i64)),.int .i64 (fZ w n o).used]):=by
 simp only[inR,bYb]at hn;obtain⟨j,rfl⟩:=bWq hn.1;have hL:=wZ (fun _=>none) (fun _ _=>0) w
 exact aCe bCi rfl rfl rfl ((aTm w j o (pK _) (pK _) (by omega) ht hl hL hL.shape).mono fun v en' cnt' h=>h.snap)
theorem eH (w:aC)(a st:Int)(hf:Fit w a):PC L 155 [.agg [.fz (w.objs.map aI.enc),.fz (w.tasks.map (.int .i64)),.fz (w.outs.map aO.enc),.fz (w.ins.map (.int .i64)),.int .i64 w.used],.int .i64 a,.int .i64 st] (.agg [.fz ((bG w a st).w.objs.map aI.enc),.fz ((bG w a st).w.tasks.map (.int .i64)),.fz ((bG w a st).w.outs.map aO.enc),.fz ((bG w a st).w.ins.map (.int .i64)),.int .i64 (bG w a st).w.used,.int .i64 (bG w a st).what,.int .i64 (bG w a st).e.task,.int .i64 (bG w a st).e.act,.int .i64 (bG w a st).e.n,.int .i64 (bG w a st).e.v.kind,.int .i64 (bG w a st).e.v.n]):=by
 have ha:=hf.at_;simp only[inR,bYb]at ha;have hS:=aF8 w (iT w a) ⟨6,st,[],[]⟩ hf.rng (by omega) hf.len
 refine aL bIc rfl rfl ?_
 simp only[bVv]at hS;simp only[go_sem,qC,qG,qW,aQy,aKb hf.at_,hS.ret,bG,mN]
theorem aM9 (w:aC)(a:Int)(left:List aB)(v:aG){c:Val}(hc:yP c (.fz (left.map aB.enc)))(hf:Fit w a){en:En}{cnt:Nat->Nat->Nat}{vO vT vU vI:Val}(hL:aBa en cnt w vO vT vU vI):
  WIn L (.fn 156 [] []) [.agg [vO,vT,vU,vI,.int .i64 w.used],.int .i64 a,c,.agg [.int .i64 v.kind,.int .i64 v.n]] en cnt fun x en' cnt'=>rZ en cnt (bW w a left v).w [.int .i64 0,.int .i64 0,.int .i64 0,.int .i64 0,.int .i64 0,.int .i64 0] x en' cnt':=by
 have ha:=hf.at_;have hr:=hf.rng;simp only[inR,bYb]at ha hr;obtain⟨j,hj⟩:=bWq hr.1;obtain⟨i,rfl⟩:=bWq ha.1;have hi:i<w.tasks.length:=by omega
 have hti:w.tasks[i]=(j:Int):=by rw[<-hj];simp[iT,bVm,hi]
 have hget:(w.tasks.map (Val.int .i64))[i]?=some (.int .i64 (j:Int)):=by simp[hi,hti]
 have hi1:((i:Int)<(w.tasks.length:Int)):=by omega
 obtain⟨⟨o1,o2⟩,⟨t1,t2⟩,⟨u1,u2⟩,⟨i1,i2⟩⟩:=hL.shape;obtain⟨g4,hg4⟩: ∃g,g=cnt 0 4:=⟨_,rfl⟩
 obtain⟨g7,hg7⟩: ∃g,g=cnt 0 7:=⟨_,rfl⟩
 obtain⟨g8,hg8⟩: ∃g,g=cnt 0 8:=⟨_,rfl⟩
 have up0: ∀t,cnt 0 t<=aP (aP (aP cnt 0 4 (g4+1)) 0 7 (g7+1)) 0 8 (g8+1) 0 t:=lY (lY (lY (fun _=>bVe _) hg4) hg7) hg8
 have hD:(bW w i left v).w=fZ w j ⟨6,0,[v],left⟩:=by simp only[bW,hj]
 rw[hD];have key:=fun{en1:En} (h: ∀t g,g<cnt 0 t->en1 ⟨0,t,g⟩=en ⟨0,t,g⟩)=>aTm w j ⟨6,0,[v],left⟩ (aBc [.agg [.int .i64 v.kind,.int .i64 v.n]]) hc (by omega) (by omega) hf.len (en:=en1) (cnt:=aP (aP (aP cnt 0 4 (g4+1)) 0 7 (g7+1)) 0 8 (g8+1)) (hL.keep h up0) hL.shape
 have hj':w.tasks.getD ((i:Int)).toNat 0=(j:Int):=hj;have oldS:=fun{e1:En} {x4 x7 x8:Option Ent} {t g:Nat} (hg:g<cnt 0 t)=>show((e1.set ⟨0,4,g4⟩ x4).set ⟨0,7,g7⟩ x7).set ⟨0,8,g8⟩ x8 ⟨0,t,g⟩=e1 ⟨0,t,g⟩by
  rw[gR (bWl hg8.symm) hg,gR (bWl hg7.symm) hg,gR (bWl hg4.symm) hg]
 have fin: ∀{en1:En} {x:Val} {en':En} {cnt':Nat->Nat->Nat},(∀t g,g<cnt 0 t->en1 ⟨0,t,g⟩=en ⟨0,t,g⟩)->rZ en1 (aP (aP (aP cnt 0 4 (g4+1)) 0 7 (g7+1)) 0 8 (g8+1)) (fZ w j ⟨6,0,[v],left⟩) [] x en' cnt'->
   ∃g5 g9 vU vI,x= .agg [.bl ⟨0,5,g5⟩ 0 (fZ w j ⟨6,0,[v],left⟩).objs.length,.bl ⟨0,8,g9⟩ 0 (fZ w j ⟨6,0,[v],left⟩).tasks.length,vU,vI,.int .i64 (fZ w j ⟨6,0,[v],left⟩).used]/\ (vU.one=true/\ vU.cells=[vU])/\ (vI.one=true/\ vI.cells=[vI])/\ en' ⟨0,8,g8⟩=en1 ⟨0,8,g8⟩/\
    ∀Z:Option Ent,rZ en cnt (fZ w j ⟨6,0,[v],left⟩) [.int .i64 0,.int .i64 0,.int .i64 0,.int .i64 0,.int .i64 0,.int .i64 0] (.agg (.bl ⟨0,5,g5⟩ 0 (fZ w j ⟨6,0,[v],left⟩).objs.length:: .bl ⟨0,8,g9⟩ 0 (fZ w j ⟨6,0,[v],left⟩).tasks.length::vU::vI:: .int .i64 (fZ w j ⟨6,0,[v],left⟩).used::[.int .i64 0,.int .i64 0,.int .i64 0,.int .i64 0,.int .i64 0,.int .i64 0])) (en'.set ⟨0,8,g8⟩ Z) cnt':=by
  rintro en1 x en' cnt' h1 ⟨⟨g5,g9,vU,vI,rfl,e5,l5,m5,e9,l9,m9,mU,mI⟩,old,up⟩
  have hlt:g8<aP (aP (aP cnt 0 4 (g4+1)) 0 7 (g7+1)) 0 8 (g8+1) 0 8:=by simp[aP]
  refine⟨g5,g9,vU,vI,rfl,mU.shape,mI.shape,old 8 g8 hlt,fun Z=>⟨⟨g5,g9,vU,vI,rfl,by simp only[go_sem,e5],bWd (up0 5) l5,m5,?_,bWd (up0 8) l9,m9,mU.keep (fun g _=>by simp only[go_sem,qW]) (bVe _),mI.keep (fun g _=>by simp only[go_sem,qW]) (bVe _)⟩,fun t g hg=>?_,fun t=>bWd (up0 t) (up t)⟩⟩
  ·rw[aPy (by omega)];exact e9
  ·rw[gR (bWl hg8.symm) hg,old t g (bWg hg (up0 t)),h1 t g hg]
 refine mX bCl rfl rfl ?_
 simp only[go_sem,qC,qG,qW,aQz,<-hg4,<-hg7,<-hg8]
 refine aN ?_
 rcases hL with⟨rfl,rfl,rfl,rfl⟩|⟨gO,gT,rfl,eO,lO,rfl,eT,lT,mU,mI⟩
 ·simp only[go_sem,qC,qG,qW,yE (f:=Val.int .i64) (size:=1) (k:= .i64) (l:=w.tasks) 0 hf.at_ (fun _=>rfl),hj',hc.one,hc.cells,cX,bP,bVf,bVg,bVh,bVj,bVi,bVd,if_false]
  refine(key fun t g hg=>oldS hg).mono ?_
  intro x en' cnt' hO;obtain⟨g5,g9,vU,vI,rfl,⟨s1,s2⟩,⟨s3,s4⟩,e8,hO'⟩:=fin (fun t g hg=>oldS hg) hO
  try simp only[go_sem,qW]at e8
  simp only[go_sem,qC,qG,qW,e8,s1,s2,s3,s4,dA,bO,bVf,bVg,bVh,bVj,bVi,bVd,if_false];exact hO' _
 ·have hne: ¬gT=g8:=by omega
  simp only[go_sem,qC,qG,qW,eT,hne,hget,hi1,hj',hc.one,hc.cells,cX,bP,dA,bO,bX1,bV3,bVf,bVg,bVh,bVj,bVi,bVd,if_false]
  refine(key fun t g hg=>oldS hg).mono ?_
  intro x en' cnt' hO;obtain⟨g5,g9,vU',vI',rfl,⟨s1,s2⟩,⟨s3,s4⟩,e8,hO'⟩:=fin (fun t g hg=>oldS hg) hO
  try simp only[go_sem,qW]at e8
  simp only[go_sem,qC,qG,qW,e8,s1,s2,s3,s4,dA,bO,bVf,bVg,bVh,bVj,bVi,bVd,if_false];exact hO' _
theorem gW (w:aC)(a:Int)(left:List aB)(v:aG)(hf:Fit w a):PC L 156 [.agg [.fz (w.objs.map aI.enc),.fz (w.tasks.map (.int .i64)),.fz (w.outs.map aO.enc),.fz (w.ins.map (.int .i64)),.int .i64 w.used],.int .i64 a,.fz (left.map aB.enc),.agg [.int .i64 v.kind,.int .i64 v.n]] (.agg [.fz ((bW w a left v).w.objs.map aI.enc),.fz ((bW w a left v).w.tasks.map (.int .i64)),.fz ((bW w a left v).w.outs.map aO.enc),.fz ((bW w a left v).w.ins.map (.int .i64)),.int .i64 (bW w a left v).w.used,.int .i64 (bW w a left v).what,.int .i64 (bW w a left v).e.task,.int .i64 (bW w a left v).e.act,.int .i64 (bW w a left v).e.n,.int .i64 (bW w a left v).e.v.kind,.int .i64 (bW w a left v).e.v.n]):=
 aCe bCl rfl rfl rfl ((aM9 w a left v (pK _) hf (wZ _ _ w)).mono fun v en' cnt' h=>h.snapD (d:=bW w a _ _))
theorem bCp {a b:Val}:cS 2 [.agg [a,b]]=true:=(rfl)
theorem bCq {a b c:Val}:cS 3 [.agg [a,b,c]]=true:=(rfl)
theorem bCr {a b c d:Val}:cS 4 [.agg [a,b,c,d]]=true:=(rfl)
theorem bKq {k:IntKind}{n:Int}:cS 1 [.int k n]=true:=(rfl)
theorem aTn (w:aC)(a:Int)(o:aI)(hf:Fit w a):PC L 127 [.agg [.fz (w.objs.map aI.enc),.fz (w.tasks.map (.int .i64)),.fz (w.outs.map aO.enc),.fz (w.ins.map (.int .i64)),.int .i64 w.used],.int .i64 (iT w a),.agg [.int .i64 o.form,.int .i64 o.n,.fz (o.vals.map aG.enc),.fz (o.frames.map aB.enc)]] (.agg [.fz ((fZ w (iT w a) o).objs.map aI.enc),.fz ((fZ w (iT w a) o).tasks.map (.int .i64)),.fz ((fZ w (iT w a) o).outs.map aO.enc),.fz ((fZ w (iT w a) o).ins.map (.int .i64)),.int .i64 (fZ w (iT w a) o).used]):=by
 have ha:=hf.at_;simp only[inR,bYb]at ha;exact aF8 w (iT w a) o hf.rng (by omega) hf.len
theorem xW (w:aC)(a:Int)(left:List aB)(node:Int)(env:List aG)(hf:Fit w a)(hl:left.length<1000000):PC L 131 [.agg [.fz (w.objs.map aI.enc),.fz (w.tasks.map (.int .i64)),.fz (w.outs.map aO.enc),.fz (w.ins.map (.int .i64)),.int .i64 w.used],.int .i64 a,.fz (left.map aB.enc),.int .i64 node,.fz (env.map aG.enc)] (.agg [.fz ((fB w a left node env).w.objs.map aI.enc),.fz ((fB w a left node env).w.tasks.map (.int .i64)),.fz ((fB w a left node env).w.outs.map aO.enc),.fz ((fB w a left node env).w.ins.map (.int .i64)),.int .i64 (fB w a left node env).w.used,.int .i64 (fB w a left node env).what,.int .i64 (fB w a left node env).e.task,.int .i64 (fB w a left node env).e.act,.int .i64 (fB w a left node env).e.n,.int .i64 (fB w a left node env).e.v.kind,.int .i64 (fB w a left node env).e.v.n]):=by
 have hF:=eH w a 4 hf;have hS:=aTn w a ⟨6,0,[],left++[⟨node,env,[]⟩]⟩ hf;have hl1:left.length<=16777216:=by omega
 have hl2:left.length+1<=16777216:=by omega
 refine aL bHz rfl rfl ?_
 by_cases h1:40<=left.length
 ·have d1:decide ((40:Int)<=(left.length:Int))=true:=decide_eq_true (by omega)
  have e:fB w a left node env=bG w a 4:=by unfold fB;rw[if_pos (.inl h1)]
  rw[e];simp only[go_sem,qC,qG,qW,aE1,d1,hF.ret]
 ·have d1:decide ((40:Int)<=(left.length:Int))=false:=decide_eq_false (by omega)
  by_cases h2:30<env.length
  ·have d2:decide ((30:Int)<(env.length:Int))=true:=decide_eq_true (by omega)
   have e:fB w a left node env=bG w a 4:=by unfold fB;rw[if_pos (.inr h2)]
   rw[e];simp only[go_sem,qC,qG,qW,aE1,d1,d2,hF.ret]
  ·have d2:decide ((30:Int)<(env.length:Int))=false:=decide_eq_false (by omega)
   have e:fB w a left node env=⟨fZ w (iT w a) ⟨6,0,[],left++[⟨node,env,[]⟩]⟩,0,lA⟩:=by unfold fB;rw[if_neg (by omega)]
   rw[e];simp only[bVx,bV9,bVv,aB.enc]at hS;cases h0:left.isEmpty with
   |true=>
    have:left=[]:=by simpa using h0
    subst this;simp only[bVv,bWv]at hS⊢;simp only[go_sem,qC,qG,qW,aE1,d1,d2,cW,gQ,lD,gV,List.isEmpty_cons,bCq,aKb hf.at_,dA,bO,bVe,hS.ret,lA,mN]
   |false=>
    simp only[go_sem,qC,qG,qW,aE1,d1,d2,cW,gQ,gV,uP,fG,h0,hl1,hl2,lP,nJ,bCq,bVk,bV7,bXw,bVe,bVw,aKb hf.at_,dA,bO,hS.ret,lA,mN]
theorem kB (d:Did)(a act n:Int)(v:aG):PC L 167 [.agg [.fz (d.w.objs.map aI.enc),.fz (d.w.tasks.map (.int .i64)),.fz (d.w.outs.map aO.enc),.fz (d.w.ins.map (.int .i64)),.int .i64 d.w.used,.int .i64 d.what,.int .i64 d.e.task,.int .i64 d.e.act,.int .i64 d.e.n,.int .i64 d.e.v.kind,.int .i64 d.e.v.n],.int .i64 a,.int .i64 act,.int .i64 n,.agg [.int .i64 v.kind,.int .i64 v.n]] (.agg [.fz ((dC d a act n v).w.objs.map aI.enc),.fz ((dC d a act n v).w.tasks.map (.int .i64)),.fz ((dC d a act n v).w.outs.map aO.enc),.fz ((dC d a act n v).w.ins.map (.int .i64)),.int .i64 (dC d a act n v).w.used,.int .i64 (dC d a act n v).what,.int .i64 (dC d a act n v).e.task,.int .i64 (dC d a act n v).e.act,.int .i64 (dC d a act n v).e.n,.int .i64 (dC d a act n v).e.v.kind,.int .i64 (dC d a act n v).e.v.n]):=by
 have hM:=aH7 v
 refine aL bIi rfl rfl ?_
 by_cases h:d.what=1
 ·have e:dC d a act n v=d:=by unfold dC;rw[if_pos h]
  rw[e];have d1:decide (d.what=1)=true:=decide_eq_true h;simp only[go_sem,qC,qG,qW,aLn,d1]
 ·have e:dC d a act n v=⟨d.w,1,⟨a,act,n,aDd v⟩⟩:=by unfold dC;rw[if_neg h]
  rw[e];have d1:decide (d.what=1)=false:=decide_eq_false h;simp only[go_sem,qC,qG,qW,aLn,d1]
  refine aN ?_
  simp only[go_sem,qC,qG,qW,hM.ret,bVf,bVg,bVh,bVj,bVi,bVd,if_false]
def rF (w:aC)(v:aG)(form:Int):aI:=if kA w v form=true then w.obj v.n else aYx
theorem nB (w:aC)(v:aG)(form:Int)(hv:v.kind=5->inR v.n 0 ((w.objs.length:Int)-1)=true):PC L 187 [.agg [.fz (w.objs.map aI.enc),.fz (w.tasks.map (.int .i64)),.fz (w.outs.map aO.enc),.fz (w.ins.map (.int .i64)),.int .i64 w.used],.agg [.int .i64 v.kind,.int .i64 v.n],.int .i64 form] (.tup [.agg [.int .i64 (rF w v form).form,.int .i64 (rF w v form).n,.fz ((rF w v form).vals.map aG.enc),.fz ((rF w v form).frames.map aB.enc)],.bool (kA w v form)]):=by
 refine aL bIw rfl rfl ?_
 by_cases h5:v.kind=5
 ·have d1:decide (v.kind=5)=true:=decide_eq_true h5;have hi:=tV (w:=w) (k:= .i64) (en:=fun _=>none) (hv h5)
  by_cases h2:(w.obj v.n).form=form
  ·have d2:decide ((w.obj v.n).form=form)=true:=decide_eq_true h2;have e:kA w v form=true:=by simp only[kA,d1,d2,Bool.and_self]
   rw[rF,if_pos e,e];simp only[go_sem,qC,qG,qW,aHm,d1,d2,tV (hv h5)]
  ·have d2:decide ((w.obj v.n).form=form)=false:=decide_eq_false h2;have e:kA w v form=false:=by simp only[kA,d2,bWn]
   rw[rF,if_neg (by rw[e];decide),e]
   simp only[go_sem,qC,qG,qW,aHm,d1,d2,tV (hv h5),aYx,bVv]
 ·have d1:decide (v.kind=5)=false:=decide_eq_false h5;have e:kA w v form=false:=by simp only[kA,d1,bV5]
  rw[rF,if_neg (by rw[e];decide),e]
  simp only[go_sem,qC,qG,qW,aHm,d1,aYx,bVv]
theorem aTo {p:aQ}(hs:aT p=true){i:Int}(hi:inR i 0 ((p.nodes.length:Int)-1)=true):(p.node i).asks<=10:=by
 simp only[aT,bVc,bVo]at hs;have:=hs.2 _ (bV hi);simp only[fE,bVc,bYb]at this;unfold aJ.asks;split
 ·omega
 split
 ·omega
 split<;>omega
theorem aKc {p:aQ}{w:aC}{l:List aB}(hs:aT p=true)(h:bJ p w l=true):l.length<=40/\ ∀f∈l,f.env.length<=30/\ f.vals.length<=10:=by
 simp only[bJ,bVc,bYb,bVo]at h
 refine⟨by omega,fun f hf=>?_⟩
 have:=h.2 f hf;simp only[bD,aR,bVc,bYb]at this;obtain⟨⟨h1,h2,_⟩,h3,_⟩:=this;have:=aTo hs h1;omega
theorem aF9 {p:aQ}{w:aC}{o:aI}(h:dG p w o=true):o.vals.length<=30:=by
 have vs: ∀{l:List aG} {m:Int},aR p w l m=true->(l.length:Int)<=m:=fun h=>by
  simp only[aR,bVc,bYb]at h;exact h.1
 unfold dG at h
 split at h
 ·unfold hH at h
  split at h
  ·simp only[bVc]at h;have:=vs h.1.1.2;omega
  split at h
  ·simp only[bVc]at h;have:=vs h.2;omega
  split at h
  ·simp only[bVc,bYb]at h;omega
  ·cases h
 split at h
 ·simp only[bVc,bYb]at h;omega
 split at h
 ·cases h
 split at h
 ·simp only[bVc]at h;have:=vs h.2;omega
 split at h
 ·simp only[bVc]at h;have:=vs h.2;omega
 split at h
 ·simp only[bVc]at h;have:=vs h.2;omega
 split at h
 ·simp only[bVc]at h;have:=vs h.2;omega
 ·cases h
theorem aVj {p:aQ}{w:aC}{o:aI}(hs:aT p=true)(h:dG p w o=true):cZ o=true:=by
 have h1:=aF9 h;obtain⟨h2,h3⟩:=aKc hs (aCb h).2;simp only[cZ,bVc,bYb,bVo]
 refine⟨⟨by omega,by omega⟩,fun f hf=>?_⟩
 have:=h3 f hf;omega
theorem aBd {w:aC}(h:iJ w=true):w.tasks.length<=w.objs.length:=by
 simp only[iJ,bVc,bYb]at h;rw[h.1];exact List.countP_le_length
theorem aNa {p:aQ}{w:aC}(hs:aT p=true)(h:fY p w=true):bB w=true:=by
 obtain⟨a1,a2,a3,a4,a5,a6,a7⟩:=eN.1 h;have:=aBd a5;simp only[lV,bVc,bYb]at a3;simp only[bB,bVc,bYb,bVo];exact⟨⟨⟨⟨by omega,by omega⟩,by omega⟩,by omega⟩,fun o ho=>aVj hs (a6 o ho)⟩
theorem aH8 {w:aC}(h:bB w=true):w.few:=by
 simp only[bB,bVc,bYb,bVo]at h;obtain⟨⟨⟨⟨h1,h2⟩,h3⟩,h4⟩,h5⟩:=h
 refine⟨by unfold Few;omega,by unfold Few;omega,by unfold Few;omega,by unfold Few;omega,fun o ho=>?_⟩
 have:=h5 o ho;simp only[cZ,bVc,bYb,bVo]at this
 refine⟨by unfold Few;omega,by unfold Few;omega,fun f hf=>?_⟩
 have:=this.2 f hf;exact⟨by unfold Few;omega,by unfold Few;omega⟩
def fS (p:aQ)(a:Int):Nat->aC->aC×Nat×Bool
 |0,w=>if(dV p w a).what=0 then(w,1,false)else(w,0,true)
 |k+1,w=>if(dV p w a).what=0 then((fS p a k (dV p w a).w).1,(fS p a k (dV p w a).w).2.1+1,(fS p a k (dV p w a).w).2.2)else(w,0,true)
def jA (p:aQ):Nat->Nat->aC->Nat->aC×Nat×Bool
 |0,_,w,s=>(w,s,true)
 |n+1,a,w,s=>
  if a<w.tasks.length then
   (if(fS p a (5000-s) w).2.2=true then jA p n (a+1) (fS p a (5000-s) w).1 (s+(fS p a (5000-s) w).2.1)
   else((fS p a (5000-s) w).1,s+(fS p a (5000-s) w).2.1,false))
  else(w,s,true)
def iN (p:aQ)(w:aC)(s:Nat):aC×Nat×Bool:=jA p 121 0 w s
def oZ (p:aQ)(w:aC)(k:Nat):List Int:=((List.range k).filter fun(a:Nat)=>!decide ((dV p w a).what=2)).map fun(a:Nat)=>(a:Int)
def lZ (p:aQ)(w:aC):List Int:=oZ p w w.tasks.length
def nL (p:aQ)(w:aC)(pick:Int):aC×aO9×Nat×Int:=
 let r:=iN p w 0
 if r.2.2=false then(r.1,lA,0,8)
 else if lZ p r.1=[]then(r.1,lA,0,5)
 else
  let d:=dV p r.1 ((lZ p r.1).getD (pick%(lZ p r.1).length).toNat 0);let q:=iN p d.w (r.2.1+1)
  if q.2.2=false \/5000<q.2.1 then(q.1,lA,0,8)else(q.1,d.e,q.2.1,0)
section
variable {p :aQ}{w0 w:aC}{S:Nat->Prop}
theorem aVk (h:bQ p w0 S w):bQ p w (fun _=>True) w:=⟨h.ok,bVe _,fun _ _=>rfl,List.prefix_refl _,fun _ _ _ _ _ _=>trivial,fun _ _=>trivial,fun _ _=>trivial⟩
theorem aGa (hp:cF p)(h:bQ p w0 S w){a:Int}(ha:inR a 0 ((w.tasks.length:Int)-1)=true):w.tasks.length<=(dV p w a).w.tasks.length:=(tH hp (aVk h) ha).pre.length_le
theorem bKr {a:Int}{m n:Nat}(h:inR a 0 ((m:Int)-1)=true)(hl:m<=n):inR a 0 ((n:Int)-1)=true:=by
 simp only[inR,bYb]at h⊢;omega
theorem aGb (hp:cF p){a:Int}: ∀(k:Nat) {w:aC},bQ p w0 S w->inR a 0 ((w.tasks.length:Int)-1)=true->bQ p w0 S (fS p a k w).1
 |0,w,h,ha=>by unfold fS;split<;>exact h
 |k+1,w,h,ha=>by
  unfold fS;split
  ·exact aGb hp k (tH hp h ha) (bKr ha (aGa hp h ha))
  ·exact h
theorem aBe (hp:cF p): ∀(n:Nat) {a:Nat} {w:aC} {s:Nat},bQ p w0 S w->bQ p w0 S (jA p n a w s).1
 |0,_,_,_,h=>h
 |n+1,a,w,s,h=>by
  unfold jA;split
  ·rename_i ha;have ha:inR (a:Int) 0 ((w.tasks.length:Int)-1)=true:=by simp only[inR,bYb];omega
   have hi:=aGb hp (5000-s) h ha;split
   ·exact aBe hp n hi
   ·exact hi
  ·exact h
theorem xB (hp:cF p){s:Nat}(h:bQ p w0 S w):bQ p w0 S (iN p w s).1:=aBe hp 121 h
theorem aNb {w:aC}{x:Int}(h:x∈lZ p w):inR x 0 ((w.tasks.length:Int)-1)=true:=by
 obtain⟨i,hi,rfl⟩:=bV4.1 h;have:=bW4.1 (bW5.1 hi).1;simp only[inR,bYb];omega
theorem aTp {l:List Int}(h: ¬l=[])(pick:Int):(pick%l.length).toNat<l.length:=by
 have h0:0<l.length:=bX6.2 h;have h1:=Int.emod_nonneg pick (show(l.length:Int)≠0 by omega)
 have h2:=Int.emod_lt_of_pos pick (show 0<(l.length:Int)by omega)
 omega
theorem aVl (hp:cF p)(h:bQ p w0 S w)(pick:Int):bQ p w0 S (nL p w pick).1:=by
 have h1:=xB hp (s:=0) h;unfold nL
 simp only
 split
 ·exact h1
 split
 ·exact h1
 rename_i hl;have h2:=xB hp (s:=(iN p w 0).2.1+1) (tH hp h1 (aNb (lB (d:=0) (aTp hl pick))))
 split<;>exact h2
end
theorem xC {p:aQ}{a:Int}: ∀(k:Nat) (w:aC),(fS p a k w).2.1<=k+1/\ ((fS p a k w).2.2=true->(fS p a k w).2.1<=k)
 |0,w=>by unfold fS;split<;>simp
 |k+1,w=>by
  obtain⟨h1,h2⟩:=xC (p:=p) (a:=a) k (dV p w a).w;unfold fS;split
  ·exact⟨by simp only;omega,fun h=>by have:=h2 h;simp only;omega⟩
  ·simp
theorem yQ {p:aQ}: ∀(n:Nat) {a:Nat} {w:aC} {s:Nat},s<=5001->(jA p n a w s).2.1<=5002
 |0,_,_,_,h=>by show _<=_;simp only[jA];omega
 |n+1,a,w,s,h=>by
  obtain⟨h1,h2⟩:=xC (p:=p) (a:=a) (5000-s) w;unfold jA;split
  ·split
   ·rename_i hb;have:=h2 hb;exact yQ n (by omega)
   ·simp only;omega
  ·simp only;omega
theorem dI {p:aQ}{w0 w:aC}{S:Nat->Prop}{a:Int}(h:bQ p w0 S w)(ha:inR a 0 ((w.tasks.length:Int)-1)=true):Fit w a:=by
 obtain⟨a1,a2,a3,a4,a5,a6,a7⟩:=eN.1 h.ok;have:=aBd a5;simp only[lV,bVc,bYb]at a3;exact⟨⟨by omega,by omega,by omega,by omega⟩,ha,(h.task ha).1⟩
theorem uQ {p:aQ}{S:Nat->Prop}{w:aC}{v:aG}(h:VOk p S w v)(h5:v.kind=5):inR v.n 0 ((w.objs.length:Int)-1)=true:=by
 have h1:=h.ok;simp only[cJ,h5]at h1
 simpa using h1
def sM (p:aQ)(w:aC)(f v:aG):aB:=(oA p w f v).getD nZ
theorem aNc {p:aQ}{w0 w:aC}{S:Nat->Prop}{f v:aG}(hp:cF p)(h:bQ p w0 S w)(hf:VOk p S w f)(hv:VOk p S w v):
  PC L 188 [.agg [.fz (p.nodes.map aJ.enc),.fz (p.funs.map (.int .i64)),.int .i64 p.main,.fz (p.cons.map bC.enc)],.agg [.fz (w.objs.map aI.enc),.fz (w.tasks.map (.int .i64)),.fz (w.outs.map aO.enc),.fz (w.ins.map (.int .i64)),.int .i64 w.used],.agg [.int .i64 f.kind,.int .i64 f.n],.agg [.int .i64 v.kind,.int .i64 v.n]] (.tup [.agg [.int .i64 (sM p w f v).node,.fz ((sM p w f v).env.map aG.enc),.fz ((sM p w f v).vals.map aG.enc)],.bool (oA p w f v).isSome]):=by
 have hO:=nB w f 2 (uQ hf)
 refine aL bIx rfl rfl ?_
 by_cases h4:f.kind=4
 ·have d1:decide (f.kind=4)=true:=decide_eq_true h4;have hi:inR f.n 0 ((p.funs.length:Int)-1)=true:=by
   have h1:=hf.ok;simp only[cJ,h4]at h1
   simpa using h1
  have e:oA p w f v=some ⟨bEr p f.n,[v],[]⟩:=by unfold oA;rw[if_pos h4]
  rw[sM,e];simp only[go_sem,qC,qG,qW,aHn,d1]
  refine aN ?_
  simp only[go_sem,qC,qG,qW,sF hi,cX,bP,bVf,bVg,bVh,bVj,bVi,bVd,if_false];simp only[go_sem,qC,qG,qW,bEr,bV0,bXd,bVv,bV9]
 ·have d1:decide (f.kind=4)=false:=decide_eq_false h4
  by_cases h2:kA w f 2=true
  ·have e:oA p w f v=some ⟨uN (p.node (w.obj f.n).n) 0,(w.obj f.n).vals++[v],[]⟩:=by unfold oA;rw[if_neg h4,if_pos h2]
   obtain⟨a1,a2,a3,a4⟩:=jH h hf h2;have hk:=a2.ok;simp only[dG,a3]at hk
   simp at hk
   obtain⟨_,⟨b1,b2⟩,b3⟩:=hk;have hlen:=aF9 a2.ok;have hkk:=bS (hp.nodes _ (bV b1));rw[b2]at hkk;simp[fR]at hkk;have hk0:inR 0 0 (((p.node (w.obj f.n).n).kids.length:Int)-1)=true:=by simp only[inR,bYb];omega
   have hMo:=aA9 (w.obj f.n).vals v (by omega)
   rw[rF,if_pos h2,h2]at hO;rw[sM,e];simp only[go_sem,qC,qG,qW,aHn,d1,hO.ret]
   refine aN ?_
   simp only[go_sem,qC,qG,qW,bK b1,sF hk0,hMo.ret,bVf,bVg,bVh,bVj,bVi,bVd,if_false];simp only[go_sem,qC,qG,qW,uN,bV0,bXd,bVv,bV9]
  ·have e:oA p w f v=none:=by unfold oA;rw[if_neg h4,if_neg h2]
   rw[bWi]at h2;rw[h2]at hO;rw[sM,e];simp only[go_sem,qC,qG,qW,aHn,d1,hO.ret,bX4,bXg,nZ,bVv]
theorem rZ.later {en en1 en':En}{cnt cnt1 cnt':Nat->Nat->Nat}{w:aC}{tail:List Val}{x:Val}(h:rZ en1 cnt1 w tail x en' cnt')(h1: ∀t g,g<cnt 0 t->en1 ⟨0,t,g⟩=en ⟨0,t,g⟩)(h2: ∀t,cnt 0 t<=cnt1 0 t){g8:Nat}(hg:cnt 0 8<=g8)(hg':g8<cnt1 0 8)(Z:Option Ent):
  rZ en cnt w tail x (en'.set ⟨0,8,g8⟩ Z) cnt':=by
 obtain⟨⟨g5,g9,vU,vI,rfl,e5,l5,m5,e9,l9,m9,mU,mI⟩,old,up⟩:=h
 refine⟨⟨g5,g9,vU,vI,rfl,by simp only[go_sem,e5],bWd (h2 5) l5,m5,?_,bWd (h2 8) l9,m9,mU.keep (fun g _=>by simp only[go_sem,qW]) (bVe _),mI.keep (fun g _=>by simp only[go_sem,qW]) (bVe _)⟩,fun t g hg1=>?_,fun t=>bWd (h2 t) (up t)⟩
 ·rw[aPy (by omega)];exact e9
 ·rw[gR hg hg1,old t g (bWg hg1 (h2 t)),h1 t g hg1]
theorem aTq {w:aC}{a:Int}{o:aI}(hf:Fit w a)(h:w.objs.length<120):Fit (gZ w o) a:=by
 have hr:=hf.rng;have hl:=hf.len
 refine⟨?_,hf.at_,?_⟩
 ·rw[kL];exact⟨by omega,hl.2⟩
 ·rw[kL];show inR (iT w a) 0 _=true;simp only[inR,bYb]at hr⊢;omega
theorem aNd (w:aC)(a:Int)(left:List aB)(o:aI){c oa ob:Val}(hc:yP c (.fz (left.map aB.enc)))(ha:yP oa (.fz (o.vals.map aG.enc)))(hb:yP ob (.fz (o.frames.map aB.enc)))(hf:Fit w a){en:En}{cnt:Nat->Nat->Nat}:
  WIn L (.fn 159 [] []) [.agg [.fz (w.objs.map aI.enc),.fz (w.tasks.map (.int .i64)),.fz (w.outs.map aO.enc),.fz (w.ins.map (.int .i64)),.int .i64 w.used],.int .i64 a,c,.agg [.int .i64 o.form,.int .i64 o.n,oa,ob]] en cnt fun x en' cnt'=>
   ((120<=w.objs.length/\ x= .agg [.fz ((bG w a 4).w.objs.map aI.enc),.fz ((bG w a 4).w.tasks.map (.int .i64)),.fz ((bG w a 4).w.outs.map aO.enc),.fz ((bG w a 4).w.ins.map (.int .i64)),.int .i64 (bG w a 4).w.used,.int .i64 (bG w a 4).what,.int .i64 (bG w a 4).e.task,.int .i64 (bG w a 4).e.act,.int .i64 (bG w a 4).e.n,.int .i64 (bG w a 4).e.v.kind,.int .i64 (bG w a 4).e.v.n]/\ (∀t g,g<cnt 0 t->en' ⟨0,t,g⟩=en ⟨0,t,g⟩)/\ ∀t,cnt 0 t<=cnt' 0 t) \/(w.objs.length<120/\ rZ en cnt (bW (gZ w o) a left (nA w.objs.length)).w [.int .i64 0,.int .i64 0,.int .i64 0,.int .i64 0,.int .i64 0,.int .i64 0] x en' cnt')):=by
 have hF:=eH w a 4 hf;have hat:=hf.at_;have hrng:=hf.rng;simp only[inR,bYb]at hat hrng;obtain⟨g4,hg4⟩: ∃g,g=cnt 0 4:=⟨_,rfl⟩
 obtain⟨g7,hg7⟩: ∃g,g=cnt 0 7:=⟨_,rfl⟩
 obtain⟨g8,hg8⟩: ∃g,g=cnt 0 8:=⟨_,rfl⟩
 have up0: ∀t,cnt 0 t<=aP (aP (aP cnt 0 4 (g4+1)) 0 7 (g7+1)) 0 8 (g8+1) 0 t:=lY (lY (lY (fun _=>bVe _) hg4) hg7) hg8
 have oldS:=fun{e1:En} {x4 x7 x8:Option Ent} {t g:Nat} (hg:g<cnt 0 t)=>show((e1.set ⟨0,4,g4⟩ x4).set ⟨0,7,g7⟩ x7).set ⟨0,8,g8⟩ x8 ⟨0,t,g⟩=e1 ⟨0,t,g⟩by
  rw[gR (bWl hg8.symm) hg,gR (bWl hg7.symm) hg,gR (bWl hg4.symm) hg]
 refine mX bCm rfl rfl ?_
 by_cases h1:120<=w.objs.length
 ·have d1:decide ((120:Int)<=(w.objs.length:Int))=true:=decide_eq_true (by omega)
  simp only[go_sem,qC,qG,qW,aLm,<-hg4,<-hg7,<-hg8,ha.one,ha.cells,hb.one,hb.cells,d1,hF.ret]
  refine .inl ⟨h1,fun t g hg=>?_,up0⟩
  rw[gR (bWl hg8.symm) hg,oldS hg]
 ·have d1:decide ((120:Int)<=(w.objs.length:Int))=false:=decide_eq_false (by omega)
  have h1:w.objs.length<120:=by omega
  simp only[go_sem,qC,qG,qW,aLm,<-hg4,<-hg7,<-hg8,ha.one,ha.cells,hb.one,hb.cells,d1]
  refine(aBb w (by omega) (by omega) hf.len (wZ _ _ w)).mono ?_
  rintro x en1 cnt1 ⟨⟨g5,gT,vU,vI,rfl,e5,l5,m5,eT,lT,mT,mU,mI⟩,old,up⟩
  have e4:=old 4 g4 (by simp[aP])
  have e7:=old 7 g7 (by simp[aP])
  have e8:=old 8 g8 (by simp[aP])
  have hTne: ¬gT=g8:=by have:=lT;simp[aP]at this;omega
  try simp only[go_sem,qW]at e4 e7 e8
  obtain⟨g22,hg22⟩: ∃g,g=cnt1 0 22:=⟨_,rfl⟩
  have hw1:IntKind.i64.wrap (((w.objs.length+1:Nat):Int)-1)=(w.objs.length:Int):=by rw[bM (by omega)];omega
  have hl16:w.objs.length+1<=16777216:=by omega
  simp only[go_sem,qC,qG,qW,e4,e7,e8,e5,ha.snap,hb.snap,ha.wk,hb.wk,mU.shape.1,mU.shape.2,mI.shape.1,mI.shape.2,dA,bO,cW,gQ,uP,bCr,lP,bVk,hl16,bVe,<-hg22]
  refine aN ?_
  simp only[go_sem,qC,qG,qW,hw1,(aCd _).ret,bVf,bVg,bVh,bVj,bVi,bVd,if_false];have up2: ∀t,cnt 0 t<=aP cnt1 0 22 (g22+1) 0 t:=fun t=>bWd (up0 t) (bWd (up t) (lY (fun _=>bVe _) hg22 t))
  have hn5:cnt 0 5<=g5:=bWd (up0 5) l5;have hn22:cnt 0 22<=g22:=by rw[hg22];exact bWd (up0 22) (up 22)
  have lt8:g8<aP cnt1 0 22 (g22+1) 0 8:=bWg (show g8<aP (aP (aP cnt 0 4 (g4+1)) 0 7 (g7+1)) 0 8 (g8+1) 0 8 by simp[aP]) (bWd (up 8) (lY (fun _=>bVe _) hg22 8))
  refine(aM9 (gZ w o) a left (nA w.objs.length) hc (aTq hf h1) (vO:= .bl ⟨0,22,g22⟩ 0 (w.objs.length+1)) (vT:= .bl ⟨0,8,gT⟩ 0 w.tasks.length) (vU:=vU) (vI:=vI) (.inr ⟨g22,gT,by rw[kL],?_,by simp[aP],rfl,?_,?_,mU.keep (fun g _=>by simp only[go_sem,qW]) (lY (fun _=>bVe _) hg22 11),mI.keep (fun g _=>by simp only[go_sem,qW]) (lY (fun _=>bVe _) hg22 14)⟩)).mono ?_
  ·simp only[go_sem,qW,gZ,bVx]
  ·simp only[go_sem,qW,eT];rfl
  ·exact bWg mT (lY (fun _=>bVe _) hg22 8)
  ·intro x en2 cnt2 hO;have e8':=hO.old 8 g8 lt8
   try simp only[go_sem,qW,e8]at e8'
   have hO':=fun Z=>hO.later (en:=en) (cnt:=cnt) (g8:=g8) (fun t g hg=>by
    rw[gR (bWl hg4.symm) hg,gR (ga:=g22) (a:=22) hn22 hg,gR (ga:=g5) (a:=5) hn5 hg];rw[gR (bWl hg4.symm) hg,old t g (bWg hg (up0 t)),oldS hg]) up2 (bWl hg8.symm) lt8 Z
   obtain⟨⟨g5',g9,vU',vI',rfl,_⟩,_,_⟩:=hO;simp only[go_sem,qC,qG,qW,e8'];exact .inr ⟨h1,hO' _⟩
theorem aDv (w:aC)(a:Int)(left:List aB)(o:aI)(hf:Fit w a):PC L 159 [.agg [.fz (w.objs.map aI.enc),.fz (w.tasks.map (.int .i64)),.fz (w.outs.map aO.enc),.fz (w.ins.map (.int .i64)),.int .i64 w.used],.int .i64 a,.fz (left.map aB.enc),.agg [.int .i64 o.form,.int .i64 o.n,.fz (o.vals.map aG.enc),.fz (o.frames.map aB.enc)]] (.agg [.fz ((gP w a left o).w.objs.map aI.enc),.fz ((gP w a left o).w.tasks.map (.int .i64)),.fz ((gP w a left o).w.outs.map aO.enc),.fz ((gP w a left o).w.ins.map (.int .i64)),.int .i64 (gP w a left o).w.used,.int .i64 (gP w a left o).what,.int .i64 (gP w a left o).e.task,.int .i64 (gP w a left o).e.act,.int .i64 (gP w a left o).e.n,.int .i64 (gP w a left o).e.v.kind,.int .i64 (gP w a left o).e.v.n]):=by
 refine aCe bCm rfl rfl rfl ((aNd w a left o (pK _) (pK _) (pK _) hf).mono fun v en' cnt' h=>?_)
 rcases h with⟨h1,rfl,_,_⟩|⟨h1,h2⟩
 ·have e:gP w a left o=bG w a 4:=by unfold gP;rw[if_pos h1]
  rw[e];exact⟨_,_,by simp only[go_sem,qW];rfl,by simp only[go_sem,qW]⟩
 ·have e:gP w a left o=bW (gZ w o) a left (nA w.objs.length):=by unfold gP;rw[if_neg (by omega)]
  rw[e];exact h2.snapD (d:=bW (gZ w o) a left (nA w.objs.length))
variable {p :aQ}{w0 w:aC}{S:Nat->Prop}{a:Int}{left:List aB}
theorem aPd (hp:cF p)(h:bQ p w0 S w)(ha:inR a 0 ((w.tasks.length:Int)-1)=true)(hl:LOk p S w left){f v:aG}(hf:VOk p S w f)(hv:VOk p S w v):
  PC L 160 [.agg [.fz (p.nodes.map aJ.enc),.fz (p.funs.map (.int .i64)),.int .i64 p.main,.fz (p.cons.map bC.enc)],.agg [.fz (w.objs.map aI.enc),.fz (w.tasks.map (.int .i64)),.fz (w.outs.map aO.enc),.fz (w.ins.map (.int .i64)),.int .i64 w.used],.int .i64 a,.fz (left.map aB.enc),.agg [.int .i64 f.kind,.int .i64 f.n],.agg [.int .i64 v.kind,.int .i64 v.n]] (.agg [.fz ((eE p w a left f v).w.objs.map aI.enc),.fz ((eE p w a left f v).w.tasks.map (.int .i64)),.fz ((eE p w a left f v).w.outs.map aO.enc),.fz ((eE p w a left f v).w.ins.map (.int .i64)),.int .i64 (eE p w a left f v).w.used,.int .i64 (eE p w a left f v).what,.int .i64 (eE p w a left f v).e.task,.int .i64 (eE p w a left f v).e.act,.int .i64 (eE p w a left f v).e.n,.int .i64 (eE p w a left f v).e.v.kind,.int .i64 (eE p w a left f v).e.v.n]):=by
 have hfit:=dI h ha;have hO:=nB w f 5 (uQ hf);have hF4:=eH w a 4 hfit;have hF2:=eH w a 2 hfit;have hlen:=hl.len
 by_cases h5:kA w f 5=true
 ·obtain⟨_,a2,a3,_⟩:=jH h hf h5;have hk:=aCc a2 a3;have hkl:=hk.len;have hk0:0<(w.obj f.n).frames.length:=by
   have:=a2.ok;rw[dG,if_neg (by rw[a3];decide),if_pos a3]at this
   simp only[bVc,bYb]at this;omega
  rw[rF,if_pos h5,h5]at hO;have hB:=gW w a (left++(w.obj f.n).frames) v hfit;rw[bVx]at hB;have hl1:left.length<=16777216:=by omega
  have hl2:(w.obj f.n).frames.length<=16777216:=by omega
  have hl3:left.length+(w.obj f.n).frames.length<=16777216:=by omega
  have he2:(w.obj f.n).frames.isEmpty=false:=aF6 hk0;have e:eE p w a left f v=if 40<left.length+(w.obj f.n).frames.length then bG w a 4 else bW w a (left++(w.obj f.n).frames) v:=by
   unfold eE;rw[if_pos h5,bV7]
  rw[e]
  refine aL bCn rfl rfl ?_
  by_cases h40:40<left.length+(w.obj f.n).frames.length
  ·rw[if_pos h40];have d1:decide ((40:Int)<((left.length+(w.obj f.n).frames.length:Nat):Int))=true:=decide_eq_true (by omega)
   cases h0:left.isEmpty with
   |true=>
    have:left=[]:=by simpa using h0
    subst this;simp only[bWa,bWb]at d1;simp only[go_sem,qC,qG,qW,aAj,hO.ret]
    refine aN ?_
    simp only[go_sem,qC,qG,qW,cW,gQ,lD,gV,fG,he2,hl2,nJ,bVk,bVv,bVf,bVg,bVh,bVj,bVi,bVd,if_false];simp only[go_sem,qC,qG,qW,d1,hF4.ret]
   |false=>
    simp only[go_sem,qC,qG,qW,aAj,hO.ret]
    refine aN ?_
    simp only[go_sem,qC,qG,qW,cW,gQ,gV,uP,lP,fG,h0,he2,hl1,hl2,hl3,nJ,bVk,bVe,bVf,bVg,bVh,bVj,bVi,bVd,if_false];simp only[go_sem,qC,qG,qW,d1,hF4.ret]
  ·rw[if_neg h40];have d1:decide ((40:Int)<((left.length+(w.obj f.n).frames.length:Nat):Int))=false:=decide_eq_false (by omega)
   cases h0:left.isEmpty with
   |true=>
    have:left=[]:=by simpa using h0
    subst this;simp only[bWa,bWb]at d1;simp only[bVv,bWv]at hB⊢;simp only[go_sem,qC,qG,qW,aAj,hO.ret]
    refine aN ?_
    simp only[go_sem,qC,qG,qW,cW,gQ,lD,gV,fG,he2,hl2,nJ,bVk,bVv,bVf,bVg,bVh,bVj,bVi,bVd,if_false];simp only[go_sem,qC,qG,qW,d1,hB.ret,bVk,bVe,pZ]
   |false=>
    simp only[go_sem,qC,qG,qW,aAj,hO.ret]
    refine aN ?_
    simp only[go_sem,qC,qG,qW,cW,gQ,gV,uP,lP,fG,h0,he2,hl1,hl2,hl3,nJ,bVk,bVe,bVf,bVg,bVh,bVj,bVi,bVd,if_false];simp only[go_sem,qC,qG,qW,d1,hB.ret,bVk,bV7,bVe,bVw]
 ·have hB:=aNc hp h hf hv;rw[bWi]at h5;rw[h5]at hO
  refine aL bCn rfl rfl ?_
  cases hb:oA p w f v with
  |none=>
   have e:eE p w a left f v=bG w a 2:=by unfold eE;rw[if_neg (by rw[h5];decide),hb]
   rw[e];rw[hb]at hB;simp only[go_sem,qC,qG,qW,aAj,hO.ret,hB.ret,bXg,hF2.ret]
  |some b=>
   have e:eE p w a left f v=fB w a left b.node b.env:=by unfold eE;rw[if_neg (by rw[h5];decide),hb]
   rw[e];have hv:sM p w f v=b:=by rw[sM,hb];rfl
   rw[hb,hv]at hB;have hN:=xW w a left b.node b.env hfit (by omega)
   simp only[go_sem,qC,qG,qW,aAj,hO.ret,hB.ret,bXd,hN.ret]
theorem aBf (u v:aG):(decide (u.kind=v.kind)&&decide (u.n=v.n))=decide (u=v):=by
 cases u;cases v;simp only[aG.mk.injEq];rw[Bool.eq_iff_iff];simp
theorem aTr {v:aG}(h:VOk p S w v)(h1:v.kind=1): -1000000000<=v.n/\ v.n<=1000000000:=by
 have:=h.ok;rw[cJ,if_pos h1]at this
 simpa[inR]using this
theorem bEt {x y:Int}(hx: -1000000000<=x/\ x<=1000000000)(hy: -1000000000<=y/\ y<=1000000000): -1000000000000000000<=x*y/\ x*y<=1000000000000000000:=by
 have h1:x.natAbs<=1000000000:=by omega
 have h2:y.natAbs<=1000000000:=by omega
 have h3:(x*y).natAbs<=1000000000*1000000000:=by rw[Int.natAbs_mul];exact Nat.mul_le_mul h1 h2
 omega
theorem rG (h:bQ p w0 S w)(ha:inR a 0 ((w.tasks.length:Int)-1)=true){op:Int}{u v:aG}(hu:VOk p S w u)(hv:VOk p S w v)(ho:op=9 \/op=10 \/op=11 \/op=12 \/op=13):
  PC L 161 [.agg [.fz (w.objs.map aI.enc),.fz (w.tasks.map (.int .i64)),.fz (w.outs.map aO.enc),.fz (w.ins.map (.int .i64)),.int .i64 w.used],.int .i64 a,.fz (left.map aB.enc),.int .i64 op,.agg [.int .i64 u.kind,.int .i64 u.n],.agg [.int .i64 v.kind,.int .i64 v.n]] (.agg [.fz ((cD w a left op u v).w.objs.map aI.enc),.fz ((cD w a left op u v).w.tasks.map (.int .i64)),.fz ((cD w a left op u v).w.outs.map aO.enc),.fz ((cD w a left op u v).w.ins.map (.int .i64)),.int .i64 (cD w a left op u v).w.used,.int .i64 (cD w a left op u v).what,.int .i64 (cD w a left op u v).e.task,.int .i64 (cD w a left op u v).e.act,.int .i64 (cD w a left op u v).e.n,.int .i64 (cD w a left op u v).e.v.kind,.int .i64 (cD w a left op u v).e.v.n]):=by
 have hfit:=dI h ha;have hF2:=eH w a 2 hfit;have hF4:=eH w a 4 hfit;have hI:=kD (aF0 op u.n v.n) (-1000000000) 1000000000
 by_cases h13:op=13
 ·subst h13
  by_cases h1:u.kind=v.kind
  ·have d1:decide (u.kind=v.kind)=true:=decide_eq_true h1
   by_cases h3:3<u.kind
   ·have d3:decide (3<u.kind)=true:=decide_eq_true h3;have e:cD w a left 13 u v=bG w a 2:=by unfold cD;rw[if_pos rfl,if_pos (.inr h3)]
    rw[e]
    refine aL aC2 rfl rfl ?_
    simp only[go_sem,qC,qG,qW,vY,d1,d3,hF2.ret]
   ·have d3:decide (3<u.kind)=false:=decide_eq_false h3;have e:cD w a left 13 u v=bW w a left (rD (decide (u=v))):=by
     unfold cD;rw[if_pos rfl,if_neg (by rintro(h|h);exact h h1;exact h3 h)]
    rw[e];have hB:=gW w a left (rD (decide (u=v))) hfit
    refine aL aC2 rfl rfl ?_
    simp only[go_sem,qC,qG,qW,vY,d1,d3]
    refine aN ?_
    simp only[go_sem,qC,qG,qW,aBf,(aA8 _).ret,hB.ret,bVf,bVg,bVh,bVj,bVi,bVd,if_false]
  ·have d1:decide (u.kind=v.kind)=false:=decide_eq_false h1;have e:cD w a left 13 u v=bG w a 2:=by unfold cD;rw[if_pos rfl,if_pos (.inl h1)]
   rw[e]
   refine aL aC2 rfl rfl ?_
   simp only[go_sem,qC,qG,qW,vY,d1,hF2.ret]
 ·have d13:decide (op=13)=false:=decide_eq_false h13
  by_cases h1:u.kind=1
  ·have d1:decide (u.kind=1)=true:=decide_eq_true h1
   by_cases h2:v.kind=1
   ·have d2:decide (v.kind=1)=true:=decide_eq_true h2;have bu:=aTr hu h1;have bv:=aTr hv h2;have bm:=bEt bu bv
    by_cases h12:op=12
    ·subst h12;have e:cD w a left 12 u v=bW w a left (rD (decide (u.n<v.n))):=by
      unfold cD;rw[if_neg (by decide),if_neg (by rintro(h|h);exact h h1;exact h h2),if_pos rfl]
     rw[e];have hB:=gW w a left (rD (decide (u.n<v.n))) hfit
     refine aL aC2 rfl rfl ?_
     simp only[go_sem,qC,qG,qW,vY,d1,d2]
     refine aN ?_
     simp only[go_sem,qC,qG,qW,(aA8 _).ret,hB.ret,bVf,bVg,bVh,bVj,bVi,bVd,if_false]
    ·have d12:decide (op=12)=false:=decide_eq_false h12;have e:cD w a left op u v=if inR (aF0 op u.n v.n) (-1000000000) 1000000000=true then bW w a left (tG (aF0 op u.n v.n))else bG w a 4:=by
      unfold cD;rw[if_neg h13,if_neg (by rintro(h|h);exact h h1;exact h h2),if_neg h12]
     rw[e];have hB:=gW w a left (tG (aF0 op u.n v.n)) hfit;have ho':op=9 \/op=10 \/op=11:=by omega
     rcases ho' with rfl|rfl|rfl
     all_goals
      simp only[aF0]at hI hB⊢
      simp at hI hB⊢
      split
      ·rename_i hin;rw[hin]at hI
       refine aL aC2 rfl rfl ?_
       simp only[go_sem,qC,qG,qW,vY,d1,d2,bM (show-9223372036854775808<=u.n+v.n/\ u.n+v.n<=9223372036854775807 by omega),bM (show-9223372036854775808<=u.n-v.n/\ u.n-v.n<=9223372036854775807 by omega),bM (show-9223372036854775808<=u.n*v.n/\ u.n*v.n<=9223372036854775807 by omega),hI.ret]
       refine aN ?_
       simp only[go_sem,qC,qG,qW,(wY _).ret,hB.ret,bVf,bVg,bVh,bVj,bVi,bVd,if_false]
      ·rename_i hin;rw[bWi]at hin;rw[hin]at hI
       refine aL aC2 rfl rfl ?_
       simp only[go_sem,qC,qG,qW,vY,d1,d2,bM (show-9223372036854775808<=u.n+v.n/\ u.n+v.n<=9223372036854775807 by omega),bM (show-9223372036854775808<=u.n-v.n/\ u.n-v.n<=9223372036854775807 by omega),bM (show-9223372036854775808<=u.n*v.n/\ u.n*v.n<=9223372036854775807 by omega),hI.ret,hF4.ret]
   ·have d2:decide (v.kind=1)=false:=decide_eq_false h2;have e:cD w a left op u v=bG w a 2:=by unfold cD;rw[if_neg h13,if_pos (.inr h2)]
    rw[e]
    refine aL aC2 rfl rfl ?_
    simp only[go_sem,qC,qG,qW,vY,d13,d1,d2,hF2.ret]
  ·have d1:decide (u.kind=1)=false:=decide_eq_false h1;have e:cD w a left op u v=bG w a 2:=by unfold cD;rw[if_neg h13,if_pos (.inl h1)]
   rw[e]
   refine aL aC2 rfl rfl ?_
   simp only[go_sem,qC,qG,qW,vY,d13,d1,hF2.ret]
variable {p :aQ}{w0 w:aC}{S:Nat->Prop}{a:Int}{left:List aB}
def oF (w:aC)(ps:List Pat)(vs:List aG)(k:Nat):Option (List aG):=fQ w (ps.take k) (vs.take k)
theorem xD (w:aC): ∀(ps:List Pat) (vs:List aG) (q:Pat) (v:aG),ps.length=vs.length->fQ w (ps++[q]) (vs++[v])=(match fQ w ps vs with|none=>none|some l=>match jT w q v with|none=>none|some r=>some (l++r))
 |[],[],q,v,_=>by
  simp only[bWv,fQ];cases jT w q v<;>simp
 |[],_::_,_,_,h=>by cases h
 |_::_,[],_,_,h=>by cases h
 |x::ps,y::vs,q,v,h=>by
  simp only[bXe,fQ];rw[xD w ps vs q v (by simpa using h)]
  cases jT w x y with
  |none=>rfl
  |some l=>
   cases fQ w ps vs with
   |none=>rfl
   |some r=>
    cases jT w q v with
    |none=>rfl
    |some s=>simp[List.append_assoc]
theorem aKd {w:aC}{ps:List Pat}{vs:List aG}: ∀{k:Nat},ps.length=vs.length->oF w ps vs k=none->fQ w ps vs=none:=by
 intro k hl h;have key: ∀m,k<=m->oF w ps vs m=none:=by
  intro m
  induction m with
  |zero=>intro hk;have:k=0:=(by omega);rw[this]at h;exact h
  |succ m ih=>
   intro hk
   by_cases hm:k=m+1
   ·rw[<-hm];exact h
   ·have h1:=ih (by omega)
    by_cases hlt:m<ps.length
    ·unfold oF at h1⊢;rw[dE hlt,dE (show m<vs.length by omega),xD _ _ _ _ _ (by simp;omega),h1]
    ·unfold oF at h1⊢;rw[bVw (by omega),bVw (by omega)]
     rw[bVw (by omega),bVw (by omega)]at h1
     exact h1
 have:=key (max k ps.length) (by omega)
 unfold oF at this;rw[bVw (by omega),bVw (by omega)]at this
 exact this
theorem aKe {w:aC}{ps:List Pat}{vs:List aG}{k:Nat}(h1:k<ps.length)(h2:k<vs.length):oF w ps vs (k+1)=(match oF w ps vs k with|none=>none|some l=>match jT w ps[k] vs[k]with|none=>none|some r=>some (l++r)):=by
 unfold oF;rw[dE h1,dE h2,xD _ _ _ _ _ (by simp;omega)]
mutual
def rH :Pat->Nat
 | .mk _ _ _ ps=>1+gX ps
def gX :List Pat->Nat
 |[]=>0
 |q::ps=>rH q+gX ps
end
theorem xX (q:Pat):rH q=1+gX q.parts:=by cases q;rw[rH];rfl
theorem aDg : ∀(l:List Pat),l.length<=gX l
 |[]=>by simp[gX]
 |q::l=>by
  have:=aDg l;have:=xX q;simp only[bVu,gX];omega
theorem xE : ∀{l:List Pat} {q:Pat},q∈l->rH q<=gX l
 |x::l,q,h=>by
  rw[gX];rcases bWe.1 h with rfl|h
  ·omega
  ·have:=xE h;omega
theorem aBg : ∀(l:List Pat) (k:Nat),gX (l.take k)<=gX l
 |[],k=>by simp[gX]
 |q::l,0=>by simp[gX]
 |q::l,k+1=>by
  have:=aBg l k;simp only[List.take_succ_cons,gX];omega
mutual
theorem aCf {w:aC}: ∀(q:Pat) {v:aG} {l:List aG},jT w q v=some l->l.length<=rH q
 | .mk f n t ps,v,l,hm=>by
  unfold jT at hm;rw[rH]
  split at hm
  ·cases hm;simp
  split at hm
  ·cases hm;simp
  split at hm
  ·split at hm
   ·cases hm;simp
   ·cases hm
  split at hm
  ·split at hm
   ·cases hm;simp
   ·cases hm
  split at hm
  ·split at hm
   ·cases hm;simp
   ·cases hm
  split at hm
  ·have:=zR ps hm;omega
  ·cases hm
theorem zR {w:aC}: ∀(ps:List Pat) {vs l:List aG},fQ w ps vs=some l->l.length<=gX ps
 |[],vs,l,hm=>by
  simp only[fQ,bVb]at hm;subst hm;simp
 |q::ps,[],l,hm=>by
  simp only[fQ,bVb]at hm;subst hm;simp
 |q::ps,v::vs,l,hm=>by
  simp only[fQ]at hm
  split at hm
  ·cases hm
  rename_i l1 h1
  split at hm
  ·cases hm
  rename_i l2 h2;simp only[bVb]at hm;subst hm;have:=aCf q h1;have:=zR ps h2;simp only[bV7,gX];omega
end
theorem aNe : ∀(q:Pat) (n:Int),-1<=n->0<=nS q n->nS q n+rH q=n:=by
 intro q
 induction q using Pat.ind with
 |h p ih=>
  intro n hn h;rw[aFa]at h⊢;rw[xX];have key: ∀(l:List Pat),(∀q∈l,q∈p.parts)-> ∀m:Int,-1<=m->0<=hU l m->hU l m+gX l=m:=by
   intro l
   induction l with
   |nil=>intro _ m _ _;simp[hU,gX]
   |cons q l ihl=>
    intro hl m hm h0;rw[hU]at h0⊢
    by_cases h1:0<=m
    ·rw[if_pos h1]at h0⊢;have hw:=aFb q m (by omega)
     have h2:0<=nS q m:=by
      by_cases h3:0<=nS q m
      ·exact h3
      ·rw[zG (by omega)]at h0;exact absurd h0 h3
     have e1:=ih q (hl q (by simp)) m (by omega) h2
     have e2:=ihl (fun x hx=>hl x (by simp[hx])) (nS q m) (by omega) h0
     rw[gX];omega
    ·rw[if_neg h1]at h0;omega
  by_cases h1:n<1
  ·rw[if_pos h1]at h;omega
  ·rw[if_neg h1]at h⊢;have:=key p.parts (fun _ h=>h) (n-1) (by omega) h
   omega
def aKf (w:aC)(q:Pat)(v:aG):Val:= .tup [.fz (((jT w q v).getD []).map aG.enc),.bool (jT w q v).isSome]
theorem aVm (w:aC)(q:Pat)(v:aG):jT w q v=if q.form=1 then some []else if q.form=2 then some [v]else if q.form=3 then(if v=tG q.n then some []else none)else if q.form=4 then(if v=rD (decide (q.n=1))then some []else none)
  else if q.form=5 then(if v=eD then some []else none)else if kA w v 1=true/\ (w.obj v.n).n=q.n/\ (w.obj v.n).vals.length=q.parts.length then fQ w q.parts (w.obj v.n).vals else none:=by
 cases q;rw[jT];rfl
theorem aKg {α:Type}(c:Prop)[Decidable c]:((if c then some ([]:List α)else none).getD []=[])/\ (if c then some ([]:List α)else none).isSome=decide c:=by
 by_cases h:c<;>simp[h]
theorem aY4 (h:bQ p w0 S w): ∀(q:Pat),rH q<=1000-> ∀(v:aG),VOk p S w v->PC L 189 [.agg [.fz (w.objs.map aI.enc),.fz (w.tasks.map (.int .i64)),.fz (w.outs.map aO.enc),.fz (w.ins.map (.int .i64)),.int .i64 w.used],.agg [.int .i64 q.form,.int .i64 q.n,.str q.text,.fz (q.parts.map Pat.enc)],.agg [.int .i64 v.kind,.int .i64 v.n]] (aKf w q v):=by
 intro q
 induction q using Pat.ind with
 |h q ih=>
 intro hq v hv;have hO:=nB w v 1 (uQ hv);unfold aKf;rw[aVm]
 by_cases h1:q.form=1
 ·rw[if_pos h1]
  refine aL aAk rfl rfl ?_
  simp only[go_sem,qC,qG,qW,uT,h1,bV0,bXd]
 rw[if_neg h1];have d1:decide (q.form=1)=false:=decide_eq_false h1
 by_cases h2:q.form=2
 ·rw[if_pos h2]
  refine aL aAk rfl rfl ?_
  simp only[go_sem,qC,qG,qW,uT,h2,bV0,bXd]
 rw[if_neg h2];have d2:decide (q.form=2)=false:=decide_eq_false h2
 by_cases h3:q.form=3
 ·rw[if_pos h3]
  refine aL aAk rfl rfl ?_
  simp only[go_sem,qC,qG,qW,uT,h3]
  refine aN ?_
  simp only[go_sem,qC,qG,qW,(wY _).ret,aBf,aKg,bVf,bVg,bVh,bVj,bVi,bVd,if_false]
 rw[if_neg h3];have d3:decide (q.form=3)=false:=decide_eq_false h3
 by_cases h4:q.form=4
 ·rw[if_pos h4]
  refine aL aAk rfl rfl ?_
  simp only[go_sem,qC,qG,qW,uT,h4]
  refine aN ?_
  simp only[go_sem,qC,qG,qW,(aA8 _).ret,aBf,aKg,bVf,bVg,bVh,bVj,bVi,bVd,if_false]
 rw[if_neg h4];have d4:decide (q.form=4)=false:=decide_eq_false h4
 by_cases h5:q.form=5
 ·rw[if_pos h5]
  refine aL aAk rfl rfl ?_
  simp only[go_sem,qC,qG,qW,uT,h5]
  refine aN ?_
  simp only[go_sem,qC,qG,qW,iM.ret,aBf,aKg,bVf,bVg,bVh,bVj,bVi,bVd,if_false]
 rw[if_neg h5];have d5:decide (q.form=5)=false:=decide_eq_false h5
 by_cases hi:kA w v 1=true
 ·rw[rF,if_pos hi,hi]at hO
  by_cases hn:(w.obj v.n).n=q.n
  ·have dn:decide ((w.obj v.n).n=q.n)=true:=decide_eq_true hn
   by_cases hl:(w.obj v.n).vals.length=q.parts.length
   ·have dl:decide ((w.obj v.n).vals.length=q.parts.length)=true:=decide_eq_true hl;rw[if_pos ⟨hi,hn,hl⟩];obtain⟨_,a2,_,_⟩:=jH h hv hi
    refine aL aAk rfl rfl ?_
    simp only[go_sem,qC,qG,qW,uT,d1,d2,d3,d4,d5,hO.ret,dn,dl]
    refine bF q.parts.length (fun k st=> ∃fr en cnt vO l,st=⟨fr,en,cnt⟩/\ fr 3= .ptr ⟨0,3,0⟩ 0/\ en ⟨0,3,0⟩=some (.box [.fz (w.objs.map aI.enc),.fz (w.tasks.map (.int .i64)),.fz (w.outs.map aO.enc),.fz (w.ins.map (.int .i64)),.int .i64 w.used] false)/\ fr 4= .ptr ⟨0,4,0⟩ 0/\ en ⟨0,4,0⟩=some (.box [.int .i64 q.form,.int .i64 q.n,.str q.text,.fz (q.parts.map Pat.enc)] false)/\ fr 8= .ptr ⟨0,8,0⟩ 0/\ en ⟨0,8,0⟩=some (.box [.int .i64 (w.obj v.n).form,.int .i64 (w.obj v.n).n,.fz ((w.obj v.n).vals.map aG.enc),.fz ((w.obj v.n).frames.map aB.enc)] false)/\ fr 10=vO/\ fr 11= .int .i64 k/\
     oF w q.parts (w.obj v.n).vals k=some l/\ cE en vO 2 (l.map aG.enc) [92]) 0 (bVn _) ⟨_,_,_,.cl [],[],rfl,by simp only[go_sem,qW],by simp only[go_sem,qW],by simp only[go_sem,qW],by simp only[go_sem,qW],by simp only[go_sem,qW],by simp only[go_sem,qW],by simp only[go_sem,qW],by simp only[go_sem,qW],by simp[oF,fQ],cE.nil _ _⟩ ?_
    rintro k st hk ⟨fr,en,cnt,vO,l,rfl,k3,e3,k4,e4,k8,e8,k10,k11,hm,hv'⟩
    simp only[go_sem,qC,qG,qW,k3,e3,k4,e4,k8,e8,k10,k11]
    refine aA (fun hq2=>?_) (fun hq2=>?_)
    ·have h':k<q.parts.length:=of_decide_eq_true hq2;have h'':k<(w.obj v.n).vals.length:=by omega
     have hM:=ih q.parts[k] (bVp h') (by
      have:=xE (bVp h');rw[xX]at hq;omega) (w.obj v.n).vals[k] (a2.vals (bVp h''))
     have hst:=aKe (w:=w) h' h'';rw[hm]at hst;unfold aKf at hM;cases hx:jT w q.parts[k] (w.obj v.n).vals[k]with
     |none=>
      rw[hx]at hM hst;have hnone:=aKd hl.symm hst;rw[hnone];simp only[go_sem,qC,qG,qW,k3,e3,k4,e4,k8,e8,k10,k11,h',h'',hM.ret,bX4,bXg,bVv]
     |some r=>
      rw[hx]at hM hst;have hr:=aCf _ hx;have hr2:=xE (bVp h');have hl3:=zR _ hm;have hl4:=aBg q.parts k;have hlp:=aDg q.parts;rw[xX]at hq;simp only[go_sem,qC,qG,qW,k3,e3,k4,e4,k8,e8,k10,k11,h',h'',hM.ret,bV0,bXd]
      refine pF (D:=[92]) (xs:=l.map aG.enc) (ys:=r.map aG.enc) (rs:=[]) ?_ ?_ ?_ ?_ ?_
      ·simp only[go_sem,qW,k10];exact hv'
      ·simp only[go_sem,qW]
      ·exact aA7 r
      ·simp only[bVk];omega
      ·intro v' en' cnt' hown hen hcnt;have q3:en' ⟨0,3,0⟩=some (.box [.fz (w.objs.map aI.enc),.fz (w.tasks.map (.int .i64)),.fz (w.outs.map aO.enc),.fz (w.ins.map (.int .i64)),.int .i64 w.used] false):=by rw[hen 0 3 0 (.inr ⟨by decide,by simp⟩)];simp only[go_sem,qW,e3]
       have q4:en' ⟨0,4,0⟩=some (.box [.int .i64 q.form,.int .i64 q.n,.str q.text,.fz (q.parts.map Pat.enc)] false):=by rw[hen 0 4 0 (.inr ⟨by decide,by simp⟩)];simp only[go_sem,qW,e4]
       have q8:en' ⟨0,8,0⟩=some (.box [.int .i64 (w.obj v.n).form,.int .i64 (w.obj v.n).n,.fz ((w.obj v.n).vals.map aG.enc),.fz ((w.obj v.n).frames.map aB.enc)] false):=by rw[hen 0 8 0 (.inr ⟨by decide,by simp⟩)];simp only[go_sem,qW,e8]
       simp only[go_sem,qC,qG,qW,k3,q3,k4,q4,k8,q8,k11]
       refine⟨_,_,_,v',l++r,rfl,?_⟩
       simp only[go_sem,qC,qG,qW,k3,q3,k4,q4,k8,q8,k11,aK h' (show Few q.parts.length by unfold Few;omega)]
       refine⟨hst,?_⟩
       rw[bVx];exact hown.sub (by simp)
    ·have:k=q.parts.length:=by simp at hq2;omega
     subst this;have hfull:fQ w q.parts (w.obj v.n).vals=some l:=by
      unfold oF at hm;rw[bWf,<-hl,bWf]at hm;exact hm
     obtain⟨r1,ks,s1,_,s2,_⟩:=hv'.snap 6;rw[hfull];simp only[go_sem,qC,qG,qW,k3,e3,k4,e4,k8,e8,k10,k11,s1,s2,bV0,bXd]
   ·have dl:decide ((w.obj v.n).vals.length=q.parts.length)=false:=decide_eq_false hl;rw[if_neg (fun h=>hl h.2.2)]
    refine aL aAk rfl rfl ?_
    simp only[go_sem,qC,qG,qW,uT,d1,d2,d3,d4,d5,hO.ret,dn,dl,bX4,bXg]
  ·have dn:decide ((w.obj v.n).n=q.n)=false:=decide_eq_false hn;rw[if_neg (fun h=>hn h.2.1)]
   refine aL aAk rfl rfl ?_
   simp only[go_sem,qC,qG,qW,uT,d1,d2,d3,d4,d5,hO.ret,dn,bX4,bXg]
 ·rw[rF,if_neg hi]at hO;rw[if_neg (fun h=>hi h.1)]
  rw[bWi]at hi;rw[hi]at hO
  refine aL aAk rfl rfl ?_
  simp only[go_sem,qC,qG,qW,uT,d1,d2,d3,d4,d5,hO.ret,bX4,bXg]
theorem aPe {n:Nat}:cS n []=true:=(rfl)
theorem aKh {kids:List Int}{env:List aG}{u:aG}{l:List Pat}{k:Nat}(hk:k<l.length):lM w a left kids env u k (l.drop k)=(match jT w l[k] u with|some r=>fB w a left (kids.getD (1+k) 0) (env++r)|none=>lM w a left kids env u (k+1) (l.drop (k+1))):=by
 rw[bWc hk,lM];cases jT w l[k] u<;>rfl
theorem aPf (h:bQ p w0 S w)(ha:inR a 0 ((w.tasks.length:Int)-1)=true)(hl:LOk p S w left)(n:aJ)(env:List aG){u:aG}(hu:VOk p S w u)(he:env.length<=30)(hkl:1+n.pats.length<=n.kids.length)(hpc: ∀q∈n.pats,rH q<=1000)(hfew:n.kids.length<=1000):
  PC L 162 [.agg [.fz (w.objs.map aI.enc),.fz (w.tasks.map (.int .i64)),.fz (w.outs.map aO.enc),.fz (w.ins.map (.int .i64)),.int .i64 w.used],.int .i64 a,.fz (left.map aB.enc),.agg [.int .i64 n.op,.int .i64 n.n,.fz (n.kids.map (.int .i64)),.fz (n.pats.map Pat.enc)],.fz (env.map aG.enc),.agg [.int .i64 u.kind,.int .i64 u.n]] (.agg [.fz ((iL w a left n env u).w.objs.map aI.enc),.fz ((iL w a left n env u).w.tasks.map (.int .i64)),.fz ((iL w a left n env u).w.outs.map aO.enc),.fz ((iL w a left n env u).w.ins.map (.int .i64)),.int .i64 (iL w a left n env u).w.used,.int .i64 (iL w a left n env u).what,.int .i64 (iL w a left n env u).e.task,.int .i64 (iL w a left n env u).e.act,.int .i64 (iL w a left n env u).e.n,.int .i64 (iL w a left n env u).e.v.kind,.int .i64 (iL w a left n env u).e.v.n]):=by
 have hfit:=dI h ha;have hF:=eH w a 3 hfit;have hlen:=hl.len
 refine aL bIf rfl rfl ?_
 simp only[go_sem,qC,qG,qW,aQ2]
 refine bF n.pats.length (fun k st=> ∃fr en cnt,st=⟨fr,en,cnt⟩/\ fr 1= .int .i64 a/\ fr 2= .fz (left.map aB.enc)/\ fr 4= .fz (env.map aG.enc)/\ fr 6= .ptr ⟨0,6,0⟩ 0/\ en ⟨0,6,0⟩=some (.box [.fz (w.objs.map aI.enc),.fz (w.tasks.map (.int .i64)),.fz (w.outs.map aO.enc),.fz (w.ins.map (.int .i64)),.int .i64 w.used] false)/\ fr 9= .ptr ⟨0,9,0⟩ 0/\ en ⟨0,9,0⟩=some (.box [.int .i64 n.op,.int .i64 n.n,.fz (n.kids.map (.int .i64)),.fz (n.pats.map Pat.enc)] false)/\ fr 11= .ptr ⟨0,11,0⟩ 0/\ en ⟨0,11,0⟩=some (.box [.int .i64 u.kind,.int .i64 u.n] false)/\ fr 12= .ptr ⟨0,12,0⟩ 0/\ en ⟨0,12,0⟩=some (.box [.cl [],.cl [],.cl [],.cl [],.int .i64 0,.int .i64 0,.int .i64 0,.int .i64 0,.int .i64 0,.int .i64 0,.int .i64 0] false)/\ fr 13= .int .i64 k/\
  lM w a left n.kids env u k (n.pats.drop k)=iL w a left n env u) 0 (bVn _) ⟨_,_,_,rfl,by simp only[go_sem,qW],by simp only[go_sem,qW],by simp only[go_sem,qW],by simp only[go_sem,qW],by simp only[go_sem,qW],by simp only[go_sem,qW],by simp only[go_sem,qW],by simp only[go_sem,qW],by simp only[go_sem,qW],by simp only[go_sem,qW],by simp only[go_sem,qW],by simp only[go_sem,qW],by rw[List.drop_zero];rfl⟩ ?_
 rintro k st hk ⟨fr,en,cnt,rfl,k1,k2,k4,k6,e6,k9,e9,k11,e11,k12,e12,k13,hD⟩
 simp only[go_sem,qC,qG,qW,k1,k2,k4,k6,e6,k9,e9,k11,e11,k12,e12,k13]
 refine aA (fun hq2=>?_) (fun hq2=>?_)
 ·have h':k<n.pats.length:=of_decide_eq_true hq2;have hM:=aY4 h n.pats[k] (hpc _ (bVp h')) u hu;rw[aKh h']at hD;unfold aKf at hM;have hw1:IntKind.i64.wrap (1+(k:Int))=((1+k:Nat):Int):=by rw[bM (by omega)];omega
  have hki:1+k<n.kids.length:=by omega
  have hkg:n.kids.getD (1+k) 0=n.kids[1+k]:=by simp[bVm,hki]
  cases hx:jT w n.pats[k] u with
  |none=>
   rw[hx]at hM hD;simp only[go_sem,qC,qG,qW,k1,k2,k4,k6,e6,k9,e9,k11,e11,k12,e12,k13,h',hM.ret,bX4,bXg]
   refine⟨_,_,_,rfl,?_⟩
   simp only[go_sem,qC,qG,qW,k1,k2,k4,k6,e6,k9,e9,k11,e11,k12,e12,aK h' (show Few n.pats.length by unfold Few;omega)]
   exact hD
  |some r=>
   rw[hx]at hM hD;have hr:=aCf _ hx;have hpk:=hpc _ (bVp h');have hN:=xW w a left n.kids[1+k] (env++r) hfit (by omega)
   rw[bVx]at hN;rw[<-hD];have hl1:env.length<=16777216:=by omega
   have hl2:r.length<=16777216:=by omega
   have hl3:env.length+r.length<=16777216:=by omega
   simp only[go_sem,qC,qG,qW,k1,k2,k4,k6,e6,k9,e9,k11,e11,k12,e12,k13,h',hM.ret,bV0,bXd]
   refine aN ?_
   cases h0:env.isEmpty<;>cases h1:r.isEmpty
   all_goals
    try(have h0':env=[]:=(by simpa using h0);subst h0')
    try(have h1':r=[]:=(by simpa using h1);subst h1')
    try simp only[bVv,bWv,bWw]at hN
    simp only[go_sem,qC,qG,qW,k1,k2,k4,k6,e6,k9,e9,k11,e11,k12,e12,k13,h',hw1,hki,hkg,cW,gQ,lD,gV,uP,lP,fG,h0,h1,hl1,hl2,hl3,aA7,aPe,bVk,bV7,bWa,bWu,bWb,bWw,bVv,bWv,bVe,bVw,hN.ret,bVf,bVg,bVh,bVj,bVi,bVd,if_false]
 ·have:k=n.pats.length:=by simp at hq2;omega
  subst this;rw[bW8,lM]at hD;rw[<-hD];simp only[go_sem,qC,qG,qW,k1,k2,k4,k6,e6,k9,e9,k11,e11,k12,e12,k13,hF.ret]
variable {p :aQ}{w0 w:aC}{S:Nat->Prop}{a:Int}{left:List aB}
theorem aGc (v:aG):v.enc= .agg [.int .i64 v.kind,.int .i64 v.n]:=rfl
theorem bU {l:List aG}{en:En}(h:0<l.length):rJ 2 en (.fz (l.map aG.enc)) (.int .i64 0)=some {v:= .fp [.int .i64 (aW l 0).kind,.int .i64 (aW l 0).n] 0}:=
 yE (f:=aG.enc) (size:=2) (i:=0) mN (by simp only[inR,bYb];omega) fun _=>rfl
theorem pB {l:List aG}{en:En}(h:1<l.length):rJ 2 en (.fz (l.map aG.enc)) (.int .i64 1)=some {v:= .fp [.int .i64 (aW l 1).kind,.int .i64 (aW l 1).n] 0}:=
 yE (f:=aG.enc) (size:=2) (i:=1) mN (by simp only[inR,bYb];omega) fun _=>rfl
theorem aVn (h:bQ p w0 S w)(ha:inR a 0 ((w.tasks.length:Int)-1)=true){v:aG}(hv:VOk p S w v):
  PC L 166 [.agg [.fz (w.objs.map aI.enc),.fz (w.tasks.map (.int .i64)),.fz (w.outs.map aO.enc),.fz (w.ins.map (.int .i64)),.int .i64 w.used],.int .i64 a,.fz (left.map aB.enc),.agg [.int .i64 v.kind,.int .i64 v.n]] (.agg [.fz ((eL w a left v).w.objs.map aI.enc),.fz ((eL w a left v).w.tasks.map (.int .i64)),.fz ((eL w a left v).w.outs.map aO.enc),.fz ((eL w a left v).w.ins.map (.int .i64)),.int .i64 (eL w a left v).w.used,.int .i64 (eL w a left v).what,.int .i64 (eL w a left v).e.task,.int .i64 (eL w a left v).e.act,.int .i64 (eL w a left v).e.n,.int .i64 (eL w a left v).e.v.kind,.int .i64 (eL w a left v).e.v.n]):=by
 have hfit:=dI h ha;have hF:=eH w a 2 hfit;have hO:=nB w v 6 (uQ hv)
 by_cases h6:kA w v 6=true
 ·obtain⟨_,a2,a3,_⟩:=jH h hv h6;rw[rF,if_pos h6,h6]at hO;have hF3:=eH w a (w.obj v.n).n hfit
  by_cases h0:(w.obj v.n).n=0
  ·have d0:decide ((w.obj v.n).n=0)=true:=decide_eq_true h0;have e:eL w a left v=oB w:=by unfold eL;rw[if_pos h6,if_pos h0]
   rw[e]
   refine aL aS7 rfl rfl ?_
   simp only[go_sem,qC,qG,qW,aE4,hO.ret,d0,oB,lA,mN]
  ·have d0:decide ((w.obj v.n).n=0)=false:=decide_eq_false h0
   by_cases h1:(w.obj v.n).n=1
   ·have d1:decide ((w.obj v.n).n=1)=true:=decide_eq_true h1;have e:eL w a left v=dC (bW w a left (aW (w.obj v.n).vals 0)) a 20 0 (aW (w.obj v.n).vals 0):=by unfold eL;rw[if_pos h6,if_neg h0,if_neg (by rw[h1];decide)]
    rw[e];have hk:=a2.ok;rw[dG,if_pos a3,hH,if_neg h0,if_pos h1]at hk;simp only[bVc,bYb]at hk;have hB:=gW w a left (aW (w.obj v.n).vals 0) hfit;have hE:=kB (bW w a left (aW (w.obj v.n).vals 0)) a 20 0 (aW (w.obj v.n).vals 0)
    refine aL aS7 rfl rfl ?_
    simp only[go_sem,qC,qG,qW,aE4,hO.ret,d0,d1]
    refine aN ?_
    simp only[go_sem,qC,qG,qW,bU (l:=(w.obj v.n).vals) (by omega),hB.ret,hE.ret,bVf,bVg,bVh,bVj,bVi,bVd,if_false]
   ·have d1:decide ((w.obj v.n).n=1)=false:=decide_eq_false h1;have e:eL w a left v=bG w a (w.obj v.n).n:=by unfold eL;rw[if_pos h6,if_neg h0,if_pos h1]
    rw[e]
    refine aL aS7 rfl rfl ?_
    simp only[go_sem,qC,qG,qW,aE4,hO.ret,d0,d1,hF3.ret]
 ·have e:eL w a left v=bG w a 2:=by unfold eL;rw[if_neg h6]
  rw[e];rw[bWi]at h6;rw[h6]at hO
  refine aL aS7 rfl rfl ?_
  simp only[go_sem,qC,qG,qW,aE4,hO.ret,hF.ret]
theorem aKi {n:Int}{o:aI}(hf:Fit w a):Fit (fZ w n o) a:=by
 refine⟨?_,hf.at_,?_⟩
 ·rw[oC];exact hf.len
 ·rw[oC];exact hf.rng
theorem aCg (h:bQ p w0 S w)(ha:inR a 0 ((w.tasks.length:Int)-1)=true){op:Int}{l:List aG}(hv: ∀v∈l,VOk p S w v)(h0:0<l.length)(ho:op=16 \/op=17 \/op=18/\ 1<l.length):
  PC L 164 [.agg [.fz (w.objs.map aI.enc),.fz (w.tasks.map (.int .i64)),.fz (w.outs.map aO.enc),.fz (w.ins.map (.int .i64)),.int .i64 w.used],.int .i64 a,.fz (left.map aB.enc),.int .i64 op,.fz (l.map aG.enc)] (.agg [.fz ((eG w a left op l).w.objs.map aI.enc),.fz ((eG w a left op l).w.tasks.map (.int .i64)),.fz ((eG w a left op l).w.outs.map aO.enc),.fz ((eG w a left op l).w.ins.map (.int .i64)),.int .i64 (eG w a left op l).w.used,.int .i64 (eG w a left op l).what,.int .i64 (eG w a left op l).e.task,.int .i64 (eG w a left op l).e.act,.int .i64 (eG w a left op l).e.n,.int .i64 (eG w a left op l).e.v.kind,.int .i64 (eG w a left op l).e.v.n]):=by
 have hfit:=dI h ha;have hF:=eH w a 2 hfit;have hv0:=hv _ (cK h0);have hO:=nB w (aW l 0) 3 (uQ hv0)
 by_cases h16:op=16
 ·subst h16;have e:eG w a left 16 l=dC (gP w a left ⟨3,0,[aW l 0],[]⟩) a 16 0 (aW l 0):=by unfold eG;rw[if_pos rfl]
  rw[e];have hM:=aDv w a left ⟨3,0,[aW l 0],[]⟩ hfit;have hE:=kB (gP w a left ⟨3,0,[aW l 0],[]⟩) a 16 0 (aW l 0);simp only[bV9,bVv,aGc]at hM
  refine aL aS6 rfl rfl ?_
  simp only[go_sem,qC,qG,qW,aE3]
  refine aN ?_
  simp only[go_sem,qC,qG,qW,bU h0,cX,bP,hM.ret,hE.ret,bVf,bVg,bVh,bVj,bVi,bVd,if_false]
 ·have d16:decide (op=16)=false:=decide_eq_false h16
  by_cases h3:kA w (aW l 0) 3=true
  ·obtain⟨a1,a2,a3,_⟩:=jH h hv0 h3;rw[rF,if_pos h3,h3]at hO;have hk:=a2.ok;simp only[dG,a3]at hk
   simp at hk
   by_cases h17:op=17
   ·subst h17;have e:eG w a left 17 l=dC (bW w a left (aW (w.obj (aW l 0).n).vals 0)) a 17 0 (aW (w.obj (aW l 0).n).vals 0):=by
     unfold eG;rw[if_neg (by decide),if_pos h3,if_pos rfl]
    rw[e];have hB:=gW w a left (aW (w.obj (aW l 0).n).vals 0) hfit;have hE:=kB (bW w a left (aW (w.obj (aW l 0).n).vals 0)) a 17 0 (aW (w.obj (aW l 0).n).vals 0)
    refine aL aS6 rfl rfl ?_
    simp only[go_sem,qC,qG,qW,aE3]
    refine aN ?_
    simp only[go_sem,qC,qG,qW,bU h0,hO.ret,bVf,bVg,bVh,bVj,bVi,bVd,if_false]
    refine aN ?_
    simp only[go_sem,qC,qG,qW,bU (l:=(w.obj (aW l 0).n).vals) (by omega),hB.ret,hE.ret,bVf,bVg,bVh,bVj,bVi,bVd,if_false]
   ·have d17:decide (op=17)=false:=decide_eq_false h17;have h18:op=18:=by omega
    have hl1:1<l.length:=by omega
    subst h18;have e:eG w a left 18 l=dC (bW (fZ w (aW l 0).n ⟨3,0,[aW l 1],[]⟩) a left eD) a 18 0 (aW l 1):=by
     unfold eG;rw[if_neg (by decide),if_pos h3,if_neg (by decide)]
    rw[e];simp only[inR,bYb]at ha;have hS:=aF8 w (aW l 0).n ⟨3,0,[aW l 1],[]⟩ a1 (by omega) hfit.len
    have hB:=gW (fZ w (aW l 0).n ⟨3,0,[aW l 1],[]⟩) a left eD (aKi hfit);have hE:=kB (bW (fZ w (aW l 0).n ⟨3,0,[aW l 1],[]⟩) a left eD) a 18 0 (aW l 1);simp only[bV9,bVv,aGc]at hS
    refine aL aS6 rfl rfl ?_
    simp only[go_sem,qC,qG,qW,aE3]
    refine aN ?_
    simp only[go_sem,qC,qG,qW,bU h0,hO.ret,bVf,bVg,bVh,bVj,bVi,bVd,if_false]
    refine aN ?_
    simp only[go_sem,qC,qG,qW,bU h0,pB hl1,cX,bP,hS.ret,bVf,bVg,bVh,bVj,bVi,bVd,if_false]
    refine aN ?_
    simp only[go_sem,qC,qG,qW,bU h0,pB hl1,iM.ret,hB.ret,hE.ret,bVf,bVg,bVh,bVj,bVi,bVd,if_false]
  ·have e:eG w a left op l=bG w a 2:=by unfold eG;rw[if_neg h16,if_neg h3]
   rw[e];rw[bWi]at h3;rw[h3]at hO
   refine aL aS6 rfl rfl ?_
   simp only[go_sem,qC,qG,qW,aE3,d16]
   refine aN ?_
   simp only[go_sem,qC,qG,qW,bU h0,hO.ret,bVf,bVg,bVh,bVj,bVi,bVd,if_false];simp only[go_sem,qC,qG,qW,hF.ret]
theorem aH9 {en:En}{size:Nat}{xs:List Val}{k:IntKind}(h:1<=xs.length)(hs:cS size xs=true):lJ false size en (.fz xs) (some (.int k 1)) none none=some {v:= .fz (xs.drop 1)}:=aEw (i:=1) h hs
theorem aBh (h:bQ p w0 S w)(ha:inR a 0 ((w.tasks.length:Int)-1)=true){op:Int}{l:List aG}(hv: ∀v∈l,VOk p S w v)(h0:0<l.length)(ho:op=22/\ 1<l.length \/op=23):
  PC L 168 [.agg [.fz (w.objs.map aI.enc),.fz (w.tasks.map (.int .i64)),.fz (w.outs.map aO.enc),.fz (w.ins.map (.int .i64)),.int .i64 w.used],.int .i64 a,.fz (left.map aB.enc),.int .i64 op,.fz (l.map aG.enc)] (.agg [.fz ((bZ w a left op l).w.objs.map aI.enc),.fz ((bZ w a left op l).w.tasks.map (.int .i64)),.fz ((bZ w a left op l).w.outs.map aO.enc),.fz ((bZ w a left op l).w.ins.map (.int .i64)),.int .i64 (bZ w a left op l).w.used,.int .i64 (bZ w a left op l).what,.int .i64 (bZ w a left op l).e.task,.int .i64 (bZ w a left op l).e.act,.int .i64 (bZ w a left op l).e.n,.int .i64 (bZ w a left op l).e.v.kind,.int .i64 (bZ w a left op l).e.v.n]):=by
 have hfit:=dI h ha;have hF:=eH w a 2 hfit;have hv0:=hv _ (cK h0);have hO:=nB w (aW l 0) 4 (uQ hv0);have ht:0<w.tasks.length:=by simp only[inR,bYb]at ha;omega
 by_cases h3:kA w (aW l 0) 4=true
 ·obtain⟨a1,a2,a3,_⟩:=jH h hv0 h3;rw[rF,if_pos h3,h3]at hO;have hk:=a2.ok;simp only[dG,a3]at hk;simp[aR]at hk
  by_cases h22:op=22
  ·subst h22;have hl1:1<l.length:=by omega
   by_cases h4:4<=(w.obj (aW l 0).n).vals.length
   ·have d4:decide ((4:Int)<=((w.obj (aW l 0).n).vals.length:Int))=true:=decide_eq_true (by omega)
    have e:bZ w a left 22 l=oB w:=by unfold bZ;rw[if_pos h3,if_pos rfl,if_pos h4]
    rw[e]
    refine aL aLo rfl rfl ?_
    simp only[go_sem,qC,qG,qW,aC1]
    refine aN ?_
    simp only[go_sem,qC,qG,qW,bU h0,hO.ret,bVf,bVg,bVh,bVj,bVi,bVd,if_false];simp only[go_sem,qC,qG,qW,d4,oB,lA,mN]
   ·have d4:decide ((4:Int)<=((w.obj (aW l 0).n).vals.length:Int))=false:=decide_eq_false (by omega)
    have e:bZ w a left 22 l=dC (bW (fZ w (aW l 0).n ⟨4,0,(w.obj (aW l 0).n).vals++[aW l 1],[]⟩) a left eD) a 22 0 (aW l 1):=by
     unfold bZ;rw[if_pos h3,if_pos rfl,if_neg h4]
    rw[e];have hM:=aA9 (w.obj (aW l 0).n).vals (aW l 1) (by omega)
    have hS:=aF8 w (aW l 0).n ⟨4,0,(w.obj (aW l 0).n).vals++[aW l 1],[]⟩ a1 ht hfit.len;have hB:=gW (fZ w (aW l 0).n ⟨4,0,(w.obj (aW l 0).n).vals++[aW l 1],[]⟩) a left eD (aKi hfit);have hE:=kB (bW (fZ w (aW l 0).n ⟨4,0,(w.obj (aW l 0).n).vals++[aW l 1],[]⟩) a left eD) a 22 0 (aW l 1);simp only[bVv]at hS
    refine aL aLo rfl rfl ?_
    simp only[go_sem,qC,qG,qW,aC1]
    refine aN ?_
    simp only[go_sem,qC,qG,qW,bU h0,hO.ret,bVf,bVg,bVh,bVj,bVi,bVd,if_false];simp only[go_sem,qC,qG,qW,d4]
    refine aN ?_
    simp only[go_sem,qC,qG,qW,bU h0,pB hl1,hM.ret,hS.ret,bVf,bVg,bVh,bVj,bVi,bVd,if_false]
    refine aN ?_
    simp only[go_sem,qC,qG,qW,bU h0,pB hl1,iM.ret,hB.ret,hE.ret,bVf,bVg,bVh,bVj,bVi,bVd,if_false]
  ·have h23:op=23:=by omega
   subst h23
   by_cases hz:(w.obj (aW l 0).n).vals.length=0
   ·have dz:decide (((w.obj (aW l 0).n).vals.length:Int)=0)=true:=decide_eq_true (by omega)
    have e:bZ w a left 23 l=oB w:=by unfold bZ;rw[if_pos h3,if_neg (by decide),if_pos hz]
    rw[e]
    refine aL aLo rfl rfl ?_
    simp only[go_sem,qC,qG,qW,aC1]
    refine aN ?_
    simp only[go_sem,qC,qG,qW,bU h0,hO.ret,bVf,bVg,bVh,bVj,bVi,bVd,if_false];simp only[go_sem,qC,qG,qW,dz,oB,lA,mN]
   ·have dz:decide (((w.obj (aW l 0).n).vals.length:Int)=0)=false:=decide_eq_false (by omega)
    have e:bZ w a left 23 l=dC (bW (fZ w (aW l 0).n ⟨4,0,(w.obj (aW l 0).n).vals.drop 1,[]⟩) a left (aW (w.obj (aW l 0).n).vals 0)) a 23 0 (aW (w.obj (aW l 0).n).vals 0):=by
     unfold bZ;rw[if_pos h3,if_neg (by decide),if_neg hz]
    rw[e];have hS:=aF8 w (aW l 0).n ⟨4,0,(w.obj (aW l 0).n).vals.drop 1,[]⟩ a1 ht hfit.len;have hB:=gW (fZ w (aW l 0).n ⟨4,0,(w.obj (aW l 0).n).vals.drop 1,[]⟩) a left (aW (w.obj (aW l 0).n).vals 0) (aKi hfit);have hE:=kB (bW (fZ w (aW l 0).n ⟨4,0,(w.obj (aW l 0).n).vals.drop 1,[]⟩) a left (aW (w.obj (aW l 0).n).vals 0)) a 23 0 (aW (w.obj (aW l 0).n).vals 0);simp only[bVv]at hS;have hge:1<=(w.obj (aW l 0).n).vals.length:=by omega
    have hl16:((w.obj (aW l 0).n).vals.drop 1).length<=16777216:=by simp only[bXf];omega
    refine aL aLo rfl rfl ?_
    simp only[go_sem,qC,qG,qW,aC1]
    refine aN ?_
    simp only[go_sem,qC,qG,qW,bU h0,hO.ret,bVf,bVg,bVh,bVj,bVi,bVd,if_false];simp only[go_sem,qC,qG,qW,dz]
    refine aN ?_
    cases hd:((w.obj (aW l 0).n).vals.drop 1).isEmpty with
    |true=>
     have hd':(w.obj (aW l 0).n).vals.drop 1=[]:=by simpa using hd
     rw[hd']at hS hB hE⊢;simp only[bVv]at hS;simp only[go_sem,qC,qG,qW,bU h0,aH9,aA7,hge,cW,gQ,lD,<-List.map_drop,hd',bVv,cX,bP,hS.ret,bVf,bVg,bVh,bVj,bVi,bVd,if_false]
     refine aN ?_
     simp only[go_sem,qC,qG,qW,bU h0,bU (l:=(w.obj (aW l 0).n).vals) (by omega),hB.ret,hE.ret,bVf,bVg,bVh,bVj,bVi,bVd,if_false]
    |false=>
     generalize hgd:(w.obj (aW l 0).n).vals.drop 1=dl at*;simp only[go_sem,qC,qG,qW,bU h0,aH9,aA7,hge,cW,gQ,gV,<-List.map_drop,hgd,fG,hd,hl16,bVk,bVe,bVw,dA,bO,hS.ret,bVf,bVg,bVh,bVj,bVi,bVd,if_false]
     refine aN ?_
     simp only[go_sem,qC,qG,qW,bU h0,bU (l:=(w.obj (aW l 0).n).vals) (by omega),hB.ret,hE.ret,bVf,bVg,bVh,bVj,bVi,bVd,if_false]
 ·have e:bZ w a left op l=bG w a 2:=by unfold bZ;rw[if_neg h3]
  rw[e];rw[bWi]at h3;rw[h3]at hO
  refine aL aLo rfl rfl ?_
  simp only[go_sem,qC,qG,qW,aC1]
  refine aN ?_
  simp only[go_sem,qC,qG,qW,bU h0,hO.ret,bVf,bVg,bVh,bVj,bVi,bVd,if_false];simp only[go_sem,qC,qG,qW,hF.ret]
variable {p :aQ}{w0 w:aC}{S:Nat->Prop}{a:Int}{left:List aB}
theorem aIa {en:En}{size n:Nat}{k:Key}{kk:IntKind}(hn:1<=n):lJ false size en (.bl k 0 n) (some (.int kk 1)) none none=(match en k with
  |some (.blk sz _ _)=>if sz=size then some {v:= .bl k 1 (n-1),rs:=[.val k]}else none
  |_=>none):=by
 have hb:fI (some (.int kk 1)) 0 n=some 1:=aBu (i:=1) hn;simp only[lJ,vW,hb,bVd,if_false];cases en k with
 |none=>rfl
 |some e=>cases e<;>simp
theorem aY5 {outs:List aO}{ins:List Int}{used:Int}(hf:Fit w a)(h1:outs.length<=110)(h2:ins.length<=60):Fit ⟨w.objs,w.tasks,outs,ins,used⟩ a:=⟨⟨hf.len.1,hf.len.2.1,h1,h2⟩,hf.at_,hf.rng⟩
theorem aIb (x:Int)(l:List Int):(x::l).map (Val.int .i64)= .int .i64 x::l.map (.int .i64):=rfl
set_option maxHeartbeats 1600000 in
theorem aGd (h:bQ p w0 S w)(ha:inR a 0 ((w.tasks.length:Int)-1)=true)(n:aJ){l:List aG}(hv: ∀v∈l,VOk p S w v)(ho:n.op=25 \/n.op=24/\ 0<l.length):
  PC L 169 [.agg [.fz (w.objs.map aI.enc),.fz (w.tasks.map (.int .i64)),.fz (w.outs.map aO.enc),.fz (w.ins.map (.int .i64)),.int .i64 w.used],.int .i64 a,.fz (left.map aB.enc),.agg [.int .i64 n.op,.int .i64 n.n,.fz (n.kids.map (.int .i64)),.fz (n.pats.map Pat.enc)],.fz (l.map aG.enc)] (.agg [.fz ((cR w a left n.op n.n l).w.objs.map aI.enc),.fz ((cR w a left n.op n.n l).w.tasks.map (.int .i64)),.fz ((cR w a left n.op n.n l).w.outs.map aO.enc),.fz ((cR w a left n.op n.n l).w.ins.map (.int .i64)),.int .i64 (cR w a left n.op n.n l).w.used,.int .i64 (cR w a left n.op n.n l).what,.int .i64 (cR w a left n.op n.n l).e.task,.int .i64 (cR w a left n.op n.n l).e.act,.int .i64 (cR w a left n.op n.n l).e.n,.int .i64 (cR w a left n.op n.n l).e.v.kind,.int .i64 (cR w a left n.op n.n l).e.v.n]):=by
 have hfit:=dI h ha;have hF2:=eH w a 2 hfit;have hF4:=eH w a 4 hfit;obtain⟨b1,b2,b3,b4,b5,b6,b7⟩:=eN.1 h.ok;simp only[lV,bVc,bYb]at b3;simp only[inR,bYb]at b4;have hat:=hfit.at_;have hrng:=hfit.rng;simp only[inR,bYb]at hat hrng;have t1:((w.objs.map aI.enc).take w.objs.length)=w.objs.map aI.enc:=bVw (by simp)
 have t2:((w.tasks.map (Val.int .i64)).take w.tasks.length)=w.tasks.map (.int .i64):=bVw (by simp)
 have t3:((w.outs.map aO.enc).take w.outs.length)=w.outs.map aO.enc:=bVw (by simp)
 have t4:((w.ins.map (Val.int .i64)).take w.ins.length)=w.ins.map (.int .i64):=bVw (by simp)
 refine aL bIj rfl rfl ?_
 simp only[go_sem,qC,qG,qW,aQ5]
 refine(aBb w (by omega) (by omega) hfit.len (wZ _ _ w)).mono ?_
 rintro x en1 cnt1 ⟨⟨g5,g8,vU,vI,rfl,e5,l5,m5,e8,l8,m8,mU,mI⟩,old,up⟩
 have q5:=old 5 0 (by simp[aP])
 have q8:=old 8 0 (by simp[aP])
 have q10:=old 10 0 (by simp[aP])
 have n5: ¬g5=0:=by simp[aP]at l5;omega
 have n8: ¬g8=0:=by simp[aP]at l8;omega
 have n5': ¬0=g5:=by omega
 have n8': ¬0=g8:=by omega
 try simp only[go_sem,qW]at q5 q8 q10
 obtain⟨g11,hg11⟩: ∃g,g=cnt1 0 11:=⟨_,rfl⟩
 have eU:=True.intro;have eI:=True.intro;have nU:=True.intro
 by_cases h25:n.op=25
 ·rw[h25];cases hins:w.ins with
  |nil=>
   have e:cR w a left 25 n.n l=oB w:=by unfold cR;rw[if_pos rfl,hins]
   rw[e];rcases mI with⟨rfl,hi⟩|⟨gI,rfl,eI,lI,hi⟩
   ·rcases mU with⟨rfl,hu⟩|⟨gU,rfl,eU,lU,hu⟩
    all_goals simp only[go_sem,qC,qG,qW,q5,q8,q10,n5,n8,n5',n8',h25,cX,bP,dA,bO,e5,e8,eU,t1,t2,t3,bVk,bVe,oB,lA,mN,hu,hins,bVv]
   ·rw[hins]at hi;cases hi
  |cons x xs=>
   have hx:inR x (-1000000000) 1000000000=true:=by rw[hins]at b3;simp only[bVf,bVc]at b3;exact b3.2.1
   have hlx:xs.length+1<=50:=by rw[hins]at b3;have:=b3.1;simp only[bVu]at this;omega
   have hlen:w.ins.length=xs.length+1:=by rw[hins];rfl
   rcases mI with⟨rfl,hi⟩|⟨gI,rfl,eI,lI,hi⟩
   ·rw[hins]at hi;cases hi
   rw[hins,aIb]at eI;have tx:(xs.map (Val.int .i64)).take xs.length=xs.map (.int .i64):=bVw (by simp)
   have dpos:(0:Int)<((xs.length+1:Nat):Int):=by omega
   have di:decide (((xs.length+1:Nat):Int)=0)=false:=decide_eq_false (by omega)
   by_cases hus:1000000000<=w.used
   ·have du:decide ((1000000000:Int)<=w.used)=true:=decide_eq_true hus;have e:cR w a left 25 n.n l=bG w a 4:=by unfold cR;rw[if_pos rfl,hins];simp only;rw[if_pos hus]
    rw[e];rw[hins,aIb]at hF4;rcases mU with⟨rfl,hu⟩|⟨gU,rfl,eU,lU,hu⟩
    ·rw[hu]at hF4;simp only[go_sem,qC,qG,qW,q5,q8,q10,n5,n8,n5',n8',h25,cX,bP,dA,bO,e5,e8,eI,t1,t2,bVk,bVu,bVe,hlen,di,dpos,Int.le_refl,bVg,tx,(wY _).ret,<-hg11,du,hF4.ret]
    ·have nU: ¬gU=g11:=by omega
     simp only[go_sem,qC,qG,qW,q5,q8,q10,n5,n8,n5',n8',h25,cX,bP,dA,bO,e5,e8,eI,eU,nU,t1,t2,t3,bVk,bVu,bVe,hlen,di,dpos,Int.le_refl,bVg,tx,(wY _).ret,<-hg11,du,hF4.ret]
   ·have du:decide ((1000000000:Int)<=w.used)=false:=decide_eq_false hus;have e:cR w a left 25 n.n l=dC (bW ⟨w.objs,w.tasks,w.outs,xs,w.used+1⟩ a left (tG x)) a 25 0 (tG x):=by unfold cR;rw[if_pos rfl,hins];simp only;rw[if_neg hus]
    rw[e];have hwu:IntKind.i64.wrap (w.used+1)=w.used+1:=bM (by omega)
    have hB:=gW ⟨w.objs,w.tasks,w.outs,xs,w.used+1⟩ a left (tG x) (aY5 hfit (by omega) (by omega))
    have hE:=kB (bW ⟨w.objs,w.tasks,w.outs,xs,w.used+1⟩ a left (tG x)) a 25 0 (tG x);dsimp only at hB;have hx1:1<=xs.length+1:=by omega
    have hx2:xs.length+1-1=xs.length:=by omega
    have hx3:1+xs.length<=xs.length+1:=by omega
    have hx4:xs.length<=16777216:=by omega
    cases hxe:xs.isEmpty
    all_goals
     try(have hxe':xs=[]:=(by simpa using hxe);subst hxe')
     try simp only[bVv]at hB
     rcases mU with⟨rfl,hu⟩|⟨gU,rfl,eU,lU,hu⟩
     ·rw[hu]at hB;simp only[go_sem,qC,qG,qW,q5,q8,q10,n5,n8,n5',n8',h25,cX,bP,dA,bO,e5,e8,eI,t1,t2,bVk,bVu,bVe,hlen,di,dpos,Int.le_refl,bVg,tx,(wY _).ret,<-hg11,du]
      refine aN ?_
      simp only[go_sem,qC,qG,qW,q5,q8,q10,n5,n8,n5',n8',h25,cX,bP,dA,bO,e5,e8,eI,hx1,hx2,hx3,hx4,hxe,t1,t2,tx,aIa,aF7,cW,gQ,lD,gV,fG,aDu,bVk,bVu,bWa,bVe,hwu,bVv,bVf,bVg,bVh,bVj,bVi,bVd,if_false]
      refine aN ?_
      simp only[go_sem,qC,qG,qW,q5,q8,q10,n5,n8,n5',n8',h25,cX,bP,dA,bO,e5,e8,eI,hB.ret,hE.ret,t1,t2,tx,bVk,bVe,bVv,bVf,bVg,bVh,bVj,bVi,bVd,if_false]
     ·have nU: ¬gU=g11:=by omega
      have nU': ¬g11=gU:=by omega
      simp only[go_sem,qC,qG,qW,q5,q8,q10,n5,n8,n5',n8',h25,cX,bP,dA,bO,e5,e8,eI,eU,nU,nU',t1,t2,t3,bVk,bVu,bVe,hlen,di,dpos,Int.le_refl,bVg,tx,(wY _).ret,<-hg11,du]
      refine aN ?_
      simp only[go_sem,qC,qG,qW,q5,q8,q10,n5,n8,n5',n8',h25,cX,bP,dA,bO,e5,e8,eI,eU,nU,nU',hx1,hx2,hx3,hx4,hxe,t1,t2,t3,tx,aIa,aF7,cW,gQ,lD,gV,fG,aDu,bVk,bVu,bWa,bVe,hwu,bVv,bVf,bVg,bVh,bVj,bVi,bVd,if_false]
      refine aN ?_
      simp only[go_sem,qC,qG,qW,q5,q8,q10,n5,n8,n5',n8',h25,cX,bP,dA,bO,e5,e8,eI,eU,nU,nU',hB.ret,hE.ret,t1,t2,t3,tx,bVk,bVe,bVv,bVf,bVg,bVh,bVj,bVi,bVd,if_false]
 ·have h24:n.op=24:=by omega
  have h0:0<l.length:=by omega
  rw[h24]
  by_cases hk:(aW l 0).kind=1
  ·have dk:decide ((aW l 0).kind=1)=true:=decide_eq_true hk
   by_cases h100:100<=w.outs.length
   ·have d1:decide ((100:Int)<=(w.outs.length:Int))=true:=decide_eq_true (by omega)
    have e:cR w a left 24 n.n l=bG w a 4:=by unfold cR;rw[if_neg (by decide),if_neg (fun h=>h hk),if_pos h100]
    rw[e];rcases mU with⟨rfl,hu⟩|⟨gU,rfl,eU,lU,hu⟩
    ·have:w.outs=[]:=by simpa using hu
     rw[this]at h100;simp at h100
    ·rcases mI with⟨rfl,hi⟩|⟨gI,rfl,eI,lI,hi⟩
     ·rw[hi]at hF4;simp only[go_sem,qC,qG,qW,q5,q8,q10,n5,n8,n5',n8',h24,bU h0,dk,d1,cX,bP,dA,bO,e5,e8,eU,t1,t2,t3,bVk,bVe,hF4.ret]
     ·simp only[go_sem,qC,qG,qW,q5,q8,q10,n5,n8,n5',n8',h24,bU h0,dk,d1,cX,bP,dA,bO,e5,e8,eU,eI,t1,t2,t3,t4,bVk,bVe,hF4.ret]
   ·have e:cR w a left 24 n.n l=dC (bW ⟨w.objs,w.tasks,w.outs++[⟨n.n,(aW l 0).n⟩],w.ins,w.used⟩ a left eD) a 24 n.n (aW l 0):=by
     unfold cR;rw[if_neg (by decide),if_neg (fun h=>h hk),if_neg h100]
    rw[e];have hB:=gW ⟨w.objs,w.tasks,w.outs++[⟨n.n,(aW l 0).n⟩],w.ins,w.used⟩ a left eD (aY5 hfit (by simp only[bV7,bVu,bWa];omega) (by omega))
    have hE:=kB (bW ⟨w.objs,w.tasks,w.outs++[⟨n.n,(aW l 0).n⟩],w.ins,w.used⟩ a left eD) a 24 n.n (aW l 0);simp only[bVx,bV9,bVv,aO.enc]at hB;have hl1:w.outs.length+1<=16777216:=by omega
    rcases mU with⟨rfl,hu⟩|⟨gU,rfl,eU,lU,hu⟩
    ·have d1:decide ((100:Int)<=0)=false:=decide_eq_false (by omega)
     have hu':List.map (fun x:aO=>Val.agg [.int .i64 x.port,.int .i64 x.n]) w.outs=[]:=hu
     have hu2:w.outs=[]:=by simpa using hu
     rw[hu2]at hB hE⊢;simp only[bVv,bWv]at hB hE⊢;rcases mI with⟨rfl,hi⟩|⟨gI,rfl,eI,lI,hi⟩
     all_goals
      try rw[hi]at hB
      simp only[go_sem,qC,qG,qW,q5,q8,q10,n5,n8,n5',n8',h24,bU h0,dk,d1,cX,bP,dA,bO,e5,e8,eU,eI,t1,t2,t3,t4,bVk,bVe]
      refine aN ?_
      simp only[go_sem,qC,qG,qW,q5,q8,q10,n5,n8,n5',n8',h24,bU h0,dk,d1,cX,bP,dA,bO,e5,e8,eU,eI,t1,t2,t3,t4,bVk,bVe,cW,gQ,gV,List.isEmpty_cons,bCp,bVf,bVg,bVh,bVj,bVi,bVd,if_false]
      refine aN ?_
      simp only[go_sem,qC,qG,qW,q5,q8,q10,n5,n8,n5',n8',h24,bU h0,dk,d1,cX,bP,dA,bO,e5,e8,eU,eI,t1,t2,t3,t4,bVk,bVe,iM.ret,hB.ret,hE.ret,bVf,bVg,bVh,bVj,bVi,bVd,if_false]
    ·have d1:decide ((100:Int)<=(w.outs.length:Int))=false:=decide_eq_false (by omega)
     rcases mI with⟨rfl,hi⟩|⟨gI,rfl,eI,lI,hi⟩
     all_goals
      try rw[hi]at hB
      simp only[go_sem,qC,qG,qW,q5,q8,q10,n5,n8,n5',n8',h24,bU h0,dk,d1,cX,bP,dA,bO,e5,e8,eU,eI,t1,t2,t3,t4,bVk,bVe]
      refine aN ?_
      simp only[go_sem,qC,qG,qW,q5,q8,q10,n5,n8,n5',n8',h24,bU h0,dk,d1,cX,bP,dA,bO,e5,e8,eU,eI,t1,t2,t3,t4,bVk,bVe,hl1,cW,gQ,uP,lP,bV7,bXw,bCp,bVf,bVg,bVh,bVj,bVi,bVd,if_false]
      refine aN ?_
      simp only[go_sem,qC,qG,qW,q5,q8,q10,n5,n8,n5',n8',h24,bU h0,dk,d1,cX,bP,dA,bO,e5,e8,eU,eI,t1,t2,t3,t4,bVk,bVe,bV7,bXw,bVw,iM.ret,hB.ret,hE.ret,bVf,bVg,bVh,bVj,bVi,bVd,if_false]
  ·have dk:decide ((aW l 0).kind=1)=false:=decide_eq_false hk;have e:cR w a left 24 n.n l=bG w a 2:=by unfold cR;rw[if_neg (by decide),if_pos hk]
   rw[e];rcases mU with⟨rfl,hu⟩|⟨gU,rfl,eU,lU,hu⟩<;>rcases mI with⟨rfl,hi⟩|⟨gI,rfl,eI,lI,hi⟩
   all_goals
    try rw[hu]at hF2
    try rw[hi]at hF2
    simp only[go_sem,qC,qG,qW,q5,q8,q10,n5,n8,n5',n8',h24,bU h0,dk,cX,bP,dA,bO,e5,e8,eU,eI,t1,t2,t3,t4,bVk,bVe,hF2.ret]
end Go.Proofs.YthpmfghgoabnhaaGreat
