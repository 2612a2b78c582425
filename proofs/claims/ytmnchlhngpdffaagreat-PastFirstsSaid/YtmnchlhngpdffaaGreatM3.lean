/- Contracts of functions of the program and of the document: part 3. -/
import Derived.Test.YtmnchlhngpdffaaGreatM2
set_option linter.all false
open Bool renaming and_eq_true → bOx, and_true → bQ2, eq_iff_iff → bRd, false_eq_true → bO0, not_eq_true → bP6, not_eq_true' → bQb, true_and → bPr
open Int renaming eq_ofNat_of_zero_le → bP2, natCast_nonneg → bRg, toNat_natCast → bPz, toNat_of_nonneg → bSa
open List renaming all_cons → bQ7, all_eq_true → bO4, any_eq_true → bRy, append_nil → bPx, cons_append → bRa, countP_le_length → bR6, countP_pos_iff → bSb, drop_eq_getElem_cons → bPy, drop_length → bQt, drop_zero → bQ6, flatMap_nil → bQy, getD_eq_getElem?_getD → bO2, getElem?_append_left → bR3, getElem?_cons_zero → bRf, getElem?_eq_getElem → bP7, getElem?_set → bRl, getElem_mem → bO6, length_append → bPg, length_cons → bO7, length_drop → bRb, length_map → bOz, length_nil → bPe, length_pos_iff → bRv, length_set → bQ1, length_singleton → bRz, length_take → bQe, map_append → bQg, map_cons → bPw, map_drop → bRs, map_nil → bPf, map_take → bQs, mem_append → bPn, mem_append_left → bQ9, mem_append_right → bQ0, mem_cons → bP0, mem_cons_of_mem → bQz, mem_filter → bQi, mem_flatMap → bQa, mem_map → bPt, mem_of_mem_take → bRj, mem_or_eq_of_mem_set → bSg, mem_range → bPu, mem_singleton → bQf, nil_append → bP1, prefix_refl → bR0, take_length → bQp, take_of_length_le → bPi, take_succ_cons → bO5
open Nat renaming add_zero → bQh, le_of_eq → bQd, le_refl → bOy, le_trans → bPb, lt_of_lt_of_le → bPo, zero_add → bPs, zero_le → bO8
open Option renaming getD_none → bR8, getD_some → bPp, isSome_none → bQ3, isSome_some → bQu
open Option.some renaming injEq → bOw
namespace Go.Proofs.YtmnchlhngpdffaaGreat
open Go.Abs Go.Proofs
theorem aSv {hi:Int}: ∀(evs:List (Int×Int)) {u u':List Bool},rP hi u evs=some u'-> ∀e∈evs,inR e.2 e.1 hi=true
 |[],_,_,_=>fun e he=>by cases he
 |(lo,x)::evs,u,u',h=>by
  simp only[rP]at h
  split at h
  ·rename_i hc;simp only[bOx]at hc;intro e he;rcases bP0.1 he with rfl|he
   ·exact hc.1
   ·exact aSv evs h e he
  ·cases h
theorem bBm : ∀(l:List aJ) (i:Nat) {n:aJ} {k:Int},n∈l->k∈n.kids-> ∃e∈kR i l,e.2=k/\ 0<=e.1
 |[],_,_,_,h,_=>by cases h
 |m::l,i,n,k,h,hk=>by
  simp only[kR,bPn,bPt];rcases bP0.1 h with rfl|h
  ·exact⟨_,.inl ⟨k,hk,rfl⟩,rfl,by simp only;omega⟩
  ·obtain⟨e,he,h1,h2⟩:=bBm l (i+1) h hk;exact⟨e,.inr he,h1,h2⟩
structure eH (p:aF):Prop where
 nodes: ∀n∈p.nodes,eL p n=true
 kids: ∀n∈p.nodes,∀k∈n.kids,inR k 0 ((p.nodes.length:Int)-1)=true
 funs: ∀k∈p.funs,inR k 0 ((p.nodes.length:Int)-1)=true
 cons: ∀c∈p.cons,inR c.args 0 3=true
 main:inR p.main 0 ((p.funs.length:Int)-1)=true
variable {p:aF}
theorem pL (h:fG p=true):eH p:=by
 simp only[fG,bOx,bSi]at h;obtain⟨⟨⟨⟨_,_⟩,hm⟩,hc⟩,h⟩:=h;simp only[aPe,vR]at h
 by_cases hn:p.nodes.all (eL p)=true
 ·simp only[hn,if_true]at h;rw[<-sP]at h;have hs: ∃u',rP (↑p.nodes.length-1) (List.replicate p.nodes.length false) (List.map (fun x=>((0:Int),x)) p.funs++kR 0 p.nodes)=some u':=by
   cases he:rP (↑p.nodes.length-1) (List.replicate p.nodes.length false) (List.map (fun x=>((0:Int),x)) p.funs++kR 0 p.nodes)with
   |some u=>exact⟨u,rfl⟩
   |none=>rw[he]at h;cases h
  obtain⟨u',hu⟩:=hs;have hin:=aSv _ hu
  refine⟨bO4.1 hn,fun n hn k hk=>?_,fun k hk=>?_,fun c hc'=>?_,hm⟩
  ·obtain⟨e,he,h1,h2⟩:=bBm p.nodes 0 hn hk;have:=hin e (bQ0 _ he);rw[h1]at this;simp only[inR,bSi]at this⊢;omega
  ·exact hin (0,k) (bQ9 _ (bPt.2 ⟨k,hk,rfl⟩))
  ·simp only[yK,bOx]at hc;have:=bO4.1 hc.1.1 c hc';simp only[vQ,bOx]at this;exact this.2
 ·simp only[hn,if_false,bO0]at h;cases he:rP (↑p.nodes.length-1) (List.replicate p.nodes.length false) (List.map (fun x=>((0:Int),x)) p.funs)with
  |none=>rw[he]at h;cases h
  |some u=>rw[he]at h;cases h
variable {i:Int}
theorem iK (h:inR i 0 ((p.nodes.length:Int)-1)=true):p.node i∈p.nodes:=by
 simp only[inR,bSi]at h;have hj:i.toNat<p.nodes.length:=by omega
 simp only[aF.node,bO2,bP7 hj,bPp];exact bO6 hj
theorem mF {α:Type}{l:List α}{i:Nat}{d:α}(h:i<l.length):l.getD i d∈l:=by
 simp only[bO2,bP7 h,bPp];exact bO6 h
def mV (o:aR):List aD:=o.vals++o.frames.flatMap fun f=>f.env++f.vals
variable {v:aD}{w w':aA}
theorem aSw (h:w.objs.length<=w'.objs.length)(hv:dJ p w v=true):dJ p w' v=true:=by
 unfold dJ at hv⊢;split
 ·rename_i h1;rw[if_pos h1]at hv;exact hv
 rename_i h1;rw[if_neg h1]at hv;split
 ·rename_i h2;rw[if_pos h2]at hv;exact hv
 rename_i h2;rw[if_neg h2]at hv;split
 ·rename_i h3;rw[if_pos h3]at hv;exact hv
 rename_i h3;rw[if_neg h3]at hv;split
 ·rename_i h4;rw[if_pos h4]at hv;exact hv
 rename_i h4;rw[if_neg h4]at hv;split
 ·rename_i h5;rw[if_pos h5]at hv;simp only[inR,bSi]at hv⊢;omega
 ·rename_i h5;rw[if_neg h5]at hv;exact hv
theorem pM {l:List aD}{m:Int}(h:w.objs.length<=w'.objs.length)(hv:bE p w l m=true):bE p w' l m=true:=by
 simp only[bE,bOx,bO4]at hv⊢;exact⟨hv.1,fun v hm=>aSw h (hv.2 v hm)⟩
variable {f:aB}
theorem aSx (h:w.objs.length<=w'.objs.length)(hv:dH p w f=true):dH p w' f=true:=by
 simp only[dH,bOx]at hv⊢;exact⟨⟨hv.1.1,pM h hv.1.2⟩,pM h hv.2⟩
theorem aNn {l:List aB}(h:w.objs.length<=w'.objs.length)(hv:bV p w l=true):bV p w' l=true:=by
 simp only[bV,bOx,bO4]at hv⊢;exact⟨hv.1,fun f hm=>aSx h (hv.2 f hm)⟩
theorem aA7 {o:aR}(h:w.objs.length<=w'.objs.length)(hv:dK p w o=true):dK p w' o=true:=by
 unfold dK at hv⊢;split
 ·rename_i h0;rw[if_pos h0]at hv;unfold jN at hv⊢;split
  ·rename_i h1;rw[if_pos h1]at hv;simp only[bOx]at hv⊢;exact⟨⟨⟨aNn h hv.1.1.1,pM h hv.1.1.2⟩,hv.1.2⟩,hv.2⟩
  rename_i h1;rw[if_neg h1]at hv;split
  ·rename_i h2;rw[if_pos h2]at hv;simp only[bOx]at hv⊢;exact⟨hv.1,pM h hv.2⟩
  ·rename_i h2;rw[if_neg h2]at hv;exact hv
 rename_i h0;rw[if_neg h0]at hv;split
 ·rename_i h1;rw[if_pos h1]at hv;simp only[bOx]at hv⊢;exact⟨⟨⟨hv.1.1.1,aNn h hv.1.1.2⟩,hv.1.2⟩,hv.2⟩
 rename_i h1;rw[if_neg h1]at hv;split
 ·rename_i h2;rw[if_pos h2]at hv;exact hv
 rename_i h2;rw[if_neg h2]at hv;split
 ·rename_i h3;rw[if_pos h3]at hv;simp only[bOx]at hv⊢;exact⟨hv.1,pM h hv.2⟩
 rename_i h3;rw[if_neg h3]at hv;split
 ·rename_i h4;rw[if_pos h4]at hv;simp only[bOx]at hv⊢;exact⟨hv.1,pM h hv.2⟩
 rename_i h4;rw[if_neg h4]at hv;split
 ·rename_i h5;rw[if_pos h5]at hv;simp only[bOx]at hv⊢;exact⟨hv.1,pM h hv.2⟩
 rename_i h5;rw[if_neg h5]at hv;split
 ·rename_i h6;rw[if_pos h6]at hv;simp only[bOx]at hv⊢;exact⟨hv.1,pM h hv.2⟩
 ·rename_i h6;rw[if_neg h6]at hv;exact hv
theorem aB5 {o:aR}(hv:dK p w o=true):(∀v∈o.vals,dJ p w v=true)/\ bV p w o.frames=true:=by
 have vs: ∀{l:List aD} {m:Int},bE p w l m=true-> ∀v∈l,dJ p w v=true:=fun h=>by
  simp only[bE,bOx,bO4]at h;exact h.2
 have none_: ∀{l:List aB},(l.length:Int)=0->bV p w l=true:=fun h=>by
  have h:=List.eq_nil_of_length_eq_zero (Int.ofNat_eq_zero.1 h);subst h;simp[bV]
 have nov: ∀{l:List aD},(l.length:Int)=0-> ∀v∈l,dJ p w v=true:=fun h=>by
  have h:=List.eq_nil_of_length_eq_zero (Int.ofNat_eq_zero.1 h);subst h;simp
 unfold dK at hv
 split at hv
 ·unfold jN at hv
  split at hv
  ·simp only[bOx]at hv;exact⟨vs hv.1.1.2,hv.1.1.1⟩
  split at hv
  ·simp only[bOx,bSi]at hv;exact⟨vs hv.2,none_ hv.1.1⟩
  split at hv
  ·simp only[bOx,bSi]at hv;exact⟨nov hv.2,none_ hv.1⟩
  ·cases hv
 split at hv
 ·simp only[bOx,bSi]at hv;exact⟨nov hv.1.1.1.1.2,hv.1.1.2⟩
 split at hv
 ·cases hv
 rename_i hz;have hz:=none_ (Decidable.not_not.1 hz)
 split at hv
 ·simp only[bOx]at hv;exact⟨vs hv.2,hz⟩
 split at hv
 ·simp only[bOx]at hv;exact⟨vs hv.2,hz⟩
 split at hv
 ·simp only[bOx]at hv;exact⟨vs hv.2,hz⟩
 split at hv
 ·simp only[bOx]at hv;exact⟨vs hv.2,hz⟩
 ·cases hv
theorem nE {w w':aA}(hl:w.objs.length<=w'.objs.length)(hk: ∀k,inR k 0 ((w.objs.length:Int)-1)=true->cW (w'.obj k)=cW (w.obj k)): ∀(l met:List Int),bP w met l=true->bP w' met l=true
 |[],_,_=>rfl
 |k::l,met,h=>by
  simp only[bP,bOx]at h⊢;obtain⟨⟨⟨h1,h2⟩,h3⟩,h4⟩:=h
  refine⟨⟨⟨?_,by rw[hk k h1];exact h2⟩,h3⟩,nE hl hk l _ h4⟩
  simp only[inR,bSi]at h1⊢;omega
theorem aFd {w:aA}{k:Int}(h1:inR k 0 ((w.objs.length:Int)-1)=true)(h2:cW (w.obj k)=true): ∀(l met:List Int),bP w met l=true->k∉met->k∉l->bP w met (l++[k])=true
 |[],met,_,hm,_=>by
  simp only[bP1,bP,h1,h2,bQ2,bPr,bQb,<-bP6,bRy,bSi]
  rintro⟨x,hx,rfl⟩
  exact hm hx
 |x::l,met,h,hm,hl=>by
  simp only[bRa,bP,bOx]at h⊢
  refine⟨h.1,aFd h1 h2 l _ h.2 (fun hc=>?_) (fun hc=>hl (bQz _ hc))⟩
  rcases bPn.1 hc with hc|hc
  ·exact hm hc
  ·simp only[bQf]at hc;exact hl (by rw[hc];simp)
theorem lE {w:aA}: ∀(l met:List Int),bP w met l=true-> ∀k∈l,inR k 0 ((w.objs.length:Int)-1)=true/\ cW (w.obj k)=true
 |[],_,_=>fun k hk=>by cases hk
 |x::l,met,h=>by
  simp only[bP,bOx]at h;intro k hk;rcases bP0.1 hk with rfl|hk
  ·exact⟨h.1.1.1,h.1.1.2⟩
  ·exact lE l _ h.2 k hk
structure cP (p:aF) (w0:aA) (S:Nat->Prop) (w:aA):Prop where
 ok:cX p w=true
 le:w0.objs.length<=w.objs.length
 form: ∀i:Nat,i<w0.objs.length->(w.obj i).form=(w0.obj i).form
 pre:w0.tasks<+:w.tasks
 shut: ∀i:Nat,i<w.objs.length->S i-> ∀v∈mV (w.obj i),v.kind=5->S v.n.toNat
 ts: ∀t∈w.tasks,S t.toNat
 new: ∀i,w0.objs.length<=i->S i
structure VOk (p:aF) (S:Nat->Prop) (w:aA) (v:aD):Prop where
 ok:dJ p w v=true
 ref:v.kind=5->S v.n.toNat
structure OOk (p:aF) (S:Nat->Prop) (w:aA) (o:aR):Prop where
 ok:dK p w o=true
 ref: ∀v∈mV o,v.kind=5->S v.n.toNat
structure FOk (p:aF) (S:Nat->Prop) (w:aA) (f:aB):Prop where
 ok:dH p w f=true
 ref: ∀v∈f.env++f.vals,v.kind=5->S v.n.toNat
variable {w0:aA}{S:Nat->Prop}
theorem VOk.le (h:VOk p S w v)(hl:w.objs.length<=w'.objs.length):VOk p S w' v:=⟨aSw hl h.ok,h.ref⟩
theorem OOk.le {o:aR}(h:OOk p S w o)(hl:w.objs.length<=w'.objs.length):OOk p S w' o:=⟨aA7 hl h.ok,h.ref⟩
theorem FOk.le (h:FOk p S w f)(hl:w.objs.length<=w'.objs.length):FOk p S w' f:=⟨aSx hl h.ok,h.ref⟩
theorem FOk.env (h:FOk p S w f)(hv:v∈f.env):VOk p S w v:=by
 have:=h.ok;simp only[dH,bE,bOx,bO4]at this;exact⟨this.1.2.2 v hv,h.ref v (bQ9 _ hv)⟩
theorem FOk.vals (h:FOk p S w f)(hv:v∈f.vals):VOk p S w v:=by
 have:=h.ok;simp only[dH,bE,bOx,bO4]at this;exact⟨this.2.2 v hv,h.ref v (bQ0 _ hv)⟩
theorem OOk.vals {o:aR}(h:OOk p S w o)(hv:v∈o.vals):VOk p S w v:=⟨(aB5 h.ok).1 v hv,h.ref v (bQ9 _ hv)⟩
theorem OOk.frames {o:aR}(h:OOk p S w o)(hf:f∈o.frames):FOk p S w f:=by
 have:=(aB5 h.ok).2;simp only[bV,bOx,bO4]at this;exact⟨this.2 f hf,fun v hv=>h.ref v (bQ0 _ (bQa.2 ⟨f,hf,hv⟩))⟩
theorem cV :cX p w=true↔w.objs.length<=120/\ w.outs.length<=100/\ nA w.ins 50=true/\ inR w.used 0 1000000000=true/\ gW w=true/\ (∀o∈w.objs,dK p w o=true)/\ ∀o∈w.outs,vN o=true:=by
 simp only[cX,bOx,bSi,bO4,and_assoc];constructor
 ·rintro⟨a,b,c⟩;exact⟨by omega,by omega,c⟩
 ·rintro⟨a,b,c⟩;exact⟨by omega,by omega,c⟩
theorem bDt (h:inR i 0 ((w.objs.length:Int)-1)=true):w.obj i∈w.objs:=by
 simp only[inR,bSi]at h;exact mF (by omega)
theorem cP.obj (h:cP p w0 S w)(hi:inR i 0 ((w.objs.length:Int)-1)=true)(hs:S i.toNat):OOk p S w (w.obj i):=by
 have hi':=hi;simp only[inR,bSi]at hi'
 refine⟨(cV.1 h.ok).2.2.2.2.2.1 _ (bDt hi),fun v hv=>?_⟩
 have e:w.obj i=w.obj (i.toNat:Nat):=by rw[bSa hi'.1]
 rw[e]at hv;exact h.shut _ (by omega) hs v hv
theorem cP.ref (h:cP p w0 S w)(hv:VOk p S w v)(h5:v.kind=5):inR v.n 0 ((w.objs.length:Int)-1)=true/\ OOk p S w (w.obj v.n):=by
 have h1:=hv.ok;simp only[dJ,h5]at h1;have h1:inR v.n 0 ((w.objs.length:Int)-1)=true:=by simpa using h1
 exact⟨h1,h.obj h1 (hv.ref h5)⟩
theorem cP.task (h:cP p w0 S w){a:Int}(ha:inR a 0 ((w.tasks.length:Int)-1)=true):inR (bA w a) 0 ((w.objs.length:Int)-1)=true/\ (w.obj (bA w a)).form=6/\ S (bA w a).toNat:=by
 simp only[inR,bSi]at ha;have hm:bA w a∈w.tasks:=mF (by omega)
 have ht:=(cV.1 h.ok).2.2.2.2.1;simp only[gW,bOx]at ht;obtain⟨h1,h2⟩:=lE _ _ ht.2 _ hm;exact⟨h1,of_decide_eq_true h2,h.ts _ hm⟩
variable {j:Nat}
theorem aPn {o:aR}(hi:inR i 0 ((w.objs.length:Int)-1)=true):(eC w i o).obj j=if(i.toNat=j)then o else w.obj j:=by
 simp only[inR,bSi]at hi;simp only[aA.obj,eC,bO2,bPz,bRl]
 by_cases h:i.toNat=j
 ·subst h;simp only[if_true];rw[if_pos (by omega)];rfl
 ·simp[h]
theorem qL {o:aR}:(eC w i o).objs.length=w.objs.length:=by simp[eC]
theorem aX6 {l:List aR}{i:Nat}{o:aR}(hi:i<l.length)(h:cW o=cW l[i]):(l.set i o).countP cW=l.countP cW:=by
 rw[List.countP_set hi,h];have:cW l[i]=true->0<l.countP cW:=fun h=>bSb.2 ⟨_,bO6 hi,h⟩
 split
 ·rename_i h1;have:=this h1;omega
 ·omega
theorem aWg {i:Nat}(h:i<w.objs.length):w.obj i=w.objs[i]:=by
 simp only[aA.obj,bPz,bO2,bP7 h,bPp]
theorem cP.set (h:cP p w0 S w){o:aR}(hi:inR i 0 ((w.objs.length:Int)-1)=true)(ho:OOk p S w o)(hf:o.form=(w.obj i).form):cP p w0 S (eC w i o):=by
 have hi':=hi;simp only[inR,bSi]at hi';have hit:i.toNat<w.objs.length:=by omega
 have e:w.obj i=w.objs[i.toNat]:=by rw[<-aWg hit,bSa hi'.1]
 have hk:cW o=cW w.objs[i.toNat]:=by simp only[cW,hf,e]
 obtain⟨a1,a2,a3,a4,a5,a6,a7⟩:=cV.1 h.ok;have hle:w.objs.length<=(eC w i o).objs.length:=by rw[qL];exact bOy _
 refine⟨cV.2 ⟨by rw[qL];exact a1,a2,a3,a4,?_,fun x hx=>?_,a7⟩,by rw[qL];exact h.le,fun j hj=>?_,h.pre,fun j hj hs v hv=>?_,h.ts,h.new⟩
 ·simp only[gW,bOx,bSi]at a5⊢
  refine⟨?_,nE hle (fun k hk'=>?_) _ _ a5.2⟩
  ·show w.tasks.length=(w.objs.set i.toNat o).countP cW;rw[aX6 hit hk];exact a5.1
  ·simp only[inR,bSi]at hk';obtain⟨j,rfl⟩:=bP2 hk'.1;rw[aPn hi];split
   ·rename_i hj;subst hj;rw[hk,aWg hit]
   ·rfl
 ·rcases bSg hx with hx|rfl
  ·exact aA7 hle (a6 x hx)
  ·exact aA7 hle ho.ok
 ·rw[aPn hi];split
  ·rename_i hj';subst hj';rw[hf,<-h.form _ hj,bSa hi'.1]
  ·exact h.form j hj
 ·rw[aPn hi]at hv;rw[qL]at hj
  split at hv
  ·exact ho.ref v hv
  ·exact h.shut j hj hs v hv
theorem mW {o:aR}:(eF w o).objs.length=w.objs.length+1:=by simp[eF]
theorem yV {o:aR}(hj:j<w.objs.length+1):(eF w o).obj j=if j=w.objs.length then o else w.obj j:=by
 simp only[aA.obj,eF,bPz,bO2];split
 ·rename_i h;subst h;simp
 ·rename_i h;rw[bR3 (by omega)]
theorem cP.add (h:cP p w0 S w){o:aR}(hl:w.objs.length<120)(ho:OOk p S w o)(hf: ¬o.form=6):cP p w0 S (eF w o):=by
 obtain⟨a1,a2,a3,a4,a5,a6,a7⟩:=cV.1 h.ok;have hle:w.objs.length<=(eF w o).objs.length:=by rw[mW];omega
 have hk:cW o=false:=decide_eq_false hf;have hl0:=h.le
 refine⟨cV.2 ⟨by rw[mW];omega,a2,a3,a4,?_,fun x hx=>?_,a7⟩,by rw[mW];omega,fun j hj=>?_,h.pre,fun j hj hs v hv=>?_,h.ts,h.new⟩
 ·simp only[gW,bOx,bSi]at a5⊢
  refine⟨?_,nE hle (fun k hk'=>?_) _ _ a5.2⟩
  ·show w.tasks.length=(w.objs++[o]).countP cW;rw[List.countP_append];simp[hk,a5.1]
  ·simp only[inR,bSi]at hk';obtain⟨j,rfl⟩:=bP2 hk'.1;rw[yV (by omega),if_neg (by omega)]
 ·rcases bPn.1 hx with hx|hx
  ·exact aA7 hle (a6 x hx)
  ·simp only[bQf]at hx;subst hx;exact aA7 hle ho.ok
 ·rw[yV (by omega),if_neg (by omega)];exact h.form j hj
 ·rw[mW]at hj;rw[yV hj]at hv
  split at hv
  ·exact ho.ref v hv
  ·exact h.shut j (by omega) hs v hv
theorem cP.born (h:cP p w0 S w){o:aR}(hl:w.objs.length<120)(ho:OOk p S w o)(hf:o.form=6):cP p w0 S (qI (eF w o)):=by
 obtain⟨a1,a2,a3,a4,a5,a6,a7⟩:=cV.1 h.ok;have hlen:(qI (eF w o)).objs.length=w.objs.length+1:=mW;have hle:w.objs.length<=(qI (eF w o)).objs.length:=by rw[hlen];omega
 have hk:cW o=true:=decide_eq_true hf;have hl0:=h.le;have hT:(qI (eF w o)).tasks=w.tasks++[(w.objs.length:Int)]:=by
  show w.tasks++[((eF w o).objs.length:Int)-1]=_;rw[mW];congr 2;omega
 have hO: ∀j:Int,(qI (eF w o)).obj j=(eF w o).obj j:=fun j=>rfl
 refine⟨cV.2 ⟨by rw[hlen];omega,a2,a3,a4,?_,fun x hx=>?_,a7⟩,by rw[hlen];omega,fun j hj=>?_,?_,fun j hj hs v hv=>?_,fun t ht=>?_,h.new⟩
 ·simp only[gW,bOx,bSi]at a5⊢;rw[hT]
  refine⟨?_,aFd ?_ ?_ _ _ (nE hle (fun k hk'=>?_) _ _ a5.2) (by simp) (fun hc=>?_)⟩
  ·show(w.tasks++[_]).length=(w.objs++[o]).countP cW;rw[List.countP_append];simp[hk,a5.1]
  ·rw[hlen];simp only[inR,bSi];omega
  ·rw[hO,yV (by omega),if_pos rfl];exact hk
  ·simp only[inR,bSi]at hk';obtain⟨j,rfl⟩:=bP2 hk'.1;rw[hO,yV (by omega),if_neg (by omega)]
  ·have:=(lE _ _ a5.2 _ hc).1;simp only[inR,bSi]at this;omega
 ·rcases bPn.1 hx with hx|hx
  ·exact aA7 hle (a6 x hx)
  ·simp only[bQf]at hx;subst hx;exact aA7 hle ho.ok
 ·rw[hO,yV (by omega),if_neg (by omega)];exact h.form j hj
 ·rw[hT];exact h.pre.trans (List.prefix_append _ _)
 ·rw[hlen]at hj;rw[hO,yV hj]at hv
  split at hv
  ·exact ho.ref v hv
  ·exact h.shut j (by omega) hs v hv
 ·rw[hT]at ht;rcases bPn.1 ht with ht|ht
  ·exact h.ts t ht
  ·simp only[bQf]at ht;subst ht;exact h.new _ (by simp only[bPz];omega)
end Go.Proofs.YtmnchlhngpdffaaGreat
namespace Go.Proofs.YtmnchlhngpdffaaGreat
open Go.Abs Go.Proofs
variable {p :aF}{w0 w w':aA}{S:Nat->Prop}{a:Int}{left:List aB}
structure LOk (p:aF) (S:Nat->Prop) (w:aA) (l:List aB):Prop where
 len:l.length<=40
 ok: ∀f∈l,FOk p S w f
 opn: ∀f∈l,fE p f=true
variable {l:List aB}
theorem LOk.le (h:LOk p S w l)(hl:w.objs.length<=w'.objs.length):LOk p S w' l:=⟨h.len,fun f hf=>(h.ok f hf).le hl,h.opn⟩
theorem LOk.frames (h:LOk p S w l):bV p w l=true:=by
 simp only[bV,bOx,bSi,bO4];exact⟨by have:=h.len;omega,fun f hf=>(h.ok f hf).ok⟩
theorem LOk.sub {l':List aB}(h:LOk p S w l)(hs: ∀f∈l',f∈l)(hl:l'.length<=40):LOk p S w l':=⟨hl,fun f hf=>h.ok f (hs f hf),fun f hf=>h.opn f (hs f hf)⟩
variable {n:Int}
theorem aPo (h:inR n (-1000000000) 1000000000=true):VOk p S w (mK n):=⟨by simp[dJ,mK,h],fun h=>by cases h⟩
theorem aK3 {b:Bool}:VOk p S w (mR b):=⟨by cases b<;>rfl,fun h=>by cases b<;>cases h⟩
theorem qM :VOk p S w bO:=⟨rfl,fun h=>by cases h⟩
theorem aPp (h:cP p w0 S w){o:aR}:VOk p S (eF w o) (dO w.objs.length):=by
 refine⟨?_,fun _=>h.new _ (by simp only[dO,bPz];exact h.le)⟩
 simp only[dJ,dO,inR,mW];simp
variable {v:aD}
theorem aSy (hl:LOk p S w l)(hv:VOk p S w v):OOk p S w ⟨6,0,[v],l⟩:=by
 refine⟨?_,fun u hu=>?_⟩
 ·rw[dK,if_pos rfl,jN,if_pos rfl];simp only[bOx,bSi,bO4]
  refine⟨⟨⟨hl.frames,?_⟩,?_⟩,fun f hf=>?_⟩
  ·simp[bE,hv.ok]
  ·simp only[bO7,bPe];omega
  ·exact hl.opn f (bRj hf)
 ·simp only[mV,bRa,bP1,bP0,bQa]at hu;rcases hu with rfl|⟨f,hf,hu⟩
  ·exact hv.ref
  ·exact(hl.ok f hf).ref u hu
theorem aK4 {f:aB}(hl:LOk p S w l)(hlen:l.length<40)(hf:FOk p S w f):OOk p S w ⟨6,0,[],l++[f]⟩:=by
 refine⟨?_,fun u hu=>?_⟩
 ·rw[dK,if_pos rfl,jN,if_pos rfl];simp only[bOx,bSi,bO4,bV]
  refine⟨⟨⟨⟨?_,fun g hg=>?_⟩,rfl⟩,?_⟩,fun g hg=>?_⟩
  ·simp only[bPg,bO7,bPe];omega
  ·rcases bPn.1 hg with hg|hg
   ·exact(hl.ok g hg).ok
   ·simp only[bQf]at hg;subst hg;exact hf.ok
  ·simp only[bPg,bO7,bPe];omega
  ·rw[List.take_append_of_le_length (by simp)]at hg
   exact hl.opn g (bRj hg)
 ·simp only[mV,bP1,bQa]at hu;obtain⟨g,hg,hu⟩:=hu;rcases bPn.1 hg with hg|hg
  ·exact(hl.ok g hg).ref u hu
  ·simp only[bQf]at hg;subst hg;exact hf.ref u hu
variable {st:Int}
theorem bBn (h:st=2 \/st=3 \/st=4):OOk p S w ⟨6,st,[],[]⟩:=by
 refine⟨?_,fun u hu=>by simp[mV]at hu⟩
 rcases h with rfl|rfl|rfl<;>rfl
theorem bBo (hv:VOk p S w v):OOk p S w ⟨6,1,[v],[]⟩:=by
 refine⟨?_,fun u hu=>?_⟩
 ·simp[dK,jN,bE,hv.ok]
 ·simp only[mV,bQy,bPx,bQf]at hu;subst hu;exact hv.ref
theorem bDu (n:aJ):0<=n.asks:=by
 unfold aJ.asks;split
 ·decide
 split
 ·exact bRg _
 split<;>decide
variable {env:List aD}{node:Int}
theorem aWh (hn:inR node 0 ((p.nodes.length:Int)-1)=true)(he: ∀v∈env,VOk p S w v)(hl:env.length<=30):FOk p S w ⟨node,env,[]⟩:=by
 refine⟨?_,fun v hv=>?_⟩
 ·simp only[dH,bE,bOx,bSi,bO4,hn,true_and]
  refine⟨⟨by omega,fun v hv=>(he v hv).ok⟩,by simpa using bDu _,fun v hv=>by cases hv⟩
 ·simp only[bPx]at hv;exact(he v hv).ref
theorem dC (h:cP p w0 S w)(ha:inR a 0 ((w.tasks.length:Int)-1)=true)(hs:st=2 \/st=3 \/st=4):cP p w0 S (bI w a st).w:=by
 obtain⟨h1,h2,_⟩:=h.task ha;exact h.set h1 (bBn hs) h2.symm
theorem eM (h:cP p w0 S w)(ha:inR a 0 ((w.tasks.length:Int)-1)=true)(hl:LOk p S w left)(hv:VOk p S w v):cP p w0 S (bY w a left v).w:=by
 obtain⟨h1,h2,_⟩:=h.task ha;exact h.set h1 (aSy hl hv) h2.symm
theorem tE (h:cP p w0 S w)(ha:inR a 0 ((w.tasks.length:Int)-1)=true)(hl:LOk p S w left)(hn:inR node 0 ((p.nodes.length:Int)-1)=true)(he: ∀v∈env,VOk p S w v):
  cP p w0 S (gL w a left node env).w:=by
 obtain⟨h1,h2,_⟩:=h.task ha;unfold gL;split
 ·exact dC h ha (by simp)
 ·exact h.set h1 (aK4 hl (by omega) (aWh hn he (by omega))) h2.symm
theorem aB6 (h:cP p w0 S w)(ha:inR a 0 ((w.tasks.length:Int)-1)=true){o:aR}(hl:LOk p S w left)(ho:OOk p S w o)(hf: ¬o.form=6):cP p w0 S (iF w a left o).w:=by
 unfold iF;split
 ·exact dC h ha (by simp)
 ·exact eM (h.add (by omega) ho hf) ha (hl.le (by rw[mW];omega)) (aPp h)
theorem qN {d:Did}{act:Int}:(dF d a act n v).w=d.w:=by unfold dF;split<;>rfl
theorem aNo (h:cP p w0 S w)(ha:inR a 0 ((w.tasks.length:Int)-1)=true){o:aR}(hl:LOk p S w left)(ho:OOk p S w o)(hf:o.form=6):cP p w0 S (zN w a left o).w:=by
 unfold zN;simp only[qN];unfold iF;split
 ·rw[if_pos (show(bI w a 4).what=1 from rfl)];exact dC h ha (by simp)
 ·rename_i hc;rw[if_neg (by simp[bY])]
  have hb:=h.born (by omega) ho hf
  have ha':inR a 0 (((qI (eF w o)).tasks.length:Int)-1)=true:=by
   simp only[inR,bSi,qI,bPg,bO7,bPe]at ha⊢;have e:(eF w o).tasks=w.tasks:=rfl;rw[e];omega
  have hT:bA (qI (eF w o)) a=bA (eF w o) a:=by
   simp only[inR,bSi]at ha;show(w.tasks++_).getD a.toNat 0=w.tasks.getD a.toNat 0;simp only[bO2];rw[bR3 (by omega)]
  have:=eM hb ha' (left:=left) (v:=dO w.objs.length) (hl.le (by show _<=(eF w o).objs.length;rw[mW];omega)) ((aPp h (o:=o)).le (bOy _))
  have e:qI (bY (eF w o) a left (dO w.objs.length)).w=(bY (qI (eF w o)) a left (dO w.objs.length)).w:=by
   simp only[bY,hT];simp only[qI,eC,bQ1]
  show cP p w0 S (qI (bY (eF w o) a left (dO w.objs.length)).w);rw[e];exact this
theorem cP.io (h:cP p w0 S w){outs:List bR}{ins:List Int}{used:Int}(h1:outs.length<=100)(h2: ∀o∈outs,vN o=true)(h3:nA ins 50=true)(h4:inR used 0 1000000000=true):cP p w0 S ⟨w.objs,w.tasks,outs,ins,used⟩:=by
 obtain⟨a1,a2,a3,a4,a5,a6,a7⟩:=cV.1 h.ok
 refine⟨cV.2 ⟨a1,h1,h3,h4,?_,fun o ho=>aA7 (bOy _) (a6 o ho),h2⟩,h.le,h.form,h.pre,h.shut,h.ts,h.new⟩
 simp only[gW,bOx]at a5⊢;exact⟨a5.1,nE (w:=w) (w':=⟨w.objs,w.tasks,outs,ins,used⟩) (bOy _) (fun _ _=>rfl) _ _ a5.2⟩
theorem nV {n:aJ}(h:eL p n=true):(n.kids.length:Int)=fC n.op n.pats.length (oY p n):=by
 simp only[eL,bOx,bSi]at h;exact h.2
theorem aGp {n:aJ}(h:eL p n=true):n.asks<=n.kids.length:=by
 have:=nV h;unfold aJ.asks;unfold fC at this
 repeat' split at this
 all_goals (repeat' split)
 all_goals omega
variable {k:Int}
theorem aU9 (hp:eH p){i:Int}(hi:inR i 0 ((p.nodes.length:Int)-1)=true)(h0:0<=k)(hk:k<(p.node i).kids.length):inR (oJ (p.node i) k) 0 ((p.nodes.length:Int)-1)=true:=
 hp.kids _ (iK hi) _ (mF (by omega))
variable {f:aD}
theorem eZ (h:cP p w0 S w)(hv:VOk p S w f)(hi:dA w f k=true):inR f.n 0 ((w.objs.length:Int)-1)=true/\ OOk p S w (w.obj f.n)/\ (w.obj f.n).form=k/\ f.kind=5:=by
 simp only[dA,bOx,bSi]at hi;obtain⟨h1,h2⟩:=h.ref hv hi.1;exact⟨h1,h2,hi.2,hi.1⟩
theorem aDi (hp:eH p)(h:cP p w0 S w)(hf:VOk p S w f)(hv:VOk p S w v){b:aB}(hb:fH p w f v=some b):
  inR b.node 0 ((p.nodes.length:Int)-1)=true/\ (∀u∈b.env,VOk p S w u)/\ b.vals=[]:=by
 unfold fH at hb
 split at hb
 ·rename_i h4;simp only[bOw]at hb;subst hb;have h1:=hf.ok;simp only[dJ,h4]at h1;have h1:inR f.n 0 ((p.funs.length:Int)-1)=true:=by simpa using h1
  simp only[inR,bSi]at h1;exact⟨hp.funs _ (mF (by omega)),fun u hu=>by simp only[bQf]at hu;subst hu;exact hv,rfl⟩
 ·split at hb
  ·rename_i h2;simp only[bOw]at hb;subst hb;obtain⟨a1,a2,a3,_⟩:=eZ h hf h2;have hk:=a2.ok;simp only[dK,a3]at hk
   simp at hk
   obtain⟨_,⟨b1,b2⟩,_⟩:=hk
   refine⟨aU9 hp b1 (by decide) ?_,fun u hu=>?_,rfl⟩
   ·rw[nV (hp.nodes _ (iK b1)),b2];simp[fC]
   ·rcases bPn.1 hu with hu|hu
    ·exact a2.vals hu
    ·simp only[bQf]at hu;subst hu;exact hv
  ·cases hb
theorem aGq {o:aR}(h:OOk p S w o)(h5:o.form=5):LOk p S w o.frames:=by
 have hk:=h.ok;simp only[dK,h5]at hk;simp[bV]at hk;exact⟨by omega,fun f hf=>h.frames hf,hk.1.2⟩
theorem LOk.app {m:List aB}(h:LOk p S w l)(k:LOk p S w m)(hl:(l++m).length<=40):LOk p S w (l++m):=
 ⟨hl,fun f hf=>(bPn.1 hf).elim (h.ok f) (k.ok f),fun f hf=>(bPn.1 hf).elim (h.opn f) (k.opn f)⟩
theorem aPq (hp:eH p)(h:cP p w0 S w)(ha:inR a 0 ((w.tasks.length:Int)-1)=true)(hl:LOk p S w left)(hf:VOk p S w f)(hv:VOk p S w v):cP p w0 S (eX p w a left f v).w:=by
 unfold eX;split
 ·rename_i h5;obtain⟨_,a2,a3,_⟩:=eZ h hf h5;split
  ·exact dC h ha (by simp)
  ·exact eM h ha (hl.app (aGq a2 a3) (by omega)) hv
 ·split
  ·exact dC h ha (by simp)
  ·rename_i b hb;obtain⟨b1,b2,_⟩:=aDi hp h hf hv hb;exact tE h ha hl b1 b2
variable {op:Int}
theorem aPr (h:cP p w0 S w)(ha:inR a 0 ((w.tasks.length:Int)-1)=true)(hl:LOk p S w left){u:aD}:cP p w0 S (cM w a left op u v).w:=by
 unfold cM;split
 ·split
  ·exact dC h ha (by simp)
  ·exact eM h ha hl aK3
 split
 ·exact dC h ha (by simp)
 split
 ·exact eM h ha hl aK3
 split
 ·rename_i hr;exact eM h ha hl (aPo hr)
 ·exact dC h ha (by simp)
mutual
theorem aK5 (h:cP p w0 S w): ∀(q:Pat) {v:aD} {l:List aD},VOk p S w v->gR w q v=some l-> ∀u∈l,VOk p S w u
 | .mk f n t ps,v,l,hv,hm=>by
  unfold gR at hm
  split at hm
  ·cases hm;intro u hu;cases hu
  split at hm
  ·cases hm;intro u hu;simp only[bQf]at hu;subst hu;exact hv
  split at hm
  ·split at hm
   ·cases hm;intro u hu;cases hu
   ·cases hm
  split at hm
  ·split at hm
   ·cases hm;intro u hu;cases hu
   ·cases hm
  split at hm
  ·split at hm
   ·cases hm;intro u hu;cases hu
   ·cases hm
  split at hm
  ·rename_i hc;obtain⟨_,a2,_,_⟩:=eZ h hv hc.1;exact aHt h ps (fun u hu=>a2.vals hu) hm
  ·cases hm
theorem aHt (h:cP p w0 S w): ∀(ps:List Pat) {vs l:List aD},(∀v∈vs,VOk p S w v)->gX w ps vs=some l-> ∀u∈l,VOk p S w u
 |[],vs,l,hv,hm=>by
  simp only[gX,bOw]at hm;subst hm;intro u hu;cases hu
 |q::ps,[],l,hv,hm=>by
  simp only[gX,bOw]at hm;subst hm;intro u hu;cases hu
 |q::ps,v::vs,l,hv,hm=>by
  simp only[gX]at hm
  split at hm
  ·cases hm
  rename_i l1 h1
  split at hm
  ·cases hm
  rename_i l2 h2;simp only[bOw]at hm;subst hm;intro u hu;rcases bPn.1 hu with hu|hu
  ·exact aK5 h q (hv v (by simp)) h1 u hu
  ·exact aHt h ps (fun u hu=>hv u (by simp[hu])) h2 u hu
end
theorem aFe (h:cP p w0 S w)(ha:inR a 0 ((w.tasks.length:Int)-1)=true)(hl:LOk p S w left){kids:List Int}(hk: ∀k∈kids,inR k 0 ((p.nodes.length:Int)-1)=true){env:List aD}(he: ∀v∈env,VOk p S w v){u:aD}(hu:VOk p S w u):
  ∀(l:List Pat) (i:Nat),1+i+l.length<=kids.length->cP p w0 S (jQ w a left kids env u i l).w
 |[],i,_=>dC h ha (by simp)
 |q::qs,i,hi=>by
  unfold jQ;simp only[bO7]at hi;split
  ·rename_i l hm
   refine tE h ha hl (hk _ (mF (by omega))) fun v hv=>?_
   rcases bPn.1 hv with hv|hv
   ·exact he v hv
   ·exact aK5 h q hu hm v hv
  ·exact aFe h ha hl hk he hu qs (i+1) (by omega)
theorem aSz {left:List aB}: ∀{m k:Nat},fZ p left m=k+1->k<m/\ (p.node (left.getD k default).node).op=26
 |0,k,h=>by simp[fZ]at h
 |m+1,k,h=>by
  unfold fZ at h
  split at h
  ·rename_i hc;have:m=k:=by omega
   subst this;exact⟨by omega,hc⟩
  ·obtain⟨a,b⟩:=aSz h;exact⟨by omega,b⟩
theorem bBp (h:LOk p S w l)(h0:0<l.length)(hr:(p.node (l.headD default).node).op=26):OOk p S w ⟨5,0,[],l⟩:=by
 refine⟨?_,fun u hu=>?_⟩
 ·rw[dK,if_neg (by simp),if_pos rfl]
  simp only[bOx,bSi,bO4];exact⟨⟨⟨⟨⟨by simp,by simp⟩,by omega⟩,h.frames⟩,h.opn⟩,hr⟩
 ·simp only[mV,bP1,bQa]at hu;obtain⟨f,hf,hu⟩:=hu;exact(h.ok f hf).ref u hu
theorem aX7 :(gL w a left node env).what=1->(gL w a left node env).e.n=4:=by
 unfold gL;split
 ·intro _;rfl
 ·intro h;cases h
theorem aPs (h:cP p w0 S w)(ha:inR a 0 ((w.tasks.length:Int)-1)=true)(hl:LOk p S w left){kid:Int}(hk:inR kid 0 ((p.nodes.length:Int)-1)=true)(he: ∀v∈env,VOk p S w v):cP p w0 S (eY p w a left kid env).w:=by
 unfold eY;split
 ·exact dC h ha (by simp)
 ·rename_i k hr;obtain⟨hkl,hop⟩:=aSz hr;split
  ·exact dC h ha (by simp)
  ·rename_i hc
   simp only
   split
   ·rename_i hw;rw[aX7 hw];exact dC h ha (by simp)
   ·have hld:=hl.len;have hd:LOk p S w (left.drop k):=hl.sub (fun f hf=>List.mem_of_mem_drop hf) (by simp only[bRb];omega)
    have hh:(p.node ((left.drop k).headD default).node).op=26:=by
     rw[bO2]at hop;rw[List.headD_eq_head?_getD,List.head?_drop];exact hop
    have hF:=h.add (o:=⟨5,0,[],left.drop k⟩) (by omega) (bBp hd (by simp only[bRb];omega) hh) (by simp)
    have hle:w.objs.length<=(eF w ⟨5,0,[],left.drop k⟩).objs.length:=by rw[mW];omega
    refine tE hF ha ((hl.sub (fun f hf=>bRj hf) (by simp only[bQe];omega)).le hle) hk fun v hv=>?_
    rcases bPn.1 hv with hv|hv
    ·exact(he v hv).le hle
    ·simp only[bQf]at hv;subst hv;exact aPp h
theorem aPt (hp:eH p)(h:cP p w0 S w)(ha:inR a 0 ((w.tasks.length:Int)-1)=true)(hl:LOk p S w left)(hf:VOk p S w f):cP p w0 S (eJ p w a left f).w:=by
 unfold eJ;split
 ·rename_i h5;obtain⟨_,a2,a3,_⟩:=eZ h hf h5;exact aNo h ha hl (aSy (aGq a2 a3) qM) rfl
 ·split
  ·exact dC h ha (by simp)
  ·rename_i b hb;obtain⟨b1,b2,b3⟩:=aDi hp h hf qM hb;split
   ·exact dC h ha (by simp)
   ·have e:b=⟨b.node,b.env,[]⟩:=by rw[<-b3]
    have h0:LOk p S w []:=⟨by simp,by simp,by simp⟩
    have:=aK4 h0 (by simp) (aWh b1 b2 (by omega))
    rw[<-e]at this;exact aNo h ha hl this rfl
theorem dI {l:List aD}{i:Nat}(h:i<l.length):aE l i∈l:=mF h
theorem aS0 (hv:VOk p S w v):OOk p S w ⟨3,0,[v],[]⟩:=by
 refine⟨?_,fun u hu=>?_⟩
 ·simp[dK,bE,hv.ok]
 ·simp only[mV,bQy,bPx,bQf]at hu;subst hu;exact hv.ref
theorem aK6 {l:List aD}(hl:l.length<=4)(hv: ∀v∈l,VOk p S w v):OOk p S w ⟨4,0,l,[]⟩:=by
 refine⟨?_,fun u hu=>?_⟩
 ·simp only[dK,bE];simp;exact⟨by omega,fun v h=>(hv v h).ok⟩
 ·simp only[mV,bQy,bPx]at hu;exact(hv u hu).ref
theorem aS1 (h:cP p w0 S w)(ha:inR a 0 ((w.tasks.length:Int)-1)=true)(hl:LOk p S w left){l:List aD}(hv: ∀v∈l,VOk p S w v)(h0:0<l.length)(h1: ¬op=16-> ¬op=17->1<l.length):cP p w0 S (eN w a left op l).w:=by
 unfold eN;have hv0:=hv _ (dI h0);split
 ·rw[qN];exact aB6 h ha hl (aS0 hv0) (by simp)
 rename_i n16;split
 ·rename_i h3;obtain⟨a1,a2,a3,_⟩:=eZ h hv0 h3;split
  ·rw[qN];have hk:=a2.ok;simp only[dK,a3]at hk
   simp at hk
   exact eM h ha hl (a2.vals (dI (by omega)))
  ·rename_i n17;rw[qN];have hF:=h.set a1 (aS0 (hv _ (dI (h1 n16 n17)))) a3.symm;exact eM hF ha (hl.le (by rw[qL];exact bOy _)) qM
 ·exact dC h ha (by simp)
theorem aK7 (h:cP p w0 S w)(ha:inR a 0 ((w.tasks.length:Int)-1)=true)(hl:LOk p S w left){l:List aD}(hv: ∀v∈l,VOk p S w v)(h0:0<l.length)(h1:op=22->1<l.length):cP p w0 S (cE w a left op l).w:=by
 unfold cE;have hv0:=hv _ (dI h0);split
 ·rename_i h3;obtain⟨a1,a2,a3,_⟩:=eZ h hv0 h3;have hk:=a2.ok;simp only[dK,a3]at hk;simp[bE]at hk;split
  ·rename_i h22;split
   ·exact h
   ·rw[qN];have hF:=h.set a1 (aK6 (l:=(w.obj (aE l 0).n).vals++[aE l 1]) (by simp only[bPg,bO7,bPe];omega) fun v hv'=>by
     rcases bPn.1 hv' with hv'|hv'
     ·exact a2.vals hv'
     ·simp only[bQf]at hv';subst hv';exact hv _ (dI (h1 h22))) a3.symm
    exact eM hF ha (hl.le (by rw[qL];exact bOy _)) qM
  ·split
   ·exact h
   ·rename_i hne;rw[qN];have hF:=h.set a1 (aK6 (l:=(w.obj (aE l 0).n).vals.drop 1) (by simp only[bRb];omega) fun v hv'=>a2.vals (List.mem_of_mem_drop hv')) a3.symm
    exact eM hF ha (hl.le (by rw[qL];exact bOy _)) ((a2.vals (dI (by omega))).le (by rw[qL];exact bOy _))
 ·exact dC h ha (by simp)
theorem aS2 (h:cP p w0 S w)(ha:inR a 0 ((w.tasks.length:Int)-1)=true)(hl:LOk p S w left)(hv:VOk p S w v):cP p w0 S (gC w a left v).w:=by
 unfold gC;split
 ·rename_i h6;obtain⟨a1,a2,a3,_⟩:=eZ h hv h6;have hk:=a2.ok;rw[dK,if_pos a3,jN]at hk;split
  ·exact h
  rename_i n0;rw[if_neg n0]at hk;split
  ·rename_i n1;rw[if_neg n1]at hk
   split at hk
   ·rename_i hst;exact dC h ha hst
   ·cases hk
  ·rename_i n1;rw[if_pos (Decidable.not_not.1 n1)]at hk;simp only[bOx,bSi]at hk;rw[qN];exact eM h ha hl (a2.vals (dI (by omega)))
 ·exact dC h ha (by simp)
theorem aPu (h:cP p w0 S w)(ha:inR a 0 ((w.tasks.length:Int)-1)=true)(hl:LOk p S w left){port:Int}{l:List aD}(hv: ¬op=25->0<l.length/\ inR port 0 3=true)(hv': ∀v∈l,VOk p S w v):cP p w0 S (dG w a left op port l).w:=by
 obtain⟨a1,a2,a3,a4,a5,a6,a7⟩:=cV.1 h.ok;unfold dG;split
 ·split
  ·exact h
  ·rename_i x xs hi;split
   ·exact dC h ha (by simp)
   ·rename_i hu;rw[qN];simp only[nA,hi,bO7,bQ7,bOx,bSi]at a3;simp only[inR,bSi]at a4;have hF:=h.io (outs:=w.outs) (ins:=xs) (used:=w.used+1) a2 a7 (by simp only[nA,bOx,bSi];exact⟨by omega,a3.2.2⟩) (by simp only[inR,bSi];omega)
    exact eM hF ha (hl.le (bOy _)) (aPo a3.2.1)
 ·rename_i hop;obtain⟨h0,hport⟩:=hv hop;split
  ·exact dC h ha (by simp)
  ·rename_i hk;split
   ·exact dC h ha (by simp)
   ·rw[qN];have h1:=(hv' _ (dI h0)).ok;rw[dJ,if_pos (Decidable.not_not.1 hk)]at h1;have hF:=h.io (outs:=w.outs++[⟨port,(aE l 0).n⟩]) (ins:=w.ins) (used:=w.used) (by simp only[bPg,bO7,bPe];omega) (fun o ho=>by
     rcases bPn.1 ho with ho|ho
     ·exact a7 o ho
     ·simp only[bQf]at ho;subst ho;simp only[vN,hport,h1,Bool.and_self]) a3 a4
    exact eM hF ha (hl.le (bOy _)) qM
theorem aX8 (hp:eH p)(h:cP p w0 S w)(ha:inR a 0 ((w.tasks.length:Int)-1)=true)(hl:LOk p S w left){f:aB}(hf:FOk p S w f)(hfull:(f.vals.length:Int)=(p.node f.node).asks):cP p w0 S (rS p w a left f).w:=by
 have hni:inR f.node 0 ((p.nodes.length:Int)-1)=true:=by
  have:=hf.ok;simp only[dH,bOx]at this;exact this.1.1
 have hok:=hp.nodes _ (iK hni);have hkd:=nV hok;have hnum:nW p (p.node f.node)=true:=by simp only[eL,bOx]at hok;exact hok.1.1.1
 have hv: ∀v∈f.vals,VOk p S w v:=fun v hv=>hf.vals hv
 unfold rS;generalize hn:p.node f.node=n at*;have ik: ∀k:Int,0<=k->k<n.kids.length->inR (oJ n k) 0 ((p.nodes.length:Int)-1)=true:=fun k h1 h2=>by
  rw[<-hn]at h2⊢;exact aU9 hp hni h1 h2
 unfold bS
 by_cases e:n.op=1
 ·rw[if_pos e];rw[nW,if_pos e]at hnum;exact eM h ha hl (aPo hnum)
 rw[if_neg e]
 by_cases e:n.op=2
 ·rw[if_pos e];exact eM h ha hl aK3
 rw[if_neg e]
 by_cases e:n.op=3
 ·rw[if_pos e];exact eM h ha hl qM
 rw[if_neg e]
 by_cases e:n.op=4
 ·rw[if_pos e];simp only[nW,e]at hnum;simp[inR]at hnum;split
  ·refine eM h ha hl ⟨?_,fun h=>by cases h⟩
   simp only[dJ,inR];simp;omega
  ·split
   ·exact dC h ha (by simp)
   ·exact eM h ha hl (hf.env (dI (by omega)))
 rw[if_neg e]
 by_cases e:n.op=5
 ·rw[if_pos e]
  refine aB6 h ha hl ⟨?_,fun u hu=>?_⟩ (by simp)
  ·have:=hf.ok;simp only[dH,bOx]at this;simp only[dK,hn,e,this.1.1,this.1.2];simp
  ·simp only[mV,bQy,bPx]at hu;exact(hf.env hu).ref
 rw[if_neg e]
 by_cases e:n.op=6
 ·rw[if_pos e];have:n.asks=2:=by simp[aJ.asks,e]
  exact aPq hp h ha hl (hv _ (dI (by omega))) (hv _ (dI (by omega)))
 rw[if_neg e]
 by_cases e:n.op=7
 ·rw[if_pos e];have h1:n.asks=1:=by simp[aJ.asks,e]
  refine tE h ha hl (ik 1 (by decide) ?_) fun v hv'=>?_
  ·rw[hkd];simp[fC,e]
  ·rcases bPn.1 hv' with hv'|hv'
   ·exact hf.env hv'
   ·simp only[bQf]at hv';subst hv';exact hv _ (dI (by omega))
 rw[if_neg e]
 by_cases e:n.op=8
 ·rw[if_pos e];have h1:n.asks=1:=by simp[aJ.asks,e]
  split
  ·exact dC h ha (by simp)
  ·rename_i hk;have h2:=(hv _ (dI (i:=0) (by omega))).ok
   simp only[dJ,Decidable.not_not.1 hk]at h2;simp[inR]at h2
   refine tE h ha hl (ik _ (by omega) ?_) fun v hv'=>hf.env hv'
   have:(n.kids.length:Int)=3:=by rw[hkd];simp[fC,e]
   omega
 rw[if_neg e]
 by_cases e:n.op=9 \/n.op=10 \/n.op=11 \/n.op=12 \/n.op=13
 ·rw[if_pos e];exact aPr h ha hl
 rw[if_neg e]
 by_cases e:n.op=14
 ·rw[if_pos e];have h1:n.asks=n.kids.length:=by simp[aJ.asks,e]
  simp only[nW,e]at hnum
  simp at hnum
  have h2:(n.kids.length:Int)=(p.cons.getD n.n.toNat default).args:=by rw[hkd];simp[fC,oY,e,hnum]
  have h3:inR (p.cons.getD n.n.toNat default).args 0 3=true:=hp.cons _ (mF (by simp only[inR,bSi]at hnum;omega))
  simp only[inR,bSi]at h3
  refine aB6 h ha hl ⟨?_,fun u hu=>?_⟩ (by simp)
  ·rw[dK,if_neg (by simp),if_neg (by simp),if_neg (by simp),if_pos rfl]
   simp only[bOx,bSi,bE,bO4];exact⟨⟨hnum,by omega⟩,by omega,fun v h'=>(hv v h').ok⟩
  ·simp only[mV,bQy,bPx]at hu;exact(hv u hu).ref
 rw[if_neg e]
 by_cases e:n.op=15
 ·rw[if_pos e];have h1:n.asks=1:=by simp[aJ.asks,e]
  have h2:(n.kids.length:Int)=1+n.pats.length:=by rw[hkd];simp[fC,e]
  refine aFe h ha hl (fun k hk=>?_) (fun v hv'=>hf.env hv') (hv _ (dI (by omega))) n.pats 0 (by omega)
  rw[<-hn]at hk;exact hp.kids _ (iK hni) k hk
 rw[if_neg e]
 by_cases e:n.op=26
 ·rw[if_pos e];have h1:n.asks=1:=by simp[aJ.asks,e]
  exact eM h ha hl (hv _ (dI (by omega)))
 rw[if_neg e]
 by_cases e:n.op=27
 ·rw[if_pos e]
  refine aPs h ha hl (ik 0 (by decide) ?_) fun v hv'=>hf.env hv'
  rw[hkd];simp[fC,e]
 rw[if_neg e]
 by_cases e:n.op=16 \/n.op=17 \/n.op=18
 ·rw[if_pos e]
  refine aS1 h ha hl hv ?_ ?_
  ·have:1<=n.asks:=by rcases e with e|e|e<;>simp[aJ.asks,e]
   omega
  ·intro h1 h2;have e:n.op=18:=by omega
   have:n.asks=2:=by simp[aJ.asks,e]
   omega
 rw[if_neg e]
 by_cases e:n.op=19
 ·rw[if_pos e];have h1:n.asks=1:=by simp[aJ.asks,e]
  exact aPt hp h ha hl (hv _ (dI (by omega)))
 rw[if_neg e]
 by_cases e:n.op=20
 ·rw[if_pos e];have h1:n.asks=1:=by simp[aJ.asks,e]
  exact aS2 h ha hl (hv _ (dI (by omega)))
 rw[if_neg e]
 by_cases e:n.op=21
 ·rw[if_pos e];rw[qN];exact aB6 h ha hl (aK6 (by simp) (by simp)) (by decide)
 rw[if_neg e]
 by_cases e:n.op=22 \/n.op=23
 ·rw[if_pos e]
  refine aK7 h ha hl hv ?_ ?_
  ·have:1<=n.asks:=by rcases e with e|e<;>simp[aJ.asks,e]
   omega
  ·intro e;have:n.asks=2:=by simp[aJ.asks,e]
   omega
 rw[if_neg e]
 by_cases e:n.op=24 \/n.op=25
 ·rw[if_pos e]
  refine aPu h ha hl (fun h25=>?_) hv
  have e:n.op=24:=by omega
  have h1:n.asks=1:=by simp[aJ.asks,e]
  simp only[nW,e]at hnum
  simp at hnum
  exact⟨by omega,hnum⟩
 rw[if_neg e];rw[qN];exact eM h ha hl qM
theorem aHu {o:aR}(h0:0<o.frames.length):o.frames=o.frames.take (o.frames.length-1)++[o.frames.getD (o.frames.length-1) dQ]:=by
 have h:o.frames.length-1<o.frames.length:=by omega
 simp only[bO2,bP7 h,bPp];rw[List.take_append_getElem h];rw[bPi (by omega)]
theorem mH (hp:eH p)(h:cP p w0 S w)(ha:inR a 0 ((w.tasks.length:Int)-1)=true):cP p w0 S (cJ p w a).w:=by
 obtain⟨h1,h2,h3⟩:=h.task ha;have hO:=h.obj h1 h3;unfold cJ
 simp only
 generalize ho:w.obj (bA w a)=o at hO h2⊢;have hk:=hO.ok;rw[dK,if_pos h2,jN]at hk;split
 ·exact h
 rename_i n0;rw[if_pos (Decidable.not_not.1 n0)]at hk;simp only[bV,bOx,bSi,bO4,bE]at hk;obtain⟨⟨⟨⟨k1,k2⟩,k3,k4⟩,k5⟩,k6⟩:=hk;have hF: ∀f∈o.frames,FOk p S w f:=fun f hf=>hO.frames hf
 split
 ·rename_i hv1;have hv:VOk p S w (aE o.vals 0):=hO.vals (dI (by omega))
  split
  ·exact h.set h1 (bBo hv) (by rw[ho,h2])
  ·rename_i hf0;rw[bPi (by omega)]at k6
   refine h.set h1 ?_ (by rw[ho,h2])
   have hm:o.frames.getD (o.frames.length-1) dQ∈o.frames:=mF (by omega)
   have hl:LOk p S w (o.frames.take (o.frames.length-1)):=⟨by simp only[bQe];omega,fun f hf=>hF f (bRj hf),fun f hf=>k6 f (bRj hf)⟩
   have e:aCq o.frames (aE o.vals 0)=o.frames.take (o.frames.length-1)++[⟨(o.frames.getD (o.frames.length-1) dQ).node,(o.frames.getD (o.frames.length-1) dQ).env,(o.frames.getD (o.frames.length-1) dQ).vals++[aE o.vals 0]⟩]:=by
    unfold aCq;generalize hx:(⟨(o.frames.getD (o.frames.length-1) dQ).node,(o.frames.getD (o.frames.length-1) dQ).env,(o.frames.getD (o.frames.length-1) dQ).vals++[aE o.vals 0]⟩:aB)=x;have:=aHu (o:=o) (by omega)
    generalize o.frames.getD (o.frames.length-1) dQ=y at this;have hlen:(o.frames.take (o.frames.length-1)).length=o.frames.length-1:=by simp only[bQe];omega
    conv=>lhs;rw[this]
    rw[List.set_append_right _ _ (by simp only[bPg,bO7,bPe,hlen];omega)]
    simp only[bPg,bO7,bPe,hlen];simp
   rw[e]
   refine aK4 hl (by simp only[bQe];omega) ⟨?_,fun v hv'=>?_⟩
   ·have a1:=(hF _ hm).ok;have a2:=k6 _ hm;simp only[fE,bSi]at a2;simp only[dH,bE,bOx,bSi,bO4]at a1⊢
    refine⟨a1.1,by simp only[bPg,bO7,bPe];omega,fun v hv'=>?_⟩
    rcases bPn.1 hv' with hv'|hv'
    ·exact a1.2.2 v hv'
    ·simp only[bQf]at hv';subst hv';exact hv.ok
   ·simp only at hv'
    rw[<-List.append_assoc]at hv';rcases bPn.1 hv' with hv'|hv'
    ·exact(hF _ hm).ref v hv'
    ·simp only[bQf]at hv';subst hv';exact hv.ref
 ·rename_i hv1;have hz:o.vals.length=0:=by omega
  have hf0:0<o.frames.length:=by omega
  have hm:o.frames.getD (o.frames.length-1) dQ∈o.frames:=mF (by omega)
  have hl:LOk p S w (o.frames.take (o.frames.length-1)):=⟨by simp only[bQe];omega,fun f hf=>hF f (bRj hf),fun f hf=>k6 f (by rw[hz,bQh];exact hf)⟩
  have hfo:=hF _ hm;have hni:inR (o.frames.getD (o.frames.length-1) dQ).node 0 ((p.nodes.length:Int)-1)=true:=by
   have:=hfo.ok;simp only[dH,bOx]at this;exact this.1.1
  split
  ·rename_i hop;have hL:LOk p S w o.frames:=by
    refine⟨by omega,hF,fun f hf=>?_⟩
    rw[aHu hf0]at hf;rcases bPn.1 hf with hf|hf
    ·exact hl.opn f hf
    ·simp only[bQf]at hf;subst hf;simpa[fE]using hop
   refine tE h ha hL (aU9 hp hni (by omega) ?_) fun v hv=>hfo.env hv
   have:=aGp (hp.nodes _ (iK hni));omega
  ·rename_i hop
   refine aX8 hp h ha hl hfo ?_
   have:=hfo.ok;simp only[dH,bE,bOx,bSi]at this;omega
end Go.Proofs.YtmnchlhngpdffaaGreat
namespace Go.Proofs.YtmnchlhngpdffaaGreat
open Go.Abs Go.Proofs
variable {p:aF}
theorem aPv (hs:aS p=true){i:Int}(hi:inR i 0 ((p.nodes.length:Int)-1)=true):(p.node i).asks<=10:=by
 simp only[aS,bOx,bO4]at hs;have:=hs.2 _ (iK hi);simp only[fU,bOx,bSi]at this;unfold aJ.asks;split
 ·omega
 split
 ·omega
 split<;>omega
variable {w:aA}
theorem aFf {l:List aB}(hs:aS p=true)(h:bV p w l=true):l.length<=40/\ ∀f∈l,f.env.length<=30/\ f.vals.length<=10:=by
 simp only[bV,bOx,bSi,bO4]at h
 refine⟨by omega,fun f hf=>?_⟩
 have:=h.2 f hf;simp only[dH,bE,bOx,bSi]at this;obtain⟨⟨h1,h2,_⟩,h3,_⟩:=this;have:=aPv hs h1;omega
theorem aDj {o:aR}(h:dK p w o=true):o.vals.length<=30:=by
 have vs: ∀{l:List aD} {m:Int},bE p w l m=true->(l.length:Int)<=m:=fun h=>by
  simp only[bE,bOx,bSi]at h;exact h.1
 unfold dK at h
 split at h
 ·unfold jN at h
  split at h
  ·simp only[bOx]at h;have:=vs h.1.1.2;omega
  split at h
  ·simp only[bOx]at h;have:=vs h.2;omega
  split at h
  ·simp only[bOx,bSi]at h;omega
  ·cases h
 split at h
 ·simp only[bOx,bSi]at h;omega
 split at h
 ·cases h
 split at h
 ·simp only[bOx]at h;have:=vs h.2;omega
 split at h
 ·simp only[bOx]at h;have:=vs h.2;omega
 split at h
 ·simp only[bOx]at h;have:=vs h.2;omega
 split at h
 ·simp only[bOx]at h;have:=vs h.2;omega
 ·cases h
theorem aX9 {o:aR}(hs:aS p=true)(h:dK p w o=true):fT o=true:=by
 have h1:=aDj h;obtain⟨h2,h3⟩:=aFf hs (aB5 h).2;simp only[fT,bOx,bSi,bO4]
 refine⟨⟨by omega,by omega⟩,fun f hf=>?_⟩
 have:=h3 f hf;omega
theorem aA8 (h:gW w=true):w.tasks.length<=w.objs.length:=by
 simp only[gW,bOx,bSi]at h;rw[h.1];exact bR6
theorem rV (hs:aS p=true)(h:cX p w=true):dB w=true:=by
 obtain⟨a1,a2,a3,a4,a5,a6,a7⟩:=cV.1 h;have:=aA8 a5;simp only[nA,bOx,bSi]at a3;simp only[dB,bOx,bSi,bO4];exact⟨⟨⟨⟨by omega,by omega⟩,by omega⟩,by omega⟩,fun o ho=>aX9 hs (a6 o ho)⟩
theorem aB7 (h:dB w=true):w.few:=by
 simp only[dB,bOx,bSi,bO4]at h;obtain⟨⟨⟨⟨h1,h2⟩,h3⟩,h4⟩,h5⟩:=h
 refine⟨by unfold Few;omega,by unfold Few;omega,by unfold Few;omega,by unfold Few;omega,fun o ho=>?_⟩
 have:=h5 o ho;simp only[fT,bOx,bSi,bO4]at this
 refine⟨by unfold Few;omega,by unfold Few;omega,fun f hf=>?_⟩
 have:=this.2 f hf;exact⟨by unfold Few;omega,by unfold Few;omega⟩
def eS (p:aF)(a:Int):Nat->aA->aA×Nat×Bool
 |0,w=>if(cJ p w a).what=0 then(w,1,false)else(w,0,true)
 |k+1,w=>if(cJ p w a).what=0 then((eS p a k (cJ p w a).w).1,(eS p a k (cJ p w a).w).2.1+1,(eS p a k (cJ p w a).w).2.2)else(w,0,true)
def iP (p:aF):Nat->Nat->aA->Nat->aA×Nat×Bool
 |0,_,w,s=>(w,s,true)
 |n+1,a,w,s=>
  if a<w.tasks.length then
   (if(eS p a (5000-s) w).2.2=true then iP p n (a+1) (eS p a (5000-s) w).1 (s+(eS p a (5000-s) w).2.1)
   else((eS p a (5000-s) w).1,s+(eS p a (5000-s) w).2.1,false))
  else(w,s,true)
def bU (p:aF)(w:aA)(s:Nat):aA×Nat×Bool:=iP p 121 0 w s
def gD (p:aF)(w:aA)(k:Nat):List Int:=((List.range k).filter fun(a:Nat)=>!decide ((cJ p w a).what=2)).map fun(a:Nat)=>(a:Int)
def dL (p:aF)(w:aA):List Int:=gD p w w.tasks.length
def fW (p:aF)(w:aA)(pick:Int):aA×lV×Nat×Int:=
 let r:=bU p w 0
 if r.2.2=false then(r.1,iE,0,8)
 else if dL p r.1=[]then(r.1,iE,0,5)
 else
  let d:=cJ p r.1 ((dL p r.1).getD (pick%(dL p r.1).length).toNat 0);let q:=bU p d.w (r.2.1+1)
  if q.2.2=false \/5000<q.2.1 then(q.1,iE,0,8)else(q.1,d.e,q.2.1,0)
variable {a x:Int}{n:Nat}{S:Nat->Prop}{w0:aA}
section
theorem aNp (h:cP p w0 S w):cP p w (fun _=>True) w:=⟨h.ok,bOy _,fun _ _=>rfl,bR0 _,fun _ _ _ _ _ _=>trivial,fun _ _=>trivial,fun _ _=>trivial⟩
theorem aK8 (hp:eH p)(h:cP p w0 S w)(ha:inR a 0 ((w.tasks.length:Int)-1)=true):w.tasks.length<=(cJ p w a).w.tasks.length:=(mH hp (aNp h) ha).pre.length_le
theorem bFm {m:Nat}(h:inR a 0 ((m:Int)-1)=true)(hl:m<=n):inR a 0 ((n:Int)-1)=true:=by
 simp only[inR,bSi]at h⊢;omega
theorem aK9 (hp:eH p){a:Int}: ∀(k:Nat) {w:aA},cP p w0 S w->inR a 0 ((w.tasks.length:Int)-1)=true->cP p w0 S (eS p a k w).1
 |0,w,h,ha=>by unfold eS;split<;>exact h
 |k+1,w,h,ha=>by
  unfold eS;split
  ·exact aK9 hp k (mH hp h ha) (bFm ha (aK8 hp h ha))
  ·exact h
theorem aFg (hp:eH p): ∀(n:Nat) {a:Nat} {w:aA} {s:Nat},cP p w0 S w->cP p w0 S (iP p n a w s).1
 |0,_,_,_,h=>h
 |n+1,a,w,s,h=>by
  unfold iP;split
  ·rename_i ha;have ha:inR (a:Int) 0 ((w.tasks.length:Int)-1)=true:=by simp only[inR,bSi];omega
   have hi:=aK9 hp (5000-s) h ha;split
   ·exact aFg hp n hi
   ·exact hi
  ·exact h
theorem lF (hp:eH p){s:Nat}(h:cP p w0 S w):cP p w0 S (bU p w s).1:=aFg hp 121 h
theorem aLa (h:x∈dL p w):inR x 0 ((w.tasks.length:Int)-1)=true:=by
 obtain⟨i,hi,rfl⟩:=bPt.1 h;have:=bPu.1 (bQi.1 hi).1;simp only[inR,bSi];omega
theorem aPw {l:List Int}(h: ¬l=[])(pick:Int):(pick%l.length).toNat<l.length:=by
 have h0:0<l.length:=bRv.2 h;have h1:=Int.emod_nonneg pick (show(l.length:Int)≠0 by omega)
 have h2:=Int.emod_lt_of_pos pick (show 0<(l.length:Int)by omega)
 omega
theorem aNq (hp:eH p)(h:cP p w0 S w)(pick:Int):cP p w0 S (fW p w pick).1:=by
 have h1:=lF hp (s:=0) h;unfold fW
 simp only
 split
 ·exact h1
 split
 ·exact h1
 rename_i hl;have h2:=lF hp (s:=(bU p w 0).2.1+1) (mH hp h1 (aLa (mF (d:=0) (aPw hl pick))))
 split<;>exact h2
end
theorem aA9 {p:aF}{a:Int}: ∀(k:Nat) (w:aA),(eS p a k w).2.1<=k+1/\ ((eS p a k w).2.2=true->(eS p a k w).2.1<=k)
 |0,w=>by unfold eS;split<;>simp
 |k+1,w=>by
  obtain⟨h1,h2⟩:=aA9 (p:=p) (a:=a) k (cJ p w a).w;unfold eS;split
  ·exact⟨by simp only;omega,fun h=>by have:=h2 h;simp only;omega⟩
  ·simp
theorem aCt {p:aF}: ∀(n:Nat) {a:Nat} {w:aA} {s:Nat},s<=5001->(iP p n a w s).2.1<=5002
 |0,_,_,_,h=>by show _<=_;simp only[iP];omega
 |n+1,a,w,s,h=>by
  obtain⟨h1,h2⟩:=aA9 (p:=p) (a:=a) (5000-s) w;unfold iP;split
  ·split
   ·rename_i hb;have:=h2 hb;exact aCt n (by omega)
   ·simp only;omega
  ·simp only;omega
set_option maxRecDepth 100000
set_option maxHeartbeats 4000000
theorem uT (h:cP p w0 S w)(ha:inR a 0 ((w.tasks.length:Int)-1)=true):Fit w a:=by
 obtain⟨a1,a2,a3,a4,a5,a6,a7⟩:=cV.1 h.ok;have:=aA8 a5;simp only[nA,bOx,bSi]at a3;exact⟨⟨by omega,by omega,by omega,by omega⟩,ha,(h.task ha).1⟩
variable {v:aD}
theorem fN (h:VOk p S w v)(h5:v.kind=5):inR v.n 0 ((w.objs.length:Int)-1)=true:=by
 have h1:=h.ok;simp only[dJ,h5]at h1
 simpa using h1
def wN (p:aF)(w:aA)(f v:aD):aB:=(fH p w f v).getD dQ
variable {f:aD}
theorem aS3 (hp:eH p)(h:cP p w0 S w)(hf:VOk p S w f)(hv:VOk p S w v):
  PC L 228 [.agg p.cs,.agg w.cs,.agg [.i f.kind,.i f.n],.agg [.i v.kind,.i v.n]] (.tup [.agg [.i (wN p w f v).node,.fz ((wN p w f v).env.map aD.enc),.fz ((wN p w f v).vals.map aD.enc)],.bool (fH p w f v).isSome]):=by
 have hO:=pC w f 2 (fN hf);have hL:=at_ Tryz.func228
 conv at hL=>rhs;reduce
 refine aG hL rfl rfl ?_
 by_cases h4:f.kind=4
 ·have d1:decide (f.kind=4)=true:=decide_eq_true h4;have hi:inR f.n 0 ((p.funs.length:Int)-1)=true:=by
   have h1:=hf.ok;simp only[dJ,h4]at h1
   simpa using h1
  have e:fH p w f v=some ⟨bG0 p f.n,[v],[]⟩:=by unfold fH;rw[if_pos h4]
  rw[wN,e];simp only[go_sem,kK,d1]
  refine aI ?_
  simp only[go_sem,wG hi,qA,kZ,kA,bO0,if_false];simp only[go_sem,bG0,bPp,bQu,bPf,bPw]
 ·have d1:decide (f.kind=4)=false:=decide_eq_false h4
  by_cases h2:dA w f 2=true
  ·have e:fH p w f v=some ⟨oJ (p.node (w.obj f.n).n) 0,(w.obj f.n).vals++[v],[]⟩:=by unfold fH;rw[if_neg h4,if_pos h2]
   obtain⟨a1,a2,a3,a4⟩:=eZ h hf h2;have hk:=a2.ok;simp only[dK,a3]at hk
   simp at hk
   obtain⟨_,⟨b1,b2⟩,b3⟩:=hk;have hlen:=aDj a2.ok;have hkk:=nV (hp.nodes _ (iK b1));rw[b2]at hkk;simp[fC]at hkk;have hk0:inR 0 0 (((p.node (w.obj f.n).n).kids.length:Int)-1)=true:=by simp only[inR,bSi];omega
   have hMo:=aE2 (w.obj f.n).vals v (by omega)
   rw[uS,if_pos h2,h2]at hO;rw[wN,e];simp only[go_sem,kK,d1,hO.ret]
   refine aI ?_
   simp only[go_sem,bK b1,wG hk0,hMo.ret,kA,bO0,if_false];simp only[go_sem,oJ,bPp,bQu,bPf]
  ·have e:fH p w f v=none:=by unfold fH;rw[if_neg h4,if_neg h2]
   rw[bP6]at h2;rw[h2]at hO;rw[wN,e];simp only[go_sem,kK,d1,hO.ret,bR8,bQ3,dQ,bPf]
variable {cnt cnt':Nat->Nat->Nat}{en en':En}
theorem vW.later {en1:En}{cnt1:Nat->Nat->Nat}{tail:List Val}{x:Val}(h:vW en1 cnt1 w tail x en' cnt')(h1: ∀t g,g<cnt 0 t->en1 ⟨0,t,g⟩=en ⟨0,t,g⟩)(h2: ∀t,cnt 0 t<=cnt1 0 t){g8:Nat}(hg:cnt 0 8<=g8)(hg':g8<cnt1 0 8)(Z:Option Ent):
  vW en cnt w tail x (en'.set ⟨0,8,g8⟩ Z) cnt':=by
 obtain⟨⟨g5,g9,vU,vI,rfl,e5,l5,m5,e9,l9,m9,mU,mI⟩,old,up⟩:=h
 refine⟨⟨g5,g9,vU,vI,rfl,by simp only[go_sem,e5],bPb (h2 5) l5,m5,?_,bPb (h2 8) l9,m9,mU.keep (fun g _=>by simp only[go_sem]) (bOy _),mI.keep (fun g _=>by simp only[go_sem]) (bOy _)⟩,fun t g hg1=>?_,fun t=>bPb (h2 t) (up t)⟩
 ·rw[aV6 (by omega)];exact e9
 ·rw[jG hg hg1,old t g (bPo hg1 (h2 t)),h1 t g hg1]
theorem aWi {o:aR}(hf:Fit w a)(h:w.objs.length<120):Fit (eF w o) a:=by
 have hr:=hf.rng;have hl:=hf.len
 refine⟨?_,hf.at_,?_⟩
 ·rw[mW];exact⟨by omega,hl.2⟩
 ·rw[mW];show inR (bA w a) 0 _=true;simp only[inR,bSi]at hr⊢;omega
theorem aS4 (w:aA)(a:Int)(left:List aB)(o:aR){c oa ob:Val}(hc:aCs c (.fz (left.map aB.enc)))(ha:aCs oa (.fz (o.vals.map aD.enc)))(hb:aCs ob (.fz (o.frames.map aB.enc)))(hf:Fit w a):
  WIn L (.fn 181 [] []) [.agg w.cs,.i a,c,.agg [.i o.form,.i o.n,oa,ob]] en cnt fun x en' cnt'=>
   ((120<=w.objs.length/\ x= .agg [.fz ((bI w a 4).w.objs.map aR.enc),.fz ((bI w a 4).w.tasks.map (.int .i64)),.fz ((bI w a 4).w.outs.map bR.enc),.fz ((bI w a 4).w.ins.map (.int .i64)),.i (bI w a 4).w.used,.i (bI w a 4).what,.i (bI w a 4).e.task,.i (bI w a 4).e.act,.i (bI w a 4).e.n,.i (bI w a 4).e.v.kind,.i (bI w a 4).e.v.n]/\ (∀t g,g<cnt 0 t->en' ⟨0,t,g⟩=en ⟨0,t,g⟩)/\ ∀t,cnt 0 t<=cnt' 0 t) \/(w.objs.length<120/\ vW en cnt (bY (eF w o) a left (dO w.objs.length)).w [.i 0,.i 0,.i 0,.i 0,.i 0,.i 0] x en' cnt')):=by
 have hF:=fV w a 4 hf;have hat:=hf.at_;have hrng:=hf.rng;simp only[inR,bSi]at hat hrng;obtain⟨g4,hg4⟩: ∃g,g=cnt 0 4:=⟨_,rfl⟩
 obtain⟨g7,hg7⟩: ∃g,g=cnt 0 7:=⟨_,rfl⟩
 obtain⟨g8,hg8⟩: ∃g,g=cnt 0 8:=⟨_,rfl⟩
 have up0: ∀t,cnt 0 t<=aC (aC (aC cnt 0 4 (g4+1)) 0 7 (g7+1)) 0 8 (g8+1) 0 t:=oC (oC (oC (fun _=>bOy _) hg4) hg7) hg8
 have oldS:=fun{e1:En} {x4 x7 x8:Option Ent} {t g:Nat} (hg:g<cnt 0 t)=>show((e1.set ⟨0,4,g4⟩ x4).set ⟨0,7,g7⟩ x7).set ⟨0,8,g8⟩ x8 ⟨0,t,g⟩=e1 ⟨0,t,g⟩by
  rw[jG (bQd hg8.symm) hg,jG (bQd hg7.symm) hg,jG (bQd hg4.symm) hg]
 have hL:=at_ Tryz.func181
 conv at hL=>rhs;reduce
 refine bD hL rfl rfl ?_
 by_cases h1:120<=w.objs.length
 ·have d1:decide ((120:Int)<=(w.objs.length:Int))=true:=decide_eq_true (by omega)
  simp only[go_sem,kK,<-hg4,<-hg7,<-hg8,d1,hF.ret]
  refine .inl ⟨h1,fun t g hg=>?_,up0⟩
  rw[jG (bQd hg8.symm) hg,oldS hg]
 ·have d1:decide ((120:Int)<=(w.objs.length:Int))=false:=decide_eq_false (by omega)
  have h1:w.objs.length<120:=by omega
  simp only[go_sem,kK,<-hg4,<-hg7,<-hg8,d1]
  refine(aFa w (by omega) (by omega) hf.len (aA5 _ _ w)).mono ?_
  rintro x en1 cnt1 ⟨⟨g5,gT,vU,vI,rfl,e5,l5,m5,eT,lT,mT,mU,mI⟩,old,up⟩
  have e4:=old 4 g4 (by simp[aC])
  have e7:=old 7 g7 (by simp[aC])
  have e8:=old 8 g8 (by simp[aC])
  have hTne: ¬gT=g8:=by have:=lT;simp[aC]at this;omega
  try simp only[go_sem]at e4 e7 e8
  obtain⟨g22,hg22⟩: ∃g,g=cnt1 0 22:=⟨_,rfl⟩
  have hw1:IntKind.i64.wrap (((w.objs.length+1:Nat):Int)-1)=(w.objs.length:Int):=by rw[aW (by omega)];omega
  have hl16:w.objs.length+1<=16777216:=by omega
  simp only[go_sem,e4,e7,e5,ha.snap,hb.snap,ha.wk,hb.wk,uM,nC,bT,eG,uN,bFl,lA,bOz,hl16,bOy,<-hg22]
  refine aI ?_
  simp only[go_sem,hw1,(aKr _).ret,kA,bO0,if_false];have up2: ∀t,cnt 0 t<=aC cnt1 0 22 (g22+1) 0 t:=fun t=>bPb (up0 t) (bPb (up t) (oC (fun _=>bOy _) hg22 t))
  have hn5:cnt 0 5<=g5:=bPb (up0 5) l5;have hn22:cnt 0 22<=g22:=by rw[hg22];exact bPb (up0 22) (up 22)
  have lt8:g8<aC cnt1 0 22 (g22+1) 0 8:=bPo (show g8<aC (aC (aC cnt 0 4 (g4+1)) 0 7 (g7+1)) 0 8 (g8+1) 0 8 by simp[aC]) (bPb (up 8) (oC (fun _=>bOy _) hg22 8))
  refine(aSu (eF w o) a left (dO w.objs.length) hc (aWi hf h1) (vO:= .bl ⟨0,22,g22⟩ 0 (w.objs.length+1)) (vT:= .bl ⟨0,8,gT⟩ 0 w.tasks.length) (vU:=vU) (vI:=vI) (.inr ⟨g22,gT,by rw[mW],?_,by simp[aC],rfl,?_,?_,mU.keep (fun g _=>by simp only[go_sem]) (oC (fun _=>bOy _) hg22 11),mI.keep (fun g _=>by simp only[go_sem]) (oC (fun _=>bOy _) hg22 14)⟩)).mono ?_
  ·simp only[go_sem,eF,bQg]
  ·simp only[go_sem,eT];rfl
  ·exact bPo mT (oC (fun _=>bOy _) hg22 8)
  ·intro x en2 cnt2 hO;have e8':=hO.old 8 g8 lt8
   try simp only[go_sem,e8]at e8'
   have hO':=fun Z=>hO.later (en:=en) (cnt:=cnt) (g8:=g8) (fun t g hg=>by
    rw[jG (bQd hg4.symm) hg,jG (ga:=g22) (a:=22) hn22 hg,jG (ga:=g5) (a:=5) hn5 hg];rw[jG (bQd hg4.symm) hg,old t g (bPo hg (up0 t)),oldS hg]) up2 (bQd hg8.symm) lt8 Z
   obtain⟨⟨g5',g9,vU',vI',rfl,_⟩,_,_⟩:=hO;simp only[go_sem,e8'];exact .inr ⟨h1,hO' _⟩
theorem aIq (w:aA)(a:Int)(left:List aB)(o:aR)(hf:Fit w a):PC L 181 [.agg w.cs,.i a,.fz (left.map aB.enc),.agg [.i o.form,.i o.n,.fz (o.vals.map aD.enc),.fz (o.frames.map aB.enc)]] (.agg [.fz ((iF w a left o).w.objs.map aR.enc),.fz ((iF w a left o).w.tasks.map (.int .i64)),.fz ((iF w a left o).w.outs.map bR.enc),.fz ((iF w a left o).w.ins.map (.int .i64)),.i (iF w a left o).w.used,.i (iF w a left o).what,.i (iF w a left o).e.task,.i (iF w a left o).e.act,.i (iF w a left o).e.n,.i (iF w a left o).e.v.kind,.i (iF w a left o).e.v.n]):=by
 have hL:=at_ Tryz.func181
 conv at hL=>rhs;reduce
 refine aGn hL rfl rfl rfl ((aS4 w a left o (rU _) (rU _) (rU _) hf).mono fun v en' cnt' h=>?_)
 rcases h with⟨h1,rfl,_,_⟩|⟨h1,h2⟩
 ·have e:iF w a left o=bI w a 4:=by unfold iF;rw[if_pos h1]
  rw[e];exact⟨_,_,by simp only[go_sem];rfl,by simp only[go_sem]⟩
 ·have e:iF w a left o=bY (eF w o) a left (dO w.objs.length):=by unfold iF;rw[if_neg (by omega)]
  rw[e];exact h2.snapD (d:=bY (eF w o) a left (dO w.objs.length))
variable {left:List aB}
theorem aVa (hp:eH p)(h:cP p w0 S w)(ha:inR a 0 ((w.tasks.length:Int)-1)=true)(hl:LOk p S w left)(hf:VOk p S w f)(hv:VOk p S w v):
  PC L 182 [.agg p.cs,.agg w.cs,.i a,.fz (left.map aB.enc),.agg [.i f.kind,.i f.n],.agg [.i v.kind,.i v.n]] (.agg [.fz ((eX p w a left f v).w.objs.map aR.enc),.fz ((eX p w a left f v).w.tasks.map (.int .i64)),.fz ((eX p w a left f v).w.outs.map bR.enc),.fz ((eX p w a left f v).w.ins.map (.int .i64)),.i (eX p w a left f v).w.used,.i (eX p w a left f v).what,.i (eX p w a left f v).e.task,.i (eX p w a left f v).e.act,.i (eX p w a left f v).e.n,.i (eX p w a left f v).e.v.kind,.i (eX p w a left f v).e.v.n]):=by
 have hfit:=uT h ha;have hO:=pC w f 5 (fN hf);have hF4:=fV w a 4 hfit;have hF2:=fV w a 2 hfit;have hlen:=hl.len
 by_cases h5:dA w f 5=true
 ·obtain⟨_,a2,a3,_⟩:=eZ h hf h5;have hk:=aGq a2 a3;have hkl:=hk.len;have hk0:0<(w.obj f.n).frames.length:=by
   have:=a2.ok;rw[dK,if_neg (by rw[a3];decide),if_pos a3]at this
   simp only[bOx,bSi]at this;omega
  rw[uS,if_pos h5,h5]at hO;have hB:=jI w a (left++(w.obj f.n).frames) v hfit;rw[bQg]at hB;have hl1:left.length<=16777216:=by omega
  have hl2:(w.obj f.n).frames.length<=16777216:=by omega
  have hl3:left.length+(w.obj f.n).frames.length<=16777216:=by omega
  have he2:(w.obj f.n).frames.isEmpty=false:=aKq hk0;have e:eX p w a left f v=if 40<left.length+(w.obj f.n).frames.length then bI w a 4 else bY w a (left++(w.obj f.n).frames) v:=by
   unfold eX;rw[if_pos h5,bPg]
  rw[e];have hL:=at_ Tryz.func182
  conv at hL=>rhs;reduce
  refine aG hL rfl rfl ?_
  by_cases h40:40<left.length+(w.obj f.n).frames.length
  ·rw[if_pos h40];have d1:decide ((40:Int)<((left.length+(w.obj f.n).frames.length:Nat):Int))=true:=decide_eq_true (by omega)
   cases h0:left.isEmpty with
   |true=>
    have:left=[]:=by simpa using h0
    subst this;simp only[bPe,bPs]at d1;simp only[go_sem,kK,hO.ret]
    refine aI ?_
    simp only[go_sem,kK,bT,eG,nD,iX,iI,he2,hl2,jA,bOz,kA,bO0,if_false];simp only[go_sem,kK,d1,hF4.ret]
   |false=>
    simp only[go_sem,kK,hO.ret]
    refine aI ?_
    simp only[go_sem,kK,bT,eG,iX,uN,lA,iI,h0,hl1,hl3,jA,bOz,bOy,kA,bO0,if_false];simp only[go_sem,kK,d1,hF4.ret]
  ·rw[if_neg h40];have d1:decide ((40:Int)<((left.length+(w.obj f.n).frames.length:Nat):Int))=false:=decide_eq_false (by omega)
   cases h0:left.isEmpty with
   |true=>
    have:left=[]:=by simpa using h0
    subst this;simp only[bPe,bPs]at d1;simp only[bPf,bP1]at hB⊢;simp only[go_sem,kK,hO.ret]
    refine aI ?_
    simp only[go_sem,kK,bT,eG,nD,iX,iI,he2,hl2,jA,bOz,kA,bO0,if_false];simp only[go_sem,d1,hB.ret,bOz,bOy,aPj]
   |false=>
    simp only[go_sem,kK,hO.ret]
    refine aI ?_
    simp only[go_sem,kK,bT,eG,iX,uN,lA,iI,h0,hl1,hl3,jA,bOz,bOy,kA,bO0,if_false];simp only[go_sem,d1,hB.ret,bOz,bPg,bOy,bPi]
 ·have hB:=aS3 hp h hf hv;rw[bP6]at h5;rw[h5]at hO;have hL:=at_ Tryz.func182
  conv at hL=>rhs;reduce
  refine aG hL rfl rfl ?_
  cases hb:fH p w f v with
  |none=>
   have e:eX p w a left f v=bI w a 2:=by unfold eX;rw[if_neg (by rw[h5];decide),hb]
   rw[e];rw[hb]at hB;simp only[go_sem,kK,hO.ret,hB.ret,bQ3,hF2.ret]
  |some b=>
   have e:eX p w a left f v=gL w a left b.node b.env:=by unfold eX;rw[if_neg (by rw[h5];decide),hb]
   rw[e];have hv:wN p w f v=b:=by rw[wN,hb];rfl
   rw[hb,hv]at hB;have hN:=aB4 w a left b.node b.env hfit (by omega)
   simp only[go_sem,kK,hO.ret,hB.ret,bQu,hN.ret]
theorem uU (u v:aD):(decide (u.kind=v.kind)&&decide (u.n=v.n))=decide (u=v):=by
 cases u;cases v;simp only[aD.mk.injEq];rw[bRd];simp
theorem aWj (h:VOk p S w v)(h1:v.kind=1): -1000000000<=v.n/\ v.n<=1000000000:=by
 have:=h.ok;rw[dJ,if_pos h1]at this
 simpa[inR]using this
theorem bG2 {y:Int}(hx: -1000000000<=x/\ x<=1000000000)(hy: -1000000000<=y/\ y<=1000000000): -1000000000000000000<=x*y/\ x*y<=1000000000000000000:=by
 have h1:x.natAbs<=1000000000:=by omega
 have h2:y.natAbs<=1000000000:=by omega
 have h3:(x*y).natAbs<=1000000000*1000000000:=by rw[Int.natAbs_mul];exact Nat.mul_le_mul h1 h2
 omega
variable {op:Int}{u:aD}
theorem uV (h:cP p w0 S w)(ha:inR a 0 ((w.tasks.length:Int)-1)=true)(hu:VOk p S w u)(hv:VOk p S w v)(ho:op=9 \/op=10 \/op=11 \/op=12 \/op=13):
  PC L 183 [.agg w.cs,.i a,.fz (left.map aB.enc),.i op,.agg [.i u.kind,.i u.n],.agg [.i v.kind,.i v.n]] (.agg [.fz ((cM w a left op u v).w.objs.map aR.enc),.fz ((cM w a left op u v).w.tasks.map (.int .i64)),.fz ((cM w a left op u v).w.outs.map bR.enc),.fz ((cM w a left op u v).w.ins.map (.int .i64)),.i (cM w a left op u v).w.used,.i (cM w a left op u v).what,.i (cM w a left op u v).e.task,.i (cM w a left op u v).e.act,.i (cM w a left op u v).e.n,.i (cM w a left op u v).e.v.kind,.i (cM w a left op u v).e.v.n]):=by
 have hfit:=uT h ha;have hF2:=fV w a 2 hfit;have hF4:=fV w a 4 hfit;have hI:=nQ (qV op u.n v.n) (-1000000000) 1000000000
 by_cases h13:op=13
 ·subst h13
  by_cases h1:u.kind=v.kind
  ·have d1:decide (u.kind=v.kind)=true:=decide_eq_true h1
   by_cases h3:3<u.kind
   ·have d3:decide (3<u.kind)=true:=decide_eq_true h3;have e:cM w a left 13 u v=bI w a 2:=by unfold cM;rw[if_pos rfl,if_pos (.inr h3)]
    rw[e]
    refine aG aHh rfl rfl ?_
    simp only[go_sem,kK,aEp,d1,d3,hF2.ret]
   ·have d3:decide (3<u.kind)=false:=decide_eq_false h3;have e:cM w a left 13 u v=bY w a left (mR (decide (u=v))):=by
     unfold cM;rw[if_pos rfl,if_neg (by rintro(h|h);exact h h1;exact h3 h)]
    rw[e];have hB:=jI w a left (mR (decide (u=v))) hfit
    refine aG aHh rfl rfl ?_
    simp only[go_sem,kK,aEp,d1,d3]
    refine aI ?_
    simp only[go_sem,uU,(aIo _).ret,hB.ret,kA,bO0,if_false]
  ·have d1:decide (u.kind=v.kind)=false:=decide_eq_false h1;have e:cM w a left 13 u v=bI w a 2:=by unfold cM;rw[if_pos rfl,if_pos (.inl h1)]
   rw[e]
   refine aG aHh rfl rfl ?_
   simp only[go_sem,kK,aEp,d1,hF2.ret]
 ·have d13:decide (op=13)=false:=decide_eq_false h13
  by_cases h1:u.kind=1
  ·have d1:decide (u.kind=1)=true:=decide_eq_true h1
   by_cases h2:v.kind=1
   ·have d2:decide (v.kind=1)=true:=decide_eq_true h2;have bu:=aWj hu h1;have bv:=aWj hv h2;have bm:=bG2 bu bv
    by_cases h12:op=12
    ·subst h12;have e:cM w a left 12 u v=bY w a left (mR (decide (u.n<v.n))):=by
      unfold cM;rw[if_neg (by decide),if_neg (by rintro(h|h);exact h h1;exact h h2),if_pos rfl]
     rw[e];have hB:=jI w a left (mR (decide (u.n<v.n))) hfit
     refine aG aHh rfl rfl ?_
     simp only[go_sem,kK,aEp,d1,d2]
     refine aI ?_
     simp only[go_sem,(aIo _).ret,hB.ret,kA,bO0,if_false]
    ·have d12:decide (op=12)=false:=decide_eq_false h12;have e:cM w a left op u v=if inR (qV op u.n v.n) (-1000000000) 1000000000=true then bY w a left (mK (qV op u.n v.n))else bI w a 4:=by
      unfold cM;rw[if_neg h13,if_neg (by rintro(h|h);exact h h1;exact h h2),if_neg h12]
     rw[e];have hB:=jI w a left (mK (qV op u.n v.n)) hfit;have ho':op=9 \/op=10 \/op=11:=by omega
     rcases ho' with rfl|rfl|rfl
     all_goals
      simp only[qV]at hI hB⊢
      simp at hI hB⊢
      split
      ·rename_i hin;rw[hin]at hI
       refine aG aHh rfl rfl ?_
       simp only[go_sem,kK,aEp,d1,d2,aW (show-9223372036854775808<=u.n+v.n/\ u.n+v.n<=9223372036854775807 by omega),aW (show-9223372036854775808<=u.n-v.n/\ u.n-v.n<=9223372036854775807 by omega),aW (show-9223372036854775808<=u.n*v.n/\ u.n*v.n<=9223372036854775807 by omega),hI.ret]
       refine aI ?_
       simp only[go_sem,(aDh _).ret,hB.ret,kA,bO0,if_false]
      ·rename_i hin;rw[bP6]at hin;rw[hin]at hI
       refine aG aHh rfl rfl ?_
       simp only[go_sem,kK,aEp,d1,d2,aW (show-9223372036854775808<=u.n+v.n/\ u.n+v.n<=9223372036854775807 by omega),aW (show-9223372036854775808<=u.n-v.n/\ u.n-v.n<=9223372036854775807 by omega),aW (show-9223372036854775808<=u.n*v.n/\ u.n*v.n<=9223372036854775807 by omega),hI.ret,hF4.ret]
   ·have d2:decide (v.kind=1)=false:=decide_eq_false h2;have e:cM w a left op u v=bI w a 2:=by unfold cM;rw[if_neg h13,if_pos (.inr h2)]
    rw[e]
    refine aG aHh rfl rfl ?_
    simp only[go_sem,kK,aEp,d13,d1,d2,hF2.ret]
  ·have d1:decide (u.kind=1)=false:=decide_eq_false h1;have e:cM w a left op u v=bI w a 2:=by unfold cM;rw[if_neg h13,if_pos (.inl h1)]
   rw[e]
   refine aG aHh rfl rfl ?_
   simp only[go_sem,kK,aEp,d13,d1,hF2.ret]
def mX (w:aA)(ps:List Pat)(vs:List aD)(k:Nat):Option (List aD):=gX w (ps.take k) (vs.take k)
theorem aBa (w:aA): ∀(ps:List Pat) (vs:List aD) (q:Pat) (v:aD),ps.length=vs.length->gX w (ps++[q]) (vs++[v])=(match gX w ps vs with|none=>none|some l=>match gR w q v with|none=>none|some r=>some (l++r))
 |[],[],q,v,_=>by
  simp only[bP1,gX];cases gR w q v<;>simp
 |[],_::_,_,_,h=>by cases h
 |_::_,[],_,_,h=>by cases h
 |x::ps,y::vs,q,v,h=>by
  simp only[bRa,gX];rw[aBa w ps vs q v (by simpa using h)]
  cases gR w x y with
  |none=>rfl
  |some l=>
   cases gX w ps vs with
   |none=>rfl
   |some r=>
    cases gR w q v with
    |none=>rfl
    |some s=>simp[List.append_assoc]
variable {ps:List Pat}{vs:List aD}
theorem aFh : ∀{k:Nat},ps.length=vs.length->mX w ps vs k=none->gX w ps vs=none:=by
 intro k hl h;have key: ∀m,k<=m->mX w ps vs m=none:=by
  intro m
  induction m with
  |zero=>intro hk;have:k=0:=(by omega);rw[this]at h;exact h
  |succ m ih=>
   intro hk
   by_cases hm:k=m+1
   ·rw[<-hm];exact h
   ·have h1:=ih (by omega)
    by_cases hlt:m<ps.length
    ·unfold mX at h1⊢;rw[kW hlt,kW (show m<vs.length by omega),aBa _ _ _ _ _ (by simp;omega),h1]
    ·unfold mX at h1⊢;rw[bPi (by omega),bPi (by omega)]
     rw[bPi (by omega),bPi (by omega)]at h1
     exact h1
 have:=key (max k ps.length) (by omega)
 unfold mX at this;rw[bPi (by omega),bPi (by omega)]at this
 exact this
variable {k:Nat}
theorem aFi (h1:k<ps.length)(h2:k<vs.length):mX w ps vs (k+1)=(match mX w ps vs k with|none=>none|some l=>match gR w ps[k] vs[k]with|none=>none|some r=>some (l++r)):=by
 unfold mX;rw[kW h1,kW h2,aBa _ _ _ _ _ (by simp;omega)]
mutual
def pD :Pat->Nat
 | .mk _ _ _ ps=>1+gZ ps
def gZ :List Pat->Nat
 |[]=>0
 |q::ps=>pD q+gZ ps
end
theorem tF (q:Pat):pD q=1+gZ q.parts:=by cases q;rw[pD];rfl
theorem aBb : ∀(l:List Pat),l.length<=gZ l
 |[]=>by simp[gZ]
 |q::l=>by
  have:=aBb l;have:=tF q;simp only[bO7,gZ];omega
theorem vX : ∀{l:List Pat} {q:Pat},q∈l->pD q<=gZ l
 |x::l,q,h=>by
  rw[gZ];rcases bP0.1 h with rfl|h
  ·omega
  ·have:=vX h;omega
theorem yW : ∀(l:List Pat) (k:Nat),gZ (l.take k)<=gZ l
 |[],k=>by simp[gZ]
 |q::l,0=>by simp[gZ]
 |q::l,k+1=>by
  have:=yW l k;simp only[bO5,gZ];omega
mutual
theorem aB8 {w:aA}: ∀(q:Pat) {v:aD} {l:List aD},gR w q v=some l->l.length<=pD q
 | .mk f n t ps,v,l,hm=>by
  unfold gR at hm;rw[pD]
  split at hm
  ·cases hm;simp
  split at hm
  ·cases hm;simp
  split at hm
  ·split at hm
   ·cases hm;simp
   ·cases hm
  split at hm
  ·split at hm
   ·cases hm;simp
   ·cases hm
  split at hm
  ·split at hm
   ·cases hm;simp
   ·cases hm
  split at hm
  ·have:=yX ps hm;omega
  ·cases hm
theorem yX {w:aA}: ∀(ps:List Pat) {vs l:List aD},gX w ps vs=some l->l.length<=gZ ps
 |[],vs,l,hm=>by
  simp only[gX,bOw]at hm;subst hm;simp
 |q::ps,[],l,hm=>by
  simp only[gX,bOw]at hm;subst hm;simp
 |q::ps,v::vs,l,hm=>by
  simp only[gX]at hm
  split at hm
  ·cases hm
  rename_i l1 h1
  split at hm
  ·cases hm
  rename_i l2 h2;simp only[bOw]at hm;subst hm;have:=aB8 q h1;have:=yX ps h2;simp only[bPg,gZ];omega
end
theorem aS5 : ∀(q:Pat) (n:Int),-1<=n->0<=qD q n->qD q n+pD q=n:=by
 intro q
 induction q using Pat.ind with
 |h p ih=>
  intro n hn h;rw[aKc]at h⊢;rw[tF];have key: ∀(l:List Pat),(∀q∈l,q∈p.parts)-> ∀m:Int,-1<=m->0<=jO l m->jO l m+gZ l=m:=by
   intro l
   induction l with
   |nil=>intro _ m _ _;simp[jO,gZ]
   |cons q l ihl=>
    intro hl m hm h0;rw[jO]at h0⊢
    by_cases h1:0<=m
    ·rw[if_pos h1]at h0⊢;have hw:=aKd q m (by omega)
     have h2:0<=qD q m:=by
      by_cases h3:0<=qD q m
      ·exact h3
      ·rw[aDc (by omega)]at h0;exact absurd h0 h3
     have e1:=ih q (hl q (by simp)) m (by omega) h2
     have e2:=ihl (fun x hx=>hl x (by simp[hx])) (qD q m) (by omega) h0
     rw[gZ];omega
    ·rw[if_neg h1]at h0;omega
  by_cases h1:n<1
  ·rw[if_pos h1]at h;omega
  ·rw[if_neg h1]at h⊢;have:=key p.parts (fun _ h=>h) (n-1) (by omega) h
   omega
def aPx (w:aA)(q:Pat)(v:aD):Val:= .tup [.fz (((gR w q v).getD []).map aD.enc),.bool (gR w q v).isSome]
theorem aNr (w:aA)(q:Pat)(v:aD):gR w q v=if q.form=1 then some []else if q.form=2 then some [v]else if q.form=3 then(if v=mK q.n then some []else none)else if q.form=4 then(if v=mR (decide (q.n=1))then some []else none)
  else if q.form=5 then(if v=bO then some []else none)else if dA w v 1=true/\ (w.obj v.n).n=q.n/\ (w.obj v.n).vals.length=q.parts.length then gX w q.parts (w.obj v.n).vals else none:=by
 cases q;rw[gR];rfl
theorem aB9 {α:Type}(c:Prop)[Decidable c]:((if c then some ([]:List α)else none).getD []=[])/\ (if c then some ([]:List α)else none).isSome=decide c:=by
 by_cases h:c<;>simp[h]
theorem bBq (h:cP p w0 S w): ∀(q:Pat),pD q<=1000-> ∀(v:aD),VOk p S w v->PC L 229 [.agg w.cs,.agg [.i q.form,.i q.n,.str q.text,.fz (q.parts.map Pat.enc)],.agg [.i v.kind,.i v.n]] (aPx w q v):=by
 intro q
 induction q using Pat.ind with
 |h q ih=>
 intro hq v hv;have hO:=pC w v 1 (fN hv);unfold aPx;rw[aNr]
 by_cases h1:q.form=1
 ·rw[if_pos h1]
  refine aG aEq rfl rfl ?_
  simp only[go_sem,kK,aCl,h1,bPp,bQu]
 rw[if_neg h1];have d1:decide (q.form=1)=false:=decide_eq_false h1
 by_cases h2:q.form=2
 ·rw[if_pos h2]
  refine aG aEq rfl rfl ?_
  simp only[go_sem,kK,aCl,h2,bPp,bQu]
 rw[if_neg h2];have d2:decide (q.form=2)=false:=decide_eq_false h2
 by_cases h3:q.form=3
 ·rw[if_pos h3]
  refine aG aEq rfl rfl ?_
  simp only[go_sem,kK,aCl,h3]
  refine aI ?_
  simp only[go_sem,(aDh _).ret,uU,aB9,kA,bO0,if_false]
 rw[if_neg h3];have d3:decide (q.form=3)=false:=decide_eq_false h3
 by_cases h4:q.form=4
 ·rw[if_pos h4]
  refine aG aEq rfl rfl ?_
  simp only[go_sem,kK,aCl,h4]
  refine aI ?_
  simp only[go_sem,(aIo _).ret,uU,aB9,kA,bO0,if_false]
 rw[if_neg h4];have d4:decide (q.form=4)=false:=decide_eq_false h4
 by_cases h5:q.form=5
 ·rw[if_pos h5]
  refine aG aEq rfl rfl ?_
  simp only[go_sem,kK,aCl,h5]
  refine aI ?_
  simp only[go_sem,mS.ret,uU,aB9,kA,bO0,if_false]
 rw[if_neg h5];have d5:decide (q.form=5)=false:=decide_eq_false h5
 by_cases hi:dA w v 1=true
 ·rw[uS,if_pos hi,hi]at hO
  by_cases hn:(w.obj v.n).n=q.n
  ·have dn:decide ((w.obj v.n).n=q.n)=true:=decide_eq_true hn
   by_cases hl:(w.obj v.n).vals.length=q.parts.length
   ·have dl:decide ((w.obj v.n).vals.length=q.parts.length)=true:=decide_eq_true hl;rw[if_pos ⟨hi,hn,hl⟩];obtain⟨_,a2,_,_⟩:=eZ h hv hi
    refine aG aEq rfl rfl ?_
    simp only[go_sem,kK,aCl,d1,d2,d3,d4,d5,hO.ret,dn,dl]
    refine bQ q.parts.length (fun k st=> ∃fr en cnt vO l,st=⟨fr,en,cnt⟩/\ fr 3= .ptr ⟨0,3,0⟩ 0/\ en ⟨0,3,0⟩=some (.box [.fz (w.objs.map aR.enc),.fz (w.tasks.map (.int .i64)),.fz (w.outs.map bR.enc),.fz (w.ins.map (.int .i64)),.i w.used] false)/\ fr 4= .ptr ⟨0,4,0⟩ 0/\ en ⟨0,4,0⟩=some (.box [.i q.form,.i q.n,.str q.text,.fz (q.parts.map Pat.enc)] false)/\ fr 8= .ptr ⟨0,8,0⟩ 0/\ en ⟨0,8,0⟩=some (.box [.i (w.obj v.n).form,.i (w.obj v.n).n,.fz ((w.obj v.n).vals.map aD.enc),.fz ((w.obj v.n).frames.map aB.enc)] false)/\ fr 10=vO/\ fr 11= .i k/\
     mX w q.parts (w.obj v.n).vals k=some l/\ jK en vO 2 (l.map aD.enc) [92]) 0 (bO8 _) ⟨_,_,_,.cl [],[],rfl,by simp only[go_sem],by simp only[go_sem],by simp only[go_sem],by simp only[go_sem],by simp only[go_sem],by simp only[go_sem],by simp only[go_sem],by simp only[go_sem],by simp[mX,gX],jK.nil _ _⟩ ?_
    rintro k st hk ⟨fr,en,cnt,vO,l,rfl,k3,e3,k4,e4,k8,e8,k10,k11,hm,hv'⟩
    simp only[go_sem,kK,k4,e4,k11]
    refine aH (fun hq2=>?_) (fun hq2=>?_)
    ·have h':k<q.parts.length:=of_decide_eq_true hq2;have h'':k<(w.obj v.n).vals.length:=by omega
     have hM:=ih q.parts[k] (bO6 h') (by
      have:=vX (bO6 h');rw[tF]at hq;omega) (w.obj v.n).vals[k] (a2.vals (bO6 h''))
     have hst:=aFi (w:=w) h' h'';rw[hm]at hst;unfold aPx at hM;cases hx:gR w q.parts[k] (w.obj v.n).vals[k]with
     |none=>
      rw[hx]at hM hst;have hnone:=aFh hl.symm hst;rw[hnone];simp only[go_sem,kK,k3,e3,k4,e4,k8,e8,k11,h',h'',hM.ret,bR8,bQ3,bPf]
     |some r=>
      rw[hx]at hM hst;have hr:=aB8 _ hx;have hr2:=vX (bO6 h');have hl3:=yX _ hm;have hl4:=yW q.parts k;have hlp:=aBb q.parts;rw[tF]at hq;simp only[go_sem,kK,k3,e3,k4,e4,k8,e8,k10,k11,h',h'',hM.ret,bPp,bQu]
      refine aAm (D:=[92]) (xs:=l.map aD.enc) (ys:=r.map aD.enc) (rs:=[]) ?_ ?_ ?_ ?_ ?_
      ·simp only[go_sem];exact hv'
      ·simp only[go_sem]
      ·exact sR r
      ·simp only[bOz];omega
      ·intro v' en' cnt' hown hen hcnt;have q3:en' ⟨0,3,0⟩=some (.box [.fz (w.objs.map aR.enc),.fz (w.tasks.map (.int .i64)),.fz (w.outs.map bR.enc),.fz (w.ins.map (.int .i64)),.i w.used] false):=by rw[hen 0 3 0 (.inr ⟨by decide,by simp⟩)];simp only[go_sem,e3]
       have q4:en' ⟨0,4,0⟩=some (.box [.i q.form,.i q.n,.str q.text,.fz (q.parts.map Pat.enc)] false):=by rw[hen 0 4 0 (.inr ⟨by decide,by simp⟩)];simp only[go_sem,e4]
       have q8:en' ⟨0,8,0⟩=some (.box [.i (w.obj v.n).form,.i (w.obj v.n).n,.fz ((w.obj v.n).vals.map aD.enc),.fz ((w.obj v.n).frames.map aB.enc)] false):=by rw[hen 0 8 0 (.inr ⟨by decide,by simp⟩)];simp only[go_sem,e8]
       simp only[go_sem,k11]
       refine⟨_,_,_,v',l++r,rfl,?_⟩
       simp only[go_sem,k3,q3,k4,q4,k8,q8,aT h' (show Few q.parts.length by unfold Few;omega)]
       refine⟨hst,?_⟩
       rw[bQg];exact hown.sub (by simp)
    ·have:k=q.parts.length:=by simp at hq2;omega
     subst this;have hfull:gX w q.parts (w.obj v.n).vals=some l:=by
      unfold mX at hm;rw[bQp,<-hl,bQp]at hm;exact hm
     obtain⟨r1,ks,s1,_,s2,_⟩:=hv'.snap 6;rw[hfull];simp only[go_sem,k10,s1,s2,bPp,bQu]
   ·have dl:decide ((w.obj v.n).vals.length=q.parts.length)=false:=decide_eq_false hl;rw[if_neg (fun h=>hl h.2.2)]
    refine aG aEq rfl rfl ?_
    simp only[go_sem,kK,aCl,d1,d2,d3,d4,d5,hO.ret,dn,dl,bR8,bQ3]
  ·have dn:decide ((w.obj v.n).n=q.n)=false:=decide_eq_false hn;rw[if_neg (fun h=>hn h.2.1)]
   refine aG aEq rfl rfl ?_
   simp only[go_sem,kK,aCl,d1,d2,d3,d4,d5,hO.ret,dn,bR8,bQ3]
 ·rw[uS,if_neg hi]at hO;rw[if_neg (fun h=>hi h.1)]
  rw[bP6]at hi;rw[hi]at hO
  refine aG aEq rfl rfl ?_
  simp only[go_sem,kK,aCl,d1,d2,d3,d4,d5,hO.ret,bR8,bQ3]
theorem aDk :cY n []=true:=(rfl)
variable {env:List aD}
theorem aPy {kids:List Int}{l:List Pat}(hk:k<l.length):jQ w a left kids env u k (l.drop k)=(match gR w l[k] u with|some r=>gL w a left (kids.getD (1+k) 0) (env++r)|none=>jQ w a left kids env u (k+1) (l.drop (k+1))):=by
 rw[bPy hk,jQ];cases gR w l[k] u<;>rfl
theorem aVb (h:cP p w0 S w)(ha:inR a 0 ((w.tasks.length:Int)-1)=true)(hl:LOk p S w left)(n:aJ)(env:List aD)(hu:VOk p S w u)(he:env.length<=30)(hkl:1+n.pats.length<=n.kids.length)(hpc: ∀q∈n.pats,pD q<=1000)(hfew:n.kids.length<=1000):
  PC L 184 [.agg w.cs,.i a,.fz (left.map aB.enc),.agg [.i n.op,.i n.n,.fz (n.kids.map (.int .i64)),.fz (n.pats.map Pat.enc)],.fz (env.map aD.enc),.agg [.i u.kind,.i u.n]] (.agg [.fz ((jX w a left n env u).w.objs.map aR.enc),.fz ((jX w a left n env u).w.tasks.map (.int .i64)),.fz ((jX w a left n env u).w.outs.map bR.enc),.fz ((jX w a left n env u).w.ins.map (.int .i64)),.i (jX w a left n env u).w.used,.i (jX w a left n env u).what,.i (jX w a left n env u).e.task,.i (jX w a left n env u).e.act,.i (jX w a left n env u).e.n,.i (jX w a left n env u).e.v.kind,.i (jX w a left n env u).e.v.n]):=by
 have hfit:=uT h ha;have hF:=fV w a 3 hfit;have hlen:=hl.len;have hL:=at_ Tryz.func184
 conv at hL=>rhs;reduce
 refine aG hL rfl rfl ?_
 simp only[go_sem,kK]
 refine bQ n.pats.length (fun k st=> ∃fr en cnt,st=⟨fr,en,cnt⟩/\ fr 1= .i a/\ fr 2= .fz (left.map aB.enc)/\ fr 4= .fz (env.map aD.enc)/\ fr 6= .ptr ⟨0,6,0⟩ 0/\ en ⟨0,6,0⟩=some (.box [.fz (w.objs.map aR.enc),.fz (w.tasks.map (.int .i64)),.fz (w.outs.map bR.enc),.fz (w.ins.map (.int .i64)),.i w.used] false)/\ fr 9= .ptr ⟨0,9,0⟩ 0/\ en ⟨0,9,0⟩=some (.box [.i n.op,.i n.n,.fz (n.kids.map (.int .i64)),.fz (n.pats.map Pat.enc)] false)/\ fr 11= .ptr ⟨0,11,0⟩ 0/\ en ⟨0,11,0⟩=some (.box [.i u.kind,.i u.n] false)/\ fr 12= .ptr ⟨0,12,0⟩ 0/\ en ⟨0,12,0⟩=some (.box [.cl [],.cl [],.cl [],.cl [],.i 0,.i 0,.i 0,.i 0,.i 0,.i 0,.i 0] false)/\ fr 13= .i k/\
  jQ w a left n.kids env u k (n.pats.drop k)=jX w a left n env u) 0 (bO8 _) ⟨_,_,_,rfl,by simp only[go_sem],by simp only[go_sem],by simp only[go_sem],by simp only[go_sem],by simp only[go_sem],by simp only[go_sem],by simp only[go_sem],by simp only[go_sem],by simp only[go_sem],by simp only[go_sem],by simp only[go_sem],by simp only[go_sem],by rw[bQ6];rfl⟩ ?_
 rintro k st hk ⟨fr,en,cnt,rfl,k1,k2,k4,k6,e6,k9,e9,k11,e11,k12,e12,k13,hD⟩
 simp only[go_sem,kK,k9,e9,k13]
 refine aH (fun hq2=>?_) (fun hq2=>?_)
 ·have h':k<n.pats.length:=of_decide_eq_true hq2;have hM:=bBq h n.pats[k] (hpc _ (bO6 h')) u hu;rw[aPy h']at hD;unfold aPx at hM;have hw1:IntKind.i64.wrap (1+(k:Int))=((1+k:Nat):Int):=by rw[aW (by omega)];omega
  have hki:1+k<n.kids.length:=by omega
  have hkg:n.kids.getD (1+k) 0=n.kids[1+k]:=by simp[bO2,hki]
  cases hx:gR w n.pats[k] u with
  |none=>
   rw[hx]at hM hD;simp only[go_sem,kK,k6,e6,k9,e9,k11,e11,k13,h',hM.ret,bR8,bQ3]
   refine⟨_,_,_,rfl,?_⟩
   simp only[go_sem,k1,k2,k4,k6,e6,k9,e9,k11,e11,k12,e12,aT h' (show Few n.pats.length by unfold Few;omega)]
   exact hD
  |some r=>
   rw[hx]at hM hD;have hr:=aB8 _ hx;have hpk:=hpc _ (bO6 h');have hN:=aB4 w a left n.kids[1+k] (env++r) hfit (by omega)
   rw[bQg]at hN;rw[<-hD];have hl1:env.length<=16777216:=by omega
   have hl2:r.length<=16777216:=by omega
   have hl3:env.length+r.length<=16777216:=by omega
   simp only[go_sem,kK,k6,e6,k9,e9,k11,e11,k13,h',hM.ret,bPp,bQu]
   refine aI ?_
   cases h0:env.isEmpty<;>cases h1:r.isEmpty
   all_goals
    try(have h0':env=[]:=(by simpa using h0);subst h0')
    try(have h1':r=[]:=(by simpa using h1);subst h1')
    try simp only[bPf,bP1,bPx]at hN
    simp only[go_sem,k1,k2,k4,k6,e6,k9,e9,k12,e12,k13,hw1,hki,hkg,bT,eG,nD,iX,uN,lA,iI,h0,h1,hl1,hl2,hl3,sR,aDk,bOz,bPg,bPe,bQh,bPs,bPx,bPf,bP1,bOy,bPi,hN.ret,kA,bO0,if_false]
 ·have:k=n.pats.length:=by simp at hq2;omega
  subst this;rw[bQt,jQ]at hD;rw[<-hD];simp only[go_sem,k1,k6,e6,k12,e12,hF.ret]
variable {kl:Key}{ko:Option Key}{xs:List aD}
section
variable {kt kr:Key}{f:aB}{n:aJ}{back:List aD}{bv:Val}
structure Acc (en:En) (cnt:Nat->Nat->Nat) (kl:Key) (ko:Option Key) (xs:List aD):Prop where
 ok:Old kl cnt
 v:(ko=none/\ xs=[]/\ en kl=some (.box [.cl []] false)) \/ ∃t g b,ko=some ⟨0,t,g⟩/\ g<cnt 0 t/\ en ⟨0,t,g⟩=some (.blk 2 (xs.map aD.enc) b)/\ en kl=some (.box [.bl ⟨0,t,g⟩ 0 xs.length] false)
theorem Acc.to (h:Acc en cnt kl ko xs)(hk: ∀x,Old x cnt->x=kl \/some x=ko->en' x=en x)(hu: ∀t,cnt 0 t<=cnt' 0 t):Acc en' cnt' kl ko xs:=by
 refine⟨h.ok.up hu,h.v.imp (fun⟨a,b,c⟩=>⟨a,b,by rw[hk kl h.ok (.inl rfl)];exact c⟩) fun⟨t,g,b,c1,c2,c3,c4⟩=>⟨t,g,b,c1,bPo c2 (hu t),?_,?_⟩⟩
 ·rw[hk ⟨0,t,g⟩ ⟨rfl,c2⟩ (.inr c1.symm)];exact c3
 ·rw[hk kl h.ok (.inl rfl)];exact c4
theorem Acc.ne (h:TS kt kr en cnt p w a left f n back bv)(hA:Acc en cnt kl ko xs):(kt≠kl/\ kr≠kl)/\ some kt≠ko/\ some kr≠ko:=by
 have ht:=h.t;have hr:=h.r;rcases hA.v with⟨a,b,c⟩|⟨t,g,b,c1,c2,c3,c4⟩
 ·subst a
  refine⟨⟨?_,?_⟩,by simp,by simp⟩
  ·rintro rfl;rw[ht]at c;simp at c
  ·rintro rfl;rw[hr]at c;simp at c
 ·subst c1
  refine⟨⟨?_,?_⟩,fun e=>?_,fun e=>?_⟩
  ·rintro rfl;rw[ht]at c4;simp at c4
  ·rintro rfl;rw[hr]at c4;simp at c4
  ·rw[bOw]at e;rw[<-e,ht]at c3;cases c3
  ·rw[bOw]at e;rw[<-e,hr]at c3;cases c3
structure bG3 (kt kr:Key) (en:En) (cnt:Nat->Nat->Nat) (p:aF) (w:aA) (a:Int) (left:List aB) (f:aB) (n:aJ) (back:List aD) (kl:Key) (ko:Option Key) (xs:List aD) (o:Option (List aD)) (en':En) (cnt':Nat->Nat->Nat):Prop where
 ts: ∃bv',TS kt kr en' cnt' p w a left f n back bv'
 acc: ∀l,o=some l-> ∃ko',Acc en' cnt' kl ko' (xs++l)/\ (ko'=ko \/ ∀x,ko'=some x-> ¬Old x cnt)
 old: ∀x,Old x cnt->x≠kt->x≠kr->x≠kl->some x≠ko->en' x=en x
 up: ∀t,cnt 0 t<=cnt' 0 t
theorem aFj (h:TS kt kr en cnt p w a left f n back bv)(hA:Acc en cnt kl ko xs){o:Option (List aD)}(ho:o=none \/o=some [])(hk: ∀x,Old x cnt->en' x=en x)(hu: ∀t,cnt 0 t<=cnt' 0 t):
  bG3 kt kr en cnt p w a left f n back kl ko xs o en' cnt':=by
 refine⟨(h.stay hk hu).1,fun l hl=>?_,fun x hx _ _ _ _=>hk x hx,hu⟩
 rcases ho with rfl|rfl
 ·cases hl
 ·cases hl
  refine⟨ko,?_,.inl rfl⟩
  rw[bPx];exact hA.to (fun x hx _=>hk x hx) hu
theorem aLb : ∀(l:List Pat) {k:Nat} (h:k<l.length),gZ (l.take k)+pD l[k]<=gZ l
 |q::l,0,_=>by simp[gZ]
 |q::l,k+1,h=>by
  have:=aLb l (k:=k) (by simpa using h)
  simp only[bO5,gZ,List.getElem_cons_succ];omega
theorem aS6 (hF:cP p w0 S w)(cons:List cO): ∀(q:Pat),rM cons q=true->pD q<=1000-> ∀(v:aD),VOk p S w v-> ∀{en:En} {cnt:Nat->Nat->Nat} {bv:Val} {kl:Key} {ko:Option Key} {xs:List aD} (h:TS kt kr en cnt p w a left f n back bv) (hA:Acc en cnt kl ko xs),xs.length+pD q<=100000->
  WIn L (.fn 332 [] []) [.ptr kt 0,.agg [.i q.form,.i q.n,.str q.text,.fz (q.parts.map Pat.enc)],.agg [.i v.kind,.i v.n],.ptr kl 0] en cnt fun r en' cnt'=>r= .bool (gR w q v).isSome/\ bG3 kt kr en cnt p w a left f n back kl ko xs (gR w q v) en' cnt':=by
 intro q
 induction q using Pat.ind with
 |h q ih=>
 intro hok hq v hv en cnt bv kl ko xs h hA hlen;have s1:=h.okt.set;have s2:=h.okr.set;have n1:=h.okt.new;have n2:=h.okr.new;have hn:=h.ne;have ht:=h.t;have hr:=h.r;have m1:=h.okt.eqF;have m2:=h.okr.eqF;have o1:=h.okt.eqF';have o2:=h.okr.eqF';have x1: ∀(en:En) (e:Option Ent),En.set en kt e kr=en kr:=fun _ _=>aK hn;have x2: ∀(en:En) (e:Option Ent),En.set en kr e kt=en kt:=fun _ _=>aK hn.symm
 obtain⟨⟨nl1,nl2⟩,no1,no2⟩:=hA.ne h;have l1:=hA.ok.set;have l2:=hA.ok.new;have l3:=hA.ok.eqF;have l4:=hA.ok.eqF';rw[aNr];rw[aKb]at hok;simp only[bOx]at hok;have hhead:=hok.1
 by_cases h1:q.form=1
 ·rw[if_pos h1]
  refine bD aNa rfl rfl ?_
  simp only[go_sem,kK,aHi,h1];exact⟨rfl,aFj h hA (.inr rfl) (fun k hk=>by simp only[hk.set]) (by(repeat refine upS ?_ (by omega));exact aN _)⟩
 rw[if_neg h1];have d1:decide (q.form=1)=false:=decide_eq_false h1
 by_cases h2:q.form=2
 ·rw[if_pos h2]
  refine bD aNa rfl rfl ?_
  have hu: ∀t,cnt 0 t<=aC (aC (aC cnt 0 5 (cnt 0 5+1)) 0 6 (cnt 0 6+1)) 0 23 (cnt 0 23+1) 0 t:=(by(repeat refine upS ?_ (by omega));exact aN _)
  rcases hA.v with⟨v1,v2,v3⟩|⟨t,g,b,v1,v2,v3,v4⟩
  ·subst v1 v2;simp only[go_sem,kK,aHi,h2]
   refine aI ?_
   simp only[go_sem,kB,l1,v3,bT,eG,uP,aB1,aDk,rT,bPe,bPs,bP1,kA,kF]
   refine⟨rfl,⟨⟨bv,h.to (by simp only[aK nl1,s1]) (by simp only[aK nl2,s2]) hu⟩,fun l hl=>?_,fun x hx _ _ x1 _=>by simp only[aK x1,hx.set],hu⟩⟩
   simp only[bOw]at hl;subst hl
   refine⟨some ⟨0,23,cnt 0 23⟩,⟨hA.ok.up hu,.inr ⟨23,cnt 0 23,false,rfl,by simp[aC],?_,cH⟩⟩,.inr fun x hx ho=>?_⟩
   ·rw[l2,cH];rfl
   ·simp only[bOw]at hx;subst hx;exact Nat.lt_irrefl _ ho.2
  ·subst v1;have hob:Old ⟨0,t,g⟩ cnt:=⟨rfl,v2⟩;have b1:=hob.set;have b0:=hob.new;have bF:=hob.eqF;have bF':=hob.eqF';have bl:(⟨0,t,g⟩:Key)≠kl:=by rintro rfl;rw[v3]at v4;cases v4
   have b2: ∀(en:En) (e:Option Ent),En.set en kl e ⟨0,t,g⟩=en ⟨0,t,g⟩:=fun _ _=>aK bl
   have b4: ∀(en:En) (e:Option Ent),En.set en ⟨0,t,g⟩ e kl=en kl:=fun _ _=>aK bl.symm
   have hlm:xs.length+1<=16777216:=by have:=tF q;omega
   simp only[go_sem,kK,aHi,h2]
   refine aI ?_
   simp only[go_sem,kB,l1,b1,b4,v3,v4,bT,eG,uN,lA,aB1,hlm,bOz,bO7,bPe,kA,kF];have c1: ∀(en:En) (e:Option Ent),En.set en ⟨0,t,g⟩ e kt=en kt:=fun _ _=>aK fun e=>no1 (by rw[e])
   have c2: ∀(en:En) (e:Option Ent),En.set en ⟨0,t,g⟩ e kr=en kr:=fun _ _=>aK fun e=>no2 (by rw[e])
   refine⟨rfl,⟨⟨bv,h.to (by simp only[aK nl1,s1,c1]) (by simp only[aK nl2,s2,c2]) hu⟩,fun l hl=>?_,fun x hx _ _ x1 x2=>by
    have x3:x≠⟨0,t,g⟩:=fun e=>x2 (by rw[e])
    simp only[aK x1,hx.set,aK x3],hu⟩⟩
   simp only[bOw]at hl;subst hl
   refine⟨some ⟨0,23,cnt 0 23⟩,⟨hA.ok.up hu,.inr ⟨23,cnt 0 23,b,rfl,by simp[aC],?_,?_⟩⟩,.inr fun x hx ho=>?_⟩
   ·rw[l2,cH];simp[aD.enc]
   ·rw[cH];simp
   ·simp only[bOw]at hx;subst hx;exact Nat.lt_irrefl _ ho.2
 rw[if_neg h2];have d2:decide (q.form=2)=false:=decide_eq_false h2
 by_cases h3:q.form=3
 ·rw[if_pos h3]
  refine bD aNa rfl rfl ?_
  simp only[go_sem,kK,aHi,h3]
  refine aI ?_
  simp only[go_sem,(tD _).ret,uU,kA,kF]
  refine⟨by rw[(aB9 _).2],aFj h hA ?_ (fun k hk=>by simp only[hk.set]) (by(repeat refine upS ?_ (by omega));exact aN _)⟩
  split
  ·exact .inr rfl
  ·exact .inl rfl
 rw[if_neg h3];have d3:decide (q.form=3)=false:=decide_eq_false h3
 by_cases h4:q.form=4
 ·rw[if_pos h4]
  refine bD aNa rfl rfl ?_
  simp only[go_sem,kK,aHi,h4]
  refine aI ?_
  simp only[go_sem,(aE4 _).ret,uU,kA,kF]
  refine⟨by rw[(aB9 _).2],aFj h hA ?_ (fun k hk=>by simp only[hk.set]) (by(repeat refine upS ?_ (by omega));exact aN _)⟩
  split
  ·exact .inr rfl
  ·exact .inl rfl
 rw[if_neg h4];have d4:decide (q.form=4)=false:=decide_eq_false h4
 by_cases h5:q.form=5
 ·rw[if_pos h5]
  refine bD aNa rfl rfl ?_
  simp only[go_sem,kK,aHi,h5]
  refine aI ?_
  simp only[go_sem,kC.ret,uU,kA,kF]
  refine⟨by rw[(aB9 _).2],aFj h hA ?_ (fun k hk=>by simp only[hk.set]) (by(repeat refine upS ?_ (by omega));exact aN _)⟩
  split
  ·exact .inr rfl
  ·exact .inl rfl
 rw[if_neg h5];have d5:decide (q.form=5)=false:=decide_eq_false h5;have h6:q.form=6:=by
  simp only[sO,xE,bOx]at hhead
  by_cases h6:q.form=6
  ·exact h6
  ·simp[h1,h2,h3,h4,h5,h6]at hhead
 obtain⟨⟨bv1,t1⟩,k1⟩:=h.stay (cnt':=aC (aC cnt 0 5 (cnt 0 5+1)) 0 6 (cnt 0 6+1)) (en':=(en.set ⟨0,5,cnt 0 5⟩ (some (.box [.i q.form,.i q.n,.str q.text,.fz (q.parts.map Pat.enc)] false))).set ⟨0,6,cnt 0 6⟩ (some (.box [.i v.kind,.i v.n] false))) (fun k hk=>by simp only[hk.set]) (by(repeat refine upS ?_ (by omega));exact aN _)
 have d6:decide (q.form=6)=true:=decide_eq_true h6
 refine bD aNa rfl rfl ?_
 simp only[go_sem,kK,aHi,d2,d3,d4,d5,d6]
 refine(rD t1 (fN hv) 1).mono ?_
 rintro r e1 c1 ⟨⟨x,rfl,hx⟩,⟨bv2,t2⟩,k2⟩
 obtain⟨p5,q5⟩:=k2.loc (d:=5) (g:=cnt 0 5) (by simp[aC]) h.okt.ne.symm h.okr.ne.symm
 obtain⟨p6,q6⟩:=k2.loc (d:=6) (g:=cnt 0 6) (by simp[aC]) h.okt.ne.symm h.okr.ne.symm
 simp only[go_sem]at p5 p6;have fall: ∀{en':En} {cnt':Nat->Nat->Nat},(∀x,Old x cnt->Old x c1->en' x=e1 x)->(∀t,c1 0 t<=cnt' 0 t)->bG3 kt kr en cnt p w a left f n back kl ko xs none en' cnt':=by
  intro en' cnt' hk hu;obtain⟨t3,k3⟩:=h.fin t2 (k1.trans k2) hk hu;exact⟨t3,(fun l hl=>by cases hl),(fun x hx y1 y2 _ _=>k3.old x hx y1 y2),k3.up⟩
 rcases hx with⟨rfl,hI⟩|⟨rfl,hI⟩
 ·rw[if_neg (fun hh=>by rw[hI]at hh;cases hh.1)]
  simp only[go_sem,kK,hI];exact fall (fun x hx hy=>by simp only[hy.set]) (by(repeat refine upS ?_ (by omega));exact aN _)
 by_cases hn2:(w.obj v.n).n=q.n
 case neg=>
  have dn:decide ((w.obj v.n).n=q.n)=false:=decide_eq_false hn2;rw[if_neg (fun hh=>hn2 hh.2.1)]
  simp only[go_sem,kK,hI,dn,p5,q5.set];exact fall (fun x hx hy=>by simp only[hy.set]) (by(repeat refine upS ?_ (by omega));exact aN _)
 have dn:decide ((w.obj v.n).n=q.n)=true:=decide_eq_true hn2
 by_cases hl:(w.obj v.n).vals.length=q.parts.length
 case neg=>
  have dl:decide ((w.obj v.n).vals.length=q.parts.length)=false:=decide_eq_false hl;rw[if_neg (fun hh=>hl hh.2.2)]
  simp only[go_sem,kK,hI,dn,dl,p5,q5.set];exact fall (fun x hx hy=>by simp only[hy.set]) (by(repeat refine upS ?_ (by omega));exact aN _)
 have dl:decide ((w.obj v.n).vals.length=q.parts.length)=true:=decide_eq_true hl;rw[if_pos ⟨hI,hn2,hl⟩];obtain⟨_,a2,_,_⟩:=eZ hF hv hI;simp only[go_sem,kK,hI,dn,dl,p5,q5.set];have u1: ∀t,cnt 0 t<=c1 0 t:=fun t=>bPb (k1.up t) (k2.up t)
 have e0: ∀x,Old x cnt->x≠kt->x≠kr->e1 x=en x:=fun x hx y1 y2=>(k1.trans k2).old x hx y1 y2
 have hA1:Acc e1 c1 kl ko xs:=hA.to (fun x hx hy=>e0 x hx (fun e=>by rcases hy with hy|hy;exact nl1 (e▸hy);exact no1 (e▸hy)) (fun e=>by rcases hy with hy|hy;exact nl2 (e▸hy);exact no2 (e▸hy))) u1
 refine bQ q.parts.length (fun k st=> ∃fr en2 cnt2 ko2 l,st=⟨fr,en2,cnt2⟩/\ fr 0= .ptr kt 0/\ fr 3= .ptr kl 0/\ fr 9= .ptr ⟨0,9,c1 0 9⟩ 0/\ en2 ⟨0,9,c1 0 9⟩=some (.box [.i (w.obj v.n).form,.i (w.obj v.n).n,.fz ((w.obj v.n).vals.map aD.enc),.fz ((w.obj v.n).frames.map aB.enc)] false)/\ fr 72= .fz (q.parts.map Pat.enc)/\ fr 73= .i q.parts.length/\ fr 74= .i k/\
  mX w q.parts (w.obj v.n).vals k=some l/\ (∃bv2,TS kt kr en2 cnt2 p w a left f n back bv2)/\ Acc en2 cnt2 kl ko2 (xs++l)/\ (ko2=ko \/ ∀x,ko2=some x-> ¬Old x cnt)/\ (∀x,Old x cnt->x≠kt->x≠kr->x≠kl->some x≠ko->en2 x=en x)/\ (∀t,cnt 0 t<=cnt2 0 t)/\ c1 0 9<cnt2 0 9) 0 (bO8 _)
  ⟨_,_,_,ko,[],rfl,by simp only[go_sem],by simp only[go_sem],by simp only[go_sem],by simp only[go_sem],by simp only[go_sem],by simp only[go_sem],by simp only[go_sem],by simp[mX,gX],(t2.stay (fun k hk=>by simp only[hk.set]) (by(repeat refine upS ?_ (by omega));exact aN _)).1,by rw[bPx];exact hA1.to (fun x hx _=>by simp only[hx.set]) (by(repeat refine upS ?_ (by omega));exact aN _),.inl rfl,fun x hx y1 y2 _ _=>by simp only[(hx.up u1).set];exact e0 x hx y1 y2,fun t=>bPb (u1 t) (((by(repeat refine upS ?_ (by omega));exact aN _): ∀t,c1 0 t<=aC c1 0 9 (c1 0 9+1) 0 t) t),by simp[aC]⟩ ?_
 rintro k st hk ⟨fr,en2,cnt2,ko2,l,rfl,k0,k3,k9,e9,k72,k73,k74,hm,⟨bv3,t3⟩,hA3,hko,hold,hup,h9⟩
 have q9:Old ⟨0,9,c1 0 9⟩ cnt2:=⟨rfl,h9⟩;have hlp:=aBb q.parts;have hl3:=yX _ hm;have hl4:=yW q.parts k;rw[tF]at hq hlen;simp only[go_sem,kK,k73,k74]
 refine aH (fun hq2=>?_) (fun hq2=>?_)
 ·have h':k<q.parts.length:=of_decide_eq_true hq2;have h'':k<(w.obj v.n).vals.length:=by omega
  have hr2:=vX (bO6 h');have hr3:=aLb q.parts h';have hst:=aFi (w:=w) h' h'';rw[hm]at hst;simp only[go_sem,k0,k3,k9,e9,k72,k74,h',h'',q9.set];obtain⟨⟨bv4,t4⟩,k4⟩:=t3.stay (cnt':=aC cnt2 0 12 (cnt2 0 12+1)) (en':=(en2.set ⟨0,12,cnt2 0 12⟩ (some (.box [.i 0,.i 0,.str ⟨#[]⟩,.cl []] false))).set ⟨0,12,cnt2 0 12⟩ (some (.box [.i q.parts[k].form,.i q.parts[k].n,.str q.parts[k].text,.fz (q.parts[k].parts.map Pat.enc)] false))) (fun k hk=>by simp only[hk.set]) (by(repeat refine upS ?_ (by omega));exact aN _)
  have n9:some (⟨0,9,c1 0 9⟩:Key)≠ko2:=by
   rintro rfl
   rcases hA3.v with⟨z,_⟩|⟨t,g,b,z1,_,z3,_⟩
   ·cases z
   ·simp only[bOw]at z1;rw[<-z1,e9]at z3;cases z3
  have u3: ∀t,cnt2 0 t<=aC cnt2 0 12 (cnt2 0 12+1) 0 t:=(by(repeat refine upS ?_ (by omega));exact aN _)
  have hA4:=hA3.to (cnt':=aC cnt2 0 12 (cnt2 0 12+1)) (en':=(en2.set ⟨0,12,cnt2 0 12⟩ (some (.box [.i 0,.i 0,.str ⟨#[]⟩,.cl []] false))).set ⟨0,12,cnt2 0 12⟩ (some (.box [.i q.parts[k].form,.i q.parts[k].n,.str q.parts[k].text,.fz (q.parts[k].parts.map Pat.enc)] false))) (fun x hx _=>by simp only[hx.set]) u3
  have hpo:rM cons q.parts[k]=true:=bO4.1 hok.2 _ (bO6 h')
  refine(ih q.parts[k] (bO6 h') hpo (by omega) (w.obj v.n).vals[k] (a2.vals (bO6 h'')) t4 hA4 (by rw[bPg];omega)).mono ?_
  rintro r e5 c5 ⟨rfl,F5⟩
  have up5: ∀t,cnt 0 t<=c5 0 t:=fun t=>bPb (hup t) (bPb (u3 t) (F5.up t))
  have old5: ∀x,Old x cnt->x≠kt->x≠kr->x≠kl->some x≠ko->e5 x=en x:=fun x hx y1 y2 y3 y4=>by
   have hx2:=hx.up hup;rw[F5.old x (hx2.up u3) y1 y2 y3 (fun e=>by
    rcases hko with hko|hko
    ·exact y4 (e.trans hko)
    ·exact hko x e.symm hx),hx2.set,hx2.set]
   exact hold x hx y1 y2 y3 y4
  have e59:e5 ⟨0,9,c1 0 9⟩=some (.box [.i (w.obj v.n).form,.i (w.obj v.n).n,.fz ((w.obj v.n).vals.map aD.enc),.fz ((w.obj v.n).frames.map aB.enc)] false):=by
   rw[F5.old _ (q9.up u3) t2.okt.ne.symm t2.okr.ne.symm hA1.ok.ne.symm n9,q9.set,q9.set];exact e9
  cases hx:gR w q.parts[k] (w.obj v.n).vals[k]with
  |none=>
   rw[hx]at F5 hst;have hnone:=aFh hl.symm hst;rw[hnone];simp only[go_sem,kK,bQ3];exact⟨F5.ts,(fun l hl=>by cases hl),old5,up5⟩
  |some r=>
   rw[hx]at F5 hst;obtain⟨ko5,hA5,hko5⟩:=F5.acc r rfl;simp only[go_sem,kK,bQu,k74,aT h' (show Few q.parts.length by unfold Few;omega)]
   refine⟨_,_,_,ko5,l++r,rfl,?_⟩
   simp only[go_sem,k0,k3,k9,k72,k73]
   refine⟨e59,hst,F5.ts,by rw[<-List.append_assoc];exact hA5,?_,old5,up5,bPo h9 (bPb (u3 9) (F5.up 9))⟩
   rcases hko5 with hko5|hko5
   ·rw[hko5];exact hko
   ·exact .inr fun x hx ho=>hko5 x hx ((ho.up hup).up u3)
 ·have:k=q.parts.length:=by simp at hq2;omega
  subst this;have hfull:gX w q.parts (w.obj v.n).vals=some l:=by
   unfold mX at hm;rw[bQp,<-hl,bQp]at hm;exact hm
  rw[hfull];simp only[go_sem,bQu];exact⟨⟨bv3,t3⟩,fun l' hl'=>by cases hl';exact⟨ko2,hA3,hko⟩,hold,hup⟩
end
theorem aLc (v:aD):v.enc= .agg [.i v.kind,.i v.n]:=rfl
variable {l:List aD}
theorem aQ (h:0<l.length):nO 2 en (.fz (l.map aD.enc)) (.i 0)=some {v:= .fp [.i (aE l 0).kind,.i (aE l 0).n] 0}:=
 aCm (f:=aD.enc) (size:=2) (i:=0) jL (by simp only[inR,bSi];omega) fun _=>rfl
theorem gE (h:1<l.length):nO 2 en (.fz (l.map aD.enc)) (.i 1)=some {v:= .fp [.i (aE l 1).kind,.i (aE l 1).n] 0}:=
 aCm (f:=aD.enc) (size:=2) (i:=1) jL (by simp only[inR,bSi];omega) fun _=>rfl
noncomputable def aS7 :{c//L 188=some c}:=by
 have hL:=at_ Tryz.func188
 conv at hL=>rhs;reduce
 exact⟨_,hL⟩
theorem aYa (h:cP p w0 S w)(ha:inR a 0 ((w.tasks.length:Int)-1)=true)(hv:VOk p S w v):
  PC L 188 [.agg w.cs,.i a,.fz (left.map aB.enc),.agg [.i v.kind,.i v.n]] (.agg [.fz ((gC w a left v).w.objs.map aR.enc),.fz ((gC w a left v).w.tasks.map (.int .i64)),.fz ((gC w a left v).w.outs.map bR.enc),.fz ((gC w a left v).w.ins.map (.int .i64)),.i (gC w a left v).w.used,.i (gC w a left v).what,.i (gC w a left v).e.task,.i (gC w a left v).e.act,.i (gC w a left v).e.n,.i (gC w a left v).e.v.kind,.i (gC w a left v).e.v.n]):=by
 have hfit:=uT h ha;have hF:=fV w a 2 hfit;have hO:=pC w v 6 (fN hv)
 by_cases h6:dA w v 6=true
 ·obtain⟨_,a2,a3,_⟩:=eZ h hv h6;rw[uS,if_pos h6,h6]at hO;have hF3:=fV w a (w.obj v.n).n hfit
  by_cases h0:(w.obj v.n).n=0
  ·have d0:decide ((w.obj v.n).n=0)=true:=decide_eq_true h0;have e:gC w a left v=mL w:=by unfold gC;rw[if_pos h6,if_pos h0]
   rw[e]
   refine aG aS7.2 rfl rfl ?_
   simp only[go_sem,kK,aS7,hO.ret,d0,mL,iE,jL]
  ·have d0:decide ((w.obj v.n).n=0)=false:=decide_eq_false h0
   by_cases h1:(w.obj v.n).n=1
   ·have d1:decide ((w.obj v.n).n=1)=true:=decide_eq_true h1;have e:gC w a left v=dF (bY w a left (aE (w.obj v.n).vals 0)) a 20 0 (aE (w.obj v.n).vals 0):=by unfold gC;rw[if_pos h6,if_neg h0,if_neg (by rw[h1];decide)]
    rw[e];have hk:=a2.ok;rw[dK,if_pos a3,jN,if_neg h0,if_pos h1]at hk;simp only[bOx,bSi]at hk;have hB:=jI w a left (aE (w.obj v.n).vals 0) hfit;have hE:=mE (bY w a left (aE (w.obj v.n).vals 0)) a 20 0 (aE (w.obj v.n).vals 0)
    refine aG aS7.2 rfl rfl ?_
    simp only[go_sem,kK,aS7,hO.ret,d0,d1]
    refine aI ?_
    simp only[go_sem,aQ (l:=(w.obj v.n).vals) (by omega),hB.ret,hE.ret,kA,bO0,if_false]
   ·have d1:decide ((w.obj v.n).n=1)=false:=decide_eq_false h1;have e:gC w a left v=bI w a (w.obj v.n).n:=by unfold gC;rw[if_pos h6,if_neg h0,if_pos h1]
    rw[e]
    refine aG aS7.2 rfl rfl ?_
    simp only[go_sem,kK,aS7,hO.ret,d0,d1,hF3.ret]
 ·have e:gC w a left v=bI w a 2:=by unfold gC;rw[if_neg h6]
  rw[e];rw[bP6]at h6;rw[h6]at hO
  refine aG aS7.2 rfl rfl ?_
  simp only[go_sem,kK,aS7,hO.ret,hF.ret]
theorem aPz {n:Int}{o:aR}(hf:Fit w a):Fit (eC w n o) a:=by
 refine⟨?_,hf.at_,?_⟩
 ·rw[qL];exact hf.len
 ·rw[qL];exact hf.rng
noncomputable def aS8 :{c//L 186=some c}:=by
 have hL:=at_ Tryz.func186
 conv at hL=>rhs;reduce
 exact⟨_,hL⟩
theorem aGr (h:cP p w0 S w)(ha:inR a 0 ((w.tasks.length:Int)-1)=true)(hv: ∀v∈l,VOk p S w v)(h0:0<l.length)(ho:op=16 \/op=17 \/op=18/\ 1<l.length):
  PC L 186 [.agg w.cs,.i a,.fz (left.map aB.enc),.i op,.fz (l.map aD.enc)] (.agg [.fz ((eN w a left op l).w.objs.map aR.enc),.fz ((eN w a left op l).w.tasks.map (.int .i64)),.fz ((eN w a left op l).w.outs.map bR.enc),.fz ((eN w a left op l).w.ins.map (.int .i64)),.i (eN w a left op l).w.used,.i (eN w a left op l).what,.i (eN w a left op l).e.task,.i (eN w a left op l).e.act,.i (eN w a left op l).e.n,.i (eN w a left op l).e.v.kind,.i (eN w a left op l).e.v.n]):=by
 have hfit:=uT h ha;have hF:=fV w a 2 hfit;have hv0:=hv _ (dI h0);have hO:=pC w (aE l 0) 3 (fN hv0)
 by_cases h16:op=16
 ·subst h16;have e:eN w a left 16 l=dF (iF w a left ⟨3,0,[aE l 0],[]⟩) a 16 0 (aE l 0):=by unfold eN;rw[if_pos rfl]
  rw[e];have hM:=aIq w a left ⟨3,0,[aE l 0],[]⟩ hfit;have hE:=mE (iF w a left ⟨3,0,[aE l 0],[]⟩) a 16 0 (aE l 0);simp only[bPw,bPf,aLc]at hM
  refine aG aS8.2 rfl rfl ?_
  simp only[go_sem,kK,aS8]
  refine aI ?_
  simp only[go_sem,aQ h0,qA,kZ,hM.ret,hE.ret,kA,bO0,if_false]
 ·have d16:decide (op=16)=false:=decide_eq_false h16
  by_cases h3:dA w (aE l 0) 3=true
  ·obtain⟨a1,a2,a3,_⟩:=eZ h hv0 h3;rw[uS,if_pos h3,h3]at hO;have hk:=a2.ok;simp only[dK,a3]at hk
   simp at hk
   by_cases h17:op=17
   ·subst h17;have e:eN w a left 17 l=dF (bY w a left (aE (w.obj (aE l 0).n).vals 0)) a 17 0 (aE (w.obj (aE l 0).n).vals 0):=by
     unfold eN;rw[if_neg (by decide),if_pos h3,if_pos rfl]
    rw[e];have hB:=jI w a left (aE (w.obj (aE l 0).n).vals 0) hfit;have hE:=mE (bY w a left (aE (w.obj (aE l 0).n).vals 0)) a 17 0 (aE (w.obj (aE l 0).n).vals 0)
    refine aG aS8.2 rfl rfl ?_
    simp only[go_sem,kK,aS8]
    refine aI ?_
    simp only[go_sem,kK,aQ h0,hO.ret,kA,bO0,if_false]
    refine aI ?_
    simp only[go_sem,aQ (l:=(w.obj (aE l 0).n).vals) (by omega),hB.ret,hE.ret,kA,bO0,if_false]
   ·have d17:decide (op=17)=false:=decide_eq_false h17;have h18:op=18:=by omega
    have hl1:1<l.length:=by omega
    subst h18;have e:eN w a left 18 l=dF (bY (eC w (aE l 0).n ⟨3,0,[aE l 1],[]⟩) a left bO) a 18 0 (aE l 1):=by
     unfold eN;rw[if_neg (by decide),if_pos h3,if_neg (by decide)]
    rw[e];simp only[inR,bSi]at ha;have hS:=aK2 w (aE l 0).n ⟨3,0,[aE l 1],[]⟩ a1 (by omega) hfit.len
    have hB:=jI (eC w (aE l 0).n ⟨3,0,[aE l 1],[]⟩) a left bO (aPz hfit);have hE:=mE (bY (eC w (aE l 0).n ⟨3,0,[aE l 1],[]⟩) a left bO) a 18 0 (aE l 1);simp only[bPw,bPf,aLc]at hS
    refine aG aS8.2 rfl rfl ?_
    simp only[go_sem,kK,aS8]
    refine aI ?_
    simp only[go_sem,kK,aQ h0,hO.ret,kA,bO0,if_false]
    refine aI ?_
    simp only[go_sem,aQ h0,gE hl1,qA,kZ,hS.ret,kA,bO0,if_false]
    refine aI ?_
    simp only[go_sem,gE hl1,mS.ret,hB.ret,hE.ret,kA,bO0,if_false]
  ·have e:eN w a left op l=bI w a 2:=by unfold eN;rw[if_neg h16,if_neg h3]
   rw[e];rw[bP6]at h3;rw[h3]at hO
   refine aG aS8.2 rfl rfl ?_
   simp only[go_sem,kK,aS8,d16]
   refine aI ?_
   simp only[go_sem,kK,aQ h0,hO.ret,kA,bO0,if_false];simp only[go_sem,hF.ret]
variable {size:Nat}
theorem aCa {xs:List Val}{k:IntKind}(h:1<=xs.length)(hs:cY size xs=true):jV false size en (.fz xs) (some (.int k 1)) none none=some {v:= .fz (xs.drop 1)}:=aJ1 (i:=1) h hs
noncomputable def aMg :{c//L 190=some c}:=by
 have hL:=at_ Tryz.func190
 conv at hL=>rhs;reduce
 exact⟨_,hL⟩
theorem aFk (h:cP p w0 S w)(ha:inR a 0 ((w.tasks.length:Int)-1)=true)(hv: ∀v∈l,VOk p S w v)(h0:0<l.length)(ho:op=22/\ 1<l.length \/op=23):
  PC L 190 [.agg w.cs,.i a,.fz (left.map aB.enc),.i op,.fz (l.map aD.enc)] (.agg [.fz ((cE w a left op l).w.objs.map aR.enc),.fz ((cE w a left op l).w.tasks.map (.int .i64)),.fz ((cE w a left op l).w.outs.map bR.enc),.fz ((cE w a left op l).w.ins.map (.int .i64)),.i (cE w a left op l).w.used,.i (cE w a left op l).what,.i (cE w a left op l).e.task,.i (cE w a left op l).e.act,.i (cE w a left op l).e.n,.i (cE w a left op l).e.v.kind,.i (cE w a left op l).e.v.n]):=by
 have hfit:=uT h ha;have hF:=fV w a 2 hfit;have hv0:=hv _ (dI h0);have hO:=pC w (aE l 0) 4 (fN hv0);have ht:0<w.tasks.length:=by simp only[inR,bSi]at ha;omega
 by_cases h3:dA w (aE l 0) 4=true
 ·obtain⟨a1,a2,a3,_⟩:=eZ h hv0 h3;rw[uS,if_pos h3,h3]at hO;have hk:=a2.ok;simp only[dK,a3]at hk;simp[bE]at hk
  by_cases h22:op=22
  ·subst h22;have hl1:1<l.length:=by omega
   by_cases h4:4<=(w.obj (aE l 0).n).vals.length
   ·have d4:decide ((4:Int)<=((w.obj (aE l 0).n).vals.length:Int))=true:=decide_eq_true (by omega)
    have e:cE w a left 22 l=mL w:=by unfold cE;rw[if_pos h3,if_pos rfl,if_pos h4]
    rw[e]
    refine aG aMg.2 rfl rfl ?_
    simp only[go_sem,kK,aMg]
    refine aI ?_
    simp only[go_sem,kK,aQ h0,hO.ret,kA,bO0,if_false];simp only[go_sem,kK,d4,mL,iE,jL]
   ·have d4:decide ((4:Int)<=((w.obj (aE l 0).n).vals.length:Int))=false:=decide_eq_false (by omega)
    have e:cE w a left 22 l=dF (bY (eC w (aE l 0).n ⟨4,0,(w.obj (aE l 0).n).vals++[aE l 1],[]⟩) a left bO) a 22 0 (aE l 1):=by
     unfold cE;rw[if_pos h3,if_pos rfl,if_neg h4]
    rw[e];have hM:=aE2 (w.obj (aE l 0).n).vals (aE l 1) (by omega)
    have hS:=aK2 w (aE l 0).n ⟨4,0,(w.obj (aE l 0).n).vals++[aE l 1],[]⟩ a1 ht hfit.len;have hB:=jI (eC w (aE l 0).n ⟨4,0,(w.obj (aE l 0).n).vals++[aE l 1],[]⟩) a left bO (aPz hfit);have hE:=mE (bY (eC w (aE l 0).n ⟨4,0,(w.obj (aE l 0).n).vals++[aE l 1],[]⟩) a left bO) a 22 0 (aE l 1);simp only[bPf]at hS
    refine aG aMg.2 rfl rfl ?_
    simp only[go_sem,kK,aMg]
    refine aI ?_
    simp only[go_sem,kK,aQ h0,hO.ret,kA,bO0,if_false];simp only[go_sem,d4]
    refine aI ?_
    simp only[go_sem,aQ h0,gE hl1,hM.ret,hS.ret,kA,bO0,if_false]
    refine aI ?_
    simp only[go_sem,gE hl1,mS.ret,hB.ret,hE.ret,kA,bO0,if_false]
  ·have h23:op=23:=by omega
   subst h23
   by_cases hz:(w.obj (aE l 0).n).vals.length=0
   ·have dz:decide (((w.obj (aE l 0).n).vals.length:Int)=0)=true:=decide_eq_true (by omega)
    have e:cE w a left 23 l=mL w:=by unfold cE;rw[if_pos h3,if_neg (by decide),if_pos hz]
    rw[e]
    refine aG aMg.2 rfl rfl ?_
    simp only[go_sem,kK,aMg]
    refine aI ?_
    simp only[go_sem,kK,aQ h0,hO.ret,kA,bO0,if_false];simp only[go_sem,kK,dz,mL,iE,jL]
   ·have dz:decide (((w.obj (aE l 0).n).vals.length:Int)=0)=false:=decide_eq_false (by omega)
    have e:cE w a left 23 l=dF (bY (eC w (aE l 0).n ⟨4,0,(w.obj (aE l 0).n).vals.drop 1,[]⟩) a left (aE (w.obj (aE l 0).n).vals 0)) a 23 0 (aE (w.obj (aE l 0).n).vals 0):=by
     unfold cE;rw[if_pos h3,if_neg (by decide),if_neg hz]
    rw[e];have hS:=aK2 w (aE l 0).n ⟨4,0,(w.obj (aE l 0).n).vals.drop 1,[]⟩ a1 ht hfit.len;have hB:=jI (eC w (aE l 0).n ⟨4,0,(w.obj (aE l 0).n).vals.drop 1,[]⟩) a left (aE (w.obj (aE l 0).n).vals 0) (aPz hfit);have hE:=mE (bY (eC w (aE l 0).n ⟨4,0,(w.obj (aE l 0).n).vals.drop 1,[]⟩) a left (aE (w.obj (aE l 0).n).vals 0)) a 23 0 (aE (w.obj (aE l 0).n).vals 0);simp only[bPf]at hS;have hge:1<=(w.obj (aE l 0).n).vals.length:=by omega
    have hl16:((w.obj (aE l 0).n).vals.drop 1).length<=16777216:=by simp only[bRb];omega
    refine aG aMg.2 rfl rfl ?_
    simp only[go_sem,kK,aMg]
    refine aI ?_
    simp only[go_sem,kK,aQ h0,hO.ret,kA,bO0,if_false];simp only[go_sem,dz]
    refine aI ?_
    cases hd:((w.obj (aE l 0).n).vals.drop 1).isEmpty with
    |true=>
     have hd':(w.obj (aE l 0).n).vals.drop 1=[]:=by simpa using hd
     rw[hd']at hS hB hE⊢;simp only[bPf]at hS;simp only[go_sem,aQ h0,aCa,sR,hge,bT,eG,nD,<-bRs,hd',bPf,qA,kZ,hS.ret,kA,bO0,if_false]
     refine aI ?_
     simp only[go_sem,aQ (l:=(w.obj (aE l 0).n).vals) (by omega),hB.ret,hE.ret,kA,bO0,if_false]
    |false=>
     generalize hgd:(w.obj (aE l 0).n).vals.drop 1=dl at*;simp only[go_sem,aQ h0,aCa,sR,hge,bT,eG,iX,<-bRs,hgd,iI,hd,hl16,bOz,bOy,bPi,uM,nC,hS.ret,kA,bO0,if_false]
     refine aI ?_
     simp only[go_sem,aQ (l:=(w.obj (aE l 0).n).vals) (by omega),hB.ret,hE.ret,kA,bO0,if_false]
 ·have e:cE w a left op l=bI w a 2:=by unfold cE;rw[if_neg h3]
  rw[e];rw[bP6]at h3;rw[h3]at hO
  refine aG aMg.2 rfl rfl ?_
  simp only[go_sem,kK,aMg]
  refine aI ?_
  simp only[go_sem,kK,aQ h0,hO.ret,kA,bO0,if_false];simp only[go_sem,hF.ret]
theorem aNs {n:Nat}{k:Key}{kk:IntKind}(hn:1<=n):jV false size en (.bl k 0 n) (some (.int kk 1)) none none=(match en k with
  |some (.blk sz _ _)=>if sz=size then some {v:= .bl k 1 (n-1),rs:=[.val k]}else none
  |_=>none):=by
 have hb:iS (some (.int kk 1)) 0 n=some 1:=tA (i:=1) hn;simp only[jV,uA,hb,bO0,if_false];cases en k with
 |none=>rfl
 |some e=>cases e<;>simp
theorem bBr {outs:List bR}{ins:List Int}{used:Int}(hf:Fit w a)(h1:outs.length<=110)(h2:ins.length<=60):Fit ⟨w.objs,w.tasks,outs,ins,used⟩ a:=⟨⟨hf.len.1,hf.len.2.1,h1,h2⟩,hf.at_,hf.rng⟩
theorem aNt (x:Int)(l:List Int):(x::l).map (Val.int .i64)= .i x::l.map (.int .i64):=rfl
set_option maxHeartbeats 1600000 in
theorem aLd (h:cP p w0 S w)(ha:inR a 0 ((w.tasks.length:Int)-1)=true)(n:aJ)(hv: ∀v∈l,VOk p S w v)(ho:n.op=25 \/n.op=24/\ 0<l.length):
  PC L 191 [.agg [.fz (w.objs.map aR.enc),.fz (w.tasks.map (.int .i64)),.fz (w.outs.map bR.enc),.fz (w.ins.map (.int .i64)),.i w.used],.i a,.fz (left.map aB.enc),.agg [.i n.op,.i n.n,.fz (n.kids.map (.int .i64)),.fz (n.pats.map Pat.enc)],.fz (l.map aD.enc)] (.agg [.fz ((dG w a left n.op n.n l).w.objs.map aR.enc),.fz ((dG w a left n.op n.n l).w.tasks.map (.int .i64)),.fz ((dG w a left n.op n.n l).w.outs.map bR.enc),.fz ((dG w a left n.op n.n l).w.ins.map (.int .i64)),.i (dG w a left n.op n.n l).w.used,.i (dG w a left n.op n.n l).what,.i (dG w a left n.op n.n l).e.task,.i (dG w a left n.op n.n l).e.act,.i (dG w a left n.op n.n l).e.n,.i (dG w a left n.op n.n l).e.v.kind,.i (dG w a left n.op n.n l).e.v.n]):=by
 have hfit:=uT h ha;have hF2:=fV w a 2 hfit;have hF4:=fV w a 4 hfit
 try simp only[aA.cs,Val.is]at hF2 hF4
 obtain⟨b1,b2,b3,b4,b5,b6,b7⟩:=cV.1 h.ok;simp only[nA,bOx,bSi]at b3;simp only[inR,bSi]at b4;have hat:=hfit.at_;have hrng:=hfit.rng;simp only[inR,bSi]at hat hrng;have t1:((w.objs.map aR.enc).take w.objs.length)=w.objs.map aR.enc:=bPi (by simp)
 have t2:((w.tasks.map (Val.int .i64)).take w.tasks.length)=w.tasks.map (.int .i64):=bPi (by simp)
 have t3:((w.outs.map bR.enc).take w.outs.length)=w.outs.map bR.enc:=bPi (by simp)
 have t4:((w.ins.map (Val.int .i64)).take w.ins.length)=w.ins.map (.int .i64):=bPi (by simp)
 have hL:=at_ Tryz.func191
 conv at hL=>rhs;reduce
 refine aG hL rfl rfl ?_
 simp only[go_sem,kK]
 refine(aFa w (by omega) (by omega) hfit.len (aA5 _ _ w)).mono ?_
 rintro x en1 cnt1 ⟨⟨g5,g8,vU,vI,rfl,e5,l5,m5,e8,l8,m8,mU,mI⟩,old,up⟩
 have q5:=old 5 0 (by simp[aC])
 have q8:=old 8 0 (by simp[aC])
 have q10:=old 10 0 (by simp[aC])
 have n5: ¬g5=0:=by simp[aC]at l5;omega
 have n8: ¬g8=0:=by simp[aC]at l8;omega
 have n5': ¬0=g5:=by omega
 have n8': ¬0=g8:=by omega
 try simp only[go_sem]at q5 q8 q10
 obtain⟨g11,hg11⟩: ∃g,g=cnt1 0 11:=⟨_,rfl⟩
 have eU:=True.intro;have eI:=True.intro;have nU:=True.intro
 by_cases h25:n.op=25
 ·rw[h25];cases hins:w.ins with
  |nil=>
   have e:dG w a left 25 n.n l=mL w:=by unfold dG;rw[if_pos rfl,hins]
   rw[e];rcases mI with⟨rfl,hi⟩|⟨gI,rfl,eI,lI,hi⟩
   ·rcases mU with⟨rfl,hu⟩|⟨gU,rfl,eU,lU,hu⟩
    all_goals simp only[go_sem,kK,q5,q8,q10,n5,h25,e5,e8,eU,t1,t2,t3,bOz,bOy,mL,iE,jL,hu,hins,bPf]
   ·rw[hins]at hi;cases hi
  |cons x xs=>
   have hx:inR x (-1000000000) 1000000000=true:=by rw[hins]at b3;simp only[bQ7,bOx]at b3;exact b3.2.1
   have hlx:xs.length+1<=50:=by rw[hins]at b3;have:=b3.1;simp only[bO7]at this;omega
   have hlen:w.ins.length=xs.length+1:=by rw[hins];rfl
   rcases mI with⟨rfl,hi⟩|⟨gI,rfl,eI,lI,hi⟩
   ·rw[hins]at hi;cases hi
   rw[hins,aNt]at eI;have tx:(xs.map (Val.int .i64)).take xs.length=xs.map (.int .i64):=bPi (by simp)
   have dpos:(0:Int)<((xs.length+1:Nat):Int):=by omega
   have di:decide (((xs.length+1:Nat):Int)=0)=false:=decide_eq_false (by omega)
   by_cases hus:1000000000<=w.used
   ·have du:decide ((1000000000:Int)<=w.used)=true:=decide_eq_true hus;have e:dG w a left 25 n.n l=bI w a 4:=by unfold dG;rw[if_pos rfl,hins];simp only;rw[if_pos hus]
    rw[e];rw[hins,aNt]at hF4;rcases mU with⟨rfl,hu⟩|⟨gU,rfl,eU,lU,hu⟩
    ·rw[hu]at hF4;simp only[go_sem,kK,q5,q8,q10,n5,h25,e5,e8,eI,t1,t2,bOz,bO7,bOy,hlen,di,dpos,Int.le_refl,bRf,tx,(aDh _).ret,<-hg11,du,hF4.ret]
    ·have nU: ¬gU=g11:=by omega
     simp only[go_sem,kK,q5,q8,q10,n5,h25,e5,e8,eI,eU,nU,t1,t2,t3,bOz,bO7,bOy,hlen,di,dpos,Int.le_refl,bRf,tx,(aDh _).ret,<-hg11,du,hF4.ret]
   ·have du:decide ((1000000000:Int)<=w.used)=false:=decide_eq_false hus;have e:dG w a left 25 n.n l=dF (bY ⟨w.objs,w.tasks,w.outs,xs,w.used+1⟩ a left (mK x)) a 25 0 (mK x):=by unfold dG;rw[if_pos rfl,hins];simp only;rw[if_neg hus]
    rw[e];have hwu:IntKind.i64.wrap (w.used+1)=w.used+1:=aW (by omega)
    have hB:=jI ⟨w.objs,w.tasks,w.outs,xs,w.used+1⟩ a left (mK x) (bBr hfit (by omega) (by omega))
    have hE:=mE (bY ⟨w.objs,w.tasks,w.outs,xs,w.used+1⟩ a left (mK x)) a 25 0 (mK x);dsimp only[aA.cs,Val.is]at hB;have hx1:1<=xs.length+1:=by omega
    have hx2:xs.length+1-1=xs.length:=by omega
    have hx3:1+xs.length<=xs.length+1:=by omega
    have hx4:xs.length<=16777216:=by omega
    cases hxe:xs.isEmpty
    all_goals
     try(have hxe':xs=[]:=(by simpa using hxe);subst hxe')
     try simp only[bPf]at hB
     rcases mU with⟨rfl,hu⟩|⟨gU,rfl,eU,lU,hu⟩
     ·rw[hu]at hB;simp only[go_sem,kK,q5,q8,h25,eI,bOz,bO7,bOy,hlen,di,dpos,Int.le_refl,bRf,(aDh _).ret,<-hg11,du]
      refine aI ?_
      simp only[go_sem,kB,eI,hx1,hx2,hx3,hx4,hxe,tx,aNs,aK1,bT,eG,nD,iX,iI,aB0,bOz,bO7,bPe,bOy,hwu,bPf,kA,bO0,if_false]
      refine aI ?_
      simp only[go_sem,q8,q10,n5,n8',h25,e5,e8,hB.ret,hE.ret,t1,t2,tx,bOz,bOy,bPf,kA,bO0,if_false]
     ·have nU: ¬gU=g11:=by omega
      have nU': ¬g11=gU:=by omega
      simp only[go_sem,kK,q5,q8,h25,eI,bOz,bO7,bOy,hlen,di,dpos,Int.le_refl,bRf,(aDh _).ret,<-hg11,du]
      refine aI ?_
      simp only[go_sem,kB,eI,hx1,hx2,hx3,hx4,hxe,tx,aNs,aK1,bT,eG,nD,iX,iI,aB0,bOz,bO7,bPe,bOy,hwu,bPf,kA,bO0,if_false]
      refine aI ?_
      simp only[go_sem,q8,q10,n5,n8',h25,e5,e8,eU,nU,nU',hB.ret,hE.ret,t1,t2,t3,tx,bOz,bOy,bPf,kA,bO0,if_false]
 ·have h24:n.op=24:=by omega
  have h0:0<l.length:=by omega
  rw[h24]
  by_cases hk:(aE l 0).kind=1
  ·have dk:decide ((aE l 0).kind=1)=true:=decide_eq_true hk
   by_cases h100:100<=w.outs.length
   ·have d1:decide ((100:Int)<=(w.outs.length:Int))=true:=decide_eq_true (by omega)
    have e:dG w a left 24 n.n l=bI w a 4:=by unfold dG;rw[if_neg (by decide),if_neg (fun h=>h hk),if_pos h100]
    rw[e];rcases mU with⟨rfl,hu⟩|⟨gU,rfl,eU,lU,hu⟩
    ·have:w.outs=[]:=by simpa using hu
     rw[this]at h100;simp at h100
    ·rcases mI with⟨rfl,hi⟩|⟨gI,rfl,eI,lI,hi⟩
     ·rw[hi]at hF4;simp only[go_sem,kK,q5,q8,q10,n5,h24,aQ h0,dk,d1,e5,e8,eU,t1,t2,t3,bOz,bOy,hF4.ret]
     ·simp only[go_sem,kK,q5,q8,q10,n5,h24,aQ h0,dk,d1,e5,e8,eU,eI,t1,t2,t3,t4,bOz,bOy,hF4.ret]
   ·have e:dG w a left 24 n.n l=dF (bY ⟨w.objs,w.tasks,w.outs++[⟨n.n,(aE l 0).n⟩],w.ins,w.used⟩ a left bO) a 24 n.n (aE l 0):=by
     unfold dG;rw[if_neg (by decide),if_neg (fun h=>h hk),if_neg h100]
    rw[e];have hB:=jI ⟨w.objs,w.tasks,w.outs++[⟨n.n,(aE l 0).n⟩],w.ins,w.used⟩ a left bO (bBr hfit (by simp only[bPg,bO7,bPe];omega) (by omega))
    have hE:=mE (bY ⟨w.objs,w.tasks,w.outs++[⟨n.n,(aE l 0).n⟩],w.ins,w.used⟩ a left bO) a 24 n.n (aE l 0);simp only[aA.cs,Val.is,bQg,bPw,bPf,bR.enc]at hB;have hl1:w.outs.length+1<=16777216:=by omega
    rcases mU with⟨rfl,hu⟩|⟨gU,rfl,eU,lU,hu⟩
    ·have d1:decide ((100:Int)<=0)=false:=decide_eq_false (by omega)
     have hu':List.map (fun x:bR=>Val.agg [.i x.port,.i x.n]) w.outs=[]:=hu
     have hu2:w.outs=[]:=by simpa using hu
     rw[hu2]at hB hE⊢;simp only[bPf,bP1]at hB hE⊢;rcases mI with⟨rfl,hi⟩|⟨gI,rfl,eI,lI,hi⟩
     all_goals
      try rw[hi]at hB
      simp only[go_sem,kK,q5,q8,h24,aQ h0,dk,bOz,bOy]
      refine aI ?_
      simp only[go_sem,q8,h24,aQ h0,kB,bOy,bT,eG,iX,List.isEmpty_cons,bFj,kA,bO0,if_false]
      refine aI ?_
      simp only[go_sem,q8,q10,n5,n8',h24,aQ h0,e5,e8,eI,t1,t2,t4,bOz,bOy,mS.ret,hB.ret,hE.ret,kA,bO0,if_false]
    ·have d1:decide ((100:Int)<=(w.outs.length:Int))=false:=decide_eq_false (by omega)
     rcases mI with⟨rfl,hi⟩|⟨gI,rfl,eI,lI,hi⟩
     all_goals
      try rw[hi]at hB
      simp only[go_sem,kK,q5,q8,h24,aQ h0,dk,d1,bOz,bOy]
      refine aI ?_
      simp only[go_sem,q8,h24,aQ h0,kB,eU,bOz,bOy,hl1,bT,eG,uN,lA,bRz,bFj,kA,bO0,if_false]
      refine aI ?_
      simp only[go_sem,q8,q10,n5,n8',h24,aQ h0,e5,e8,eI,t1,t2,t4,bOz,bOy,bPg,bRz,bPi,mS.ret,hB.ret,hE.ret,kA,bO0,if_false]
  ·have dk:decide ((aE l 0).kind=1)=false:=decide_eq_false hk;have e:dG w a left 24 n.n l=bI w a 2:=by unfold dG;rw[if_neg (by decide),if_pos hk]
   rw[e];rcases mU with⟨rfl,hu⟩|⟨gU,rfl,eU,lU,hu⟩<;>rcases mI with⟨rfl,hi⟩|⟨gI,rfl,eI,lI,hi⟩
   all_goals
    try rw[hu]at hF2
    try rw[hi]at hF2
    simp only[go_sem,kK,q5,q8,q10,n5,h24,aQ h0,dk,e5,e8,eU,eI,t1,t2,t3,t4,bOz,bOy,hF2.ret]
theorem fI {f:aB}(hf:FOk p S w f):inR f.node 0 ((p.nodes.length:Int)-1)=true:=by
 have:=hf.ok;simp only[dH,bOx]at this;exact this.1.1
theorem pE :fZ p left (k+1)=if(p.node (left.getD k default).node).op=26 then k+1 else fZ p left k:=rfl
set_option maxHeartbeats 1600000 in
theorem aVc (h:cP p w0 S w)(ha:inR a 0 ((w.tasks.length:Int)-1)=true)(hl:LOk p S w left){kid:Int}(he:env.length<=30):
  PC L 185 [.agg p.cs,.agg w.cs,.i a,.fz (left.map aB.enc),.i kid,.fz (env.map aD.enc)] (.agg [.fz ((eY p w a left kid env).w.objs.map aR.enc),.fz ((eY p w a left kid env).w.tasks.map (.int .i64)),.fz ((eY p w a left kid env).w.outs.map bR.enc),.fz ((eY p w a left kid env).w.ins.map (.int .i64)),.i (eY p w a left kid env).w.used,.i (eY p w a left kid env).what,.i (eY p w a left kid env).e.task,.i (eY p w a left kid env).e.act,.i (eY p w a left kid env).e.n,.i (eY p w a left kid env).e.v.kind,.i (eY p w a left kid env).e.v.n]):=by
 have hfit:=uT h ha;have hF3:=fV w a 3 hfit;have hF4:=fV w a 4 hfit;have hlen:=hl.len;have hwl:IntKind.i64.wrap ((left.length:Int)-1)=(left.length:Int)-1:=aW (by omega)
 have hL:=at_ Tryz.func185
 conv at hL=>rhs;reduce
 refine aG hL rfl rfl ?_
 simp only[go_sem,kK,hwl]
 refine Go.Abs.wp_loop (fun(k:Nat) st=> ∃fr en cnt,st=⟨fr,en,cnt⟩/\ fr 2= .i a/\ fr 3= .fz (left.map aB.enc)/\ fr 4= .i kid/\ fr 5= .fz (env.map aD.enc)/\ fr 6= .ptr ⟨0,6,0⟩ 0/\ en ⟨0,6,0⟩=some (.box [.fz (p.nodes.map aJ.enc),.fz (p.funs.map (.int .i64)),.i p.main,.fz (p.cons.map cO.enc)] false)/\ fr 7= .ptr ⟨0,7,0⟩ 0/\ en ⟨0,7,0⟩=some (.box [.fz (w.objs.map aR.enc),.fz (w.tasks.map (.int .i64)),.fz (w.outs.map bR.enc),.fz (w.ins.map (.int .i64)),.i w.used] false)/\ fr 12= .ptr ⟨0,12,0⟩ 0/\ en ⟨0,12,0⟩=some (.box [.cl [],.cl [],.cl [],.cl [],.i 0,.i 0,.i 0,.i 0,.i 0,.i 0,.i 0] false)/\ fr 13= .i ((k:Int)-1)/\ (cnt 0 7=1/\ cnt 0 12=1/\ cnt 0 14=0)/\ k<=left.length/\ fZ p left k=fZ p left left.length) (fun k=>k) left.length ⟨_,_,_,rfl,by simp only[go_sem],by simp only[go_sem],by simp only[go_sem],by simp only[go_sem],by simp only[go_sem],by simp only[go_sem],by simp only[go_sem],by simp only[go_sem],by simp only[go_sem],by simp only[go_sem],by simp only[go_sem],by simp[aC],bOy _,rfl⟩ ?_
 rintro k st ⟨fr,en,cnt,rfl,k2,k3,k4,k5,k6,e6,k7,e7,k12,e12,k13,kc,hk,hR⟩
 cases k with
 |zero=>
  have k13':fr 13= .i (-1):=by simpa using k13
  have e:eY p w a left kid env=bI w a 3:=by unfold eY;rw[<-hR];rfl
  rw[e];simp only[go_sem,kK,k2,k7,e7,k12,e12,k13',hF3.ret]
 |succ k=>
  have k13':fr 13= .i (k:Int):=by rw[k13];congr 1;omega
  have h':k<left.length:=by omega
  have d0:decide ((0:Int)<=(k:Int))=true:=decide_eq_true (by omega)
  have hfk:=hl.ok _ (bO6 h');have hgd:left.getD k default=left[k]:=by simp[bO2,h']
  have hwk:IntKind.i64.wrap ((k:Int)-1)=(k:Int)-1:=aW (by omega)
  rw[pE,hgd]at hR
  by_cases h26:(p.node left[k].node).op=26
  ·rw[if_pos h26]at hR;have d26:decide ((p.node left[k].node).op=26)=true:=decide_eq_true h26;have dneg:decide ((k:Int)<0)=false:=decide_eq_false (by omega)
   by_cases h120:120<=w.objs.length
   ·have d120:decide ((120:Int)<=(w.objs.length:Int))=true:=decide_eq_true (by omega)
    have e:eY p w a left kid env=bI w a 4:=by unfold eY;rw[<-hR];simp only;rw[if_pos h120]
    rw[e];simp only[go_sem,kK,k2,k3,k6,e6,k7,e7,k12,e12,k13',h',d0,bK (fI hfk),d26,dneg,d120,hF4.ret]
   ·have d120:decide ((120:Int)<=(w.objs.length:Int))=false:=decide_eq_false (by omega)
    have hat:=hfit.at_;have hrng:=hfit.rng;simp only[inR,bSi]at hat hrng;have hK:Fit (eF w ⟨5,0,[],left.drop k⟩) a:=aWi hfit (by omega)
    have hN:=aB4 (eF w ⟨5,0,[],left.drop k⟩) a (left.take (k+1)) kid (env++[dO w.objs.length]) hK (by simp only[bQe];omega)
    have hM:=aE2 env (dO w.objs.length) (by omega)
    have hF:=fV w a (gL (eF w ⟨5,0,[],left.drop k⟩) a (left.take (k+1)) kid (env++[dO w.objs.length])).e.n hfit;have e:eY p w a left kid env=if(gL (eF w ⟨5,0,[],left.drop k⟩) a (left.take (k+1)) kid (env++[dO w.objs.length])).what=1 then bI w a (gL (eF w ⟨5,0,[],left.drop k⟩) a (left.take (k+1)) kid (env++[dO w.objs.length])).e.n else gL (eF w ⟨5,0,[],left.drop k⟩) a (left.take (k+1)) kid (env++[dO w.objs.length]):=by
     unfold eY;rw[<-hR];simp only;rw[if_neg h120]
    rw[e];generalize hD:gL (eF w ⟨5,0,[],left.drop k⟩) a (left.take (k+1)) kid (env++[dO w.objs.length])=D at hN hF⊢
    try simp only[aA.cs,Val.is]at hN
    rw[show((eF w ⟨5,0,[],left.drop k⟩).objs.map aR.enc)=w.objs.map aR.enc++[aR.enc ⟨5,0,[],left.drop k⟩]from by simp[eF]]at hN
    simp only[eF,bPf,aR.enc]at hN;have hde:(left.drop k).isEmpty=false:=aKq (by simp only[bRb];omega)
    have hdl:(left.drop k).length<=16777216:=by simp only[bRb];omega
    have hkl:k<=left.length:=by omega
    have hkl1:k+1<=left.length:=by omega
    have hol:w.objs.length+1<=16777216:=by omega
    have hwr:IntKind.i64.wrap (((w.objs.length+1:Nat):Int)-1)=(w.objs.length:Int):=by rw[aW (by omega)];omega
    have hwk1:IntKind.i64.wrap ((k:Int)+1)=((k+1:Nat):Int):=by rw[aW (by omega)];omega
    obtain⟨c7,c12,c14⟩:=kc;simp only[go_sem,kK,k3,k6,e6,k7,e7,k12,e12,k13',h',d0,bK (fI hfk),d26,dneg,d120,c14]
    refine(aFa w (by omega) (by omega) hfit.len (aA5 _ _ w)).mono ?_
    rintro x en1 cnt1 ⟨⟨g5,g8,vU,vI,rfl,e5,l5,m5,e8,l8,m8,mU,mI⟩,old,up⟩
    have q7:=old 7 0 (by simp[aC];omega)
    have q12:=old 12 0 (by simp[aC];omega)
    have q14:=old 14 0 (by simp[aC])
    try simp only[go_sem,e7,e12]at q7 q12 q14
    have eU:=True.intro;have eI:=True.intro;have t2:((w.tasks.map (Val.int .i64)).take w.tasks.length)=w.tasks.map (.int .i64):=bPi (by simp)
    have t3:((w.outs.map bR.enc).take w.outs.length)=w.outs.map bR.enc:=bPi (by simp)
    have t4:((w.ins.map (Val.int .i64)).take w.ins.length)=w.ins.map (.int .i64):=bPi (by simp)
    obtain⟨g15,hg15⟩: ∃g,g=cnt1 0 15:=⟨_,rfl⟩
    simp only[go_sem,q7]
    refine aI ?_
    simp only[go_sem,k3,k7,k13',e5,aJ1,jA,hkl,<-bRs,bT,eG,iX,uN,lA,iI,hde,hdl,hol,bFl,bOz,bOy,bPi,uM,nC,kA,bO0,if_false];have n14: ∀{g:Nat},g<cnt1 0 14->True:=fun _=>trivial
    by_cases hw:D.what=1
    ·have dw:decide (D.what=1)=true:=decide_eq_true hw;rw[if_pos hw];rcases mU with⟨rfl,hu⟩|⟨gU,rfl,eU,lU,hu⟩<;>rcases mI with⟨rfl,hi⟩|⟨gI,rfl,eI,lI,hi⟩
     all_goals
      try rw[hu]at hN
      try rw[hi]at hN
      have nI:=True.intro
      try(have nI: ¬0=gI:=by(rintro rfl;rw[q14]at eI;cases eI))
      refine aI ?_
      simp only[go_sem,kK,k2,k3,k4,k5,k7,k13',e8,eU,eI,t2,t3,t4,uB,hkl1,hwk1,<-bQs,bOz,bPg,bRz,bOy,bPi,hwr,(aKr _).ret,hM.ret,hN.ret,<-hg15,kA,bO0,if_false];simp only[go_sem,kK,k2,k12,q12,q14,nI,dw,hF.ret]
    ·have dw:decide (D.what=1)=false:=decide_eq_false hw;rw[if_neg hw];rcases mU with⟨rfl,hu⟩|⟨gU,rfl,eU,lU,hu⟩<;>rcases mI with⟨rfl,hi⟩|⟨gI,rfl,eI,lI,hi⟩
     all_goals
      try rw[hu]at hN
      try rw[hi]at hN
      have nI:=True.intro
      try(have nI: ¬0=gI:=by(rintro rfl;rw[q14]at eI;cases eI))
      refine aI ?_
      simp only[go_sem,kK,k2,k3,k4,k5,k7,k13',e8,eU,eI,t2,t3,t4,uB,hkl1,hwk1,<-bQs,bOz,bPg,bRz,bOy,bPi,hwr,(aKr _).ret,hM.ret,hN.ret,<-hg15,kA,bO0,if_false];simp only[go_sem,k12,q12,dw]
  ·rw[if_neg h26]at hR;have d26:decide ((p.node left[k].node).op=26)=false:=decide_eq_false h26;simp only[go_sem,kK,k3,k6,e6,k13',h',d0,bK (fI hfk),d26,hwk]
   refine⟨k,⟨_,_,_,rfl,?_⟩,Nat.lt_succ_self _⟩
   simp only[go_sem,k2,k3,k4,k5,k6,e6,k7,e7,k12,e12];exact⟨kc,by omega,hR⟩
structure bG4 (p:aF) (w:aA) (a:Int) (left:List aB) (f:aD) (fr:Nat->Val) (en:En) (cnt:Nat->Nat->Nat) (o:aR) (oa ob:Val):Prop where
 form:o.form=6
 n:o.n=0
 pa:aCs oa (.fz (o.vals.map aD.enc))
 pb:aCs ob (.fz (o.frames.map aB.enc))
 is:eJ p w a left f=zN w a left o
 k2:fr 2= .i a
 k3:fr 3= .fz (left.map aB.enc)
 k6:fr 6= .ptr ⟨0,6,0⟩ 0
 e6:en ⟨0,6,0⟩=some (.box [.fz (w.objs.map aR.enc),.fz (w.tasks.map (.int .i64)),.fz (w.outs.map bR.enc),.fz (w.ins.map (.int .i64)),.i w.used] false)
 k10:fr 10= .ptr ⟨0,10,0⟩ 0
 e10:en ⟨0,10,0⟩=some (.box [.cl [],.cl [],.cl [],.cl [],.i 0,.i 0,.i 0,.i 0,.i 0,.i 0,.i 0] false)
 k11:fr 11= .ptr ⟨0,11,0⟩ 0
 e11:en ⟨0,11,0⟩=some (.box [.i 6,.i 0,oa,ob] false)
 c6:cnt 0 6=1
 c10:cnt 0 10=1
def bDv (p:aF)(w:aA)(a:Int)(left:List aB)(f:aD)(st:St):Prop:= ∃o oa ob,bG4 p w a left f st.fr st.en st.cnt o oa ob
set_option maxHeartbeats 1600000 in
theorem aVd (hp:eH p)(h:cP p w0 S w)(ha:inR a 0 ((w.tasks.length:Int)-1)=true){f:aD}(hf:VOk p S w f):
  PC L 187 [.agg p.cs,.agg w.cs,.i a,.fz (left.map aB.enc),.agg [.i f.kind,.i f.n]] (.agg [.fz ((eJ p w a left f).w.objs.map aR.enc),.fz ((eJ p w a left f).w.tasks.map (.int .i64)),.fz ((eJ p w a left f).w.outs.map bR.enc),.fz ((eJ p w a left f).w.ins.map (.int .i64)),.i (eJ p w a left f).w.used,.i (eJ p w a left f).what,.i (eJ p w a left f).e.task,.i (eJ p w a left f).e.act,.i (eJ p w a left f).e.n,.i (eJ p w a left f).e.v.kind,.i (eJ p w a left f).e.v.n]):=by
 have hfit:=uT h ha;have hO:=pC w f 5 (fN hf);have hF4:=fV w a 4 hfit;have hF2:=fV w a 2 hfit;have hB:=aS3 hp h hf (qM (p:=p) (S:=S) (w:=w));have hL:=at_ Tryz.func187
 conv at hL=>rhs;reduce
 refine aG hL rfl rfl ?_
 simp only[go_sem,aC9,Go.Abs.start]
 refine aBz (bDv p w a left f) ?_ ?_
 ·by_cases h5:dA w f 5=true
  ·rw[uS,if_pos h5,h5]at hO;simp only[go_sem,kK,hO.ret]
   refine aI ?_
   simp only[go_sem,mS.ret,qA,kZ,kA,bO0,if_false];exact⟨⟨6,0,[bO],(w.obj f.n).frames⟩,.cl [.agg [.i bO.kind,.i bO.n]],.fz ((w.obj f.n).frames.map aB.enc),⟨rfl,rfl,aFb _,rU _,by unfold eJ;rw[if_pos h5],by simp only[go_sem],by simp only[go_sem],by simp only[go_sem],by simp only[go_sem],by simp only[go_sem],by simp only[go_sem],by simp only[go_sem],by simp only[go_sem],by simp[aC],by simp[aC]⟩⟩
  ·rw[bP6]at h5;rw[h5]at hO;cases hb:fH p w f bO with
   |none=>
    have e:eJ p w a left f=bI w a 2:=by unfold eJ;rw[if_neg (by rw[h5];decide),hb]
    rw[hb]at hB;rw[e];simp only[go_sem,kK,hO.ret]
    refine aI ?_
    simp only[go_sem,kK,mS.ret,hB.ret,bQ3,kA,bO0,if_false];simp only[go_sem,hF2.ret]
   |some b=>
    have hv:wN p w f bO=b:=by rw[wN,hb];rfl
    rw[hb,hv]at hB;obtain⟨b1,b2,b3⟩:=aDi hp h hf qM hb
    by_cases h30:30<b.env.length
    ·have d30:decide ((30:Int)<(b.env.length:Int))=true:=decide_eq_true (by omega)
     have e:eJ p w a left f=bI w a 4:=by unfold eJ;rw[if_neg (by rw[h5];decide),hb];simp only;rw[if_pos h30]
     rw[e];simp only[go_sem,kK,hO.ret]
     refine aI ?_
     simp only[go_sem,kK,mS.ret,hB.ret,bQu,kA,bO0,if_false];simp only[go_sem,kK,d30,hF4.ret]
    ·have d30:decide ((30:Int)<(b.env.length:Int))=false:=decide_eq_false (by omega)
     have e:eJ p w a left f=zN w a left ⟨6,0,[],[b]⟩:=by unfold eJ;rw[if_neg (by rw[h5];decide),hb];simp only;rw[if_neg h30]
     simp only[go_sem,kK,hO.ret]
     refine aI ?_
     simp only[go_sem,kK,mS.ret,hB.ret,bQu,kA,bO0,if_false];simp only[go_sem,d30,qA,kZ];exact⟨⟨6,0,[],[b]⟩,.cl [],.cl [.agg [.i b.node,.fz (b.env.map aD.enc),.fz (b.vals.map aD.enc)]],⟨rfl,rfl,aFb _,aFb _,e,by simp only[go_sem],by simp only[go_sem],by simp only[go_sem],by simp only[go_sem],by simp only[go_sem],by simp only[go_sem],by simp only[go_sem],by simp only[go_sem],by simp[aC],by simp[aC]⟩⟩
 ·rintro fr en cnt ⟨o,oa,ob,hs⟩
  obtain⟨of_,on,pa,pb,is,k2,k3,k6,e6,k10,e10,k11,e11,c6,c10⟩:=hs;dsimp only at k2 k3 k6 e6 k10 e10 k11 e11 c6 c10;have hF:=aS4 w a left o (rU _) pa pb hfit (en:=en) (cnt:=cnt);rw[of_,on]at hF;rw[is];simp only[go_sem,kK,k2,k3,k6,e6,k11,e11]
  refine hF.mono ?_
  rintro x en1 cnt1 (⟨h120,rfl,old,up⟩|⟨h120,hO1⟩)
  ·have q10:=old 10 0 (by omega)
   rw[e10]at q10;obtain⟨g16,hg16⟩: ∃g,g=cnt1 0 16:=⟨_,rfl⟩
   have e:zN w a left o=dF (bI w a 4) a 19 0 bO:=by
    unfold zN iF;simp only[if_pos h120];rw[if_pos (show(bI w a 4).what=1 from rfl)]
   rw[e];have hE:=mE (bI w a 4) a 19 0 bO;have dw:decide ((bI w a 4).what=1)=true:=rfl;simp only[go_sem,kK,<-hg16,dw]
   refine aI ?_
   simp only[go_sem,k2,k10,q10,mS.ret,hE.ret,kA,bO0,if_false]
  ·have q10:=hO1.old 10 0 (by omega)
   rw[e10]at q10;obtain⟨g16,hg16⟩: ∃g,g=cnt1 0 16:=⟨_,rfl⟩
   obtain⟨g71,hg71⟩: ∃g,g=cnt1 0 71:=⟨_,rfl⟩
   have e:zN w a left o=dF ⟨qI (bY (eF w o) a left (dO w.objs.length)).w,0,iE⟩ a 19 0 bO:=by
    unfold zN iF;simp only[if_neg (show¬120<=w.objs.length by omega)];rw[if_neg (by simp[bY])];rfl
   rw[e];have hE:=mE ⟨qI (bY (eF w o) a left (dO w.objs.length)).w,0,iE⟩ a 19 0 bO
   try simp only[]at hE
   have hle:(bY (eF w o) a left (dO w.objs.length)).w.objs.length=w.objs.length+1:=by simp only[bY,qL,mW]
   have hlt:(bY (eF w o) a left (dO w.objs.length)).w.tasks.length=w.tasks.length:=rfl;have hfl:=hfit.len;generalize hW:(bY (eF w o) a left (dO w.objs.length)).w=W at hO1 hE hle hlt⊢;obtain⟨⟨g5,g8,vU,vI,rfl,e5,l5,m5,e8,l8,m8,mU,mI⟩,old,up⟩:=hO1;have hwr:IntKind.i64.wrap ((W.objs.length:Int)-1)=(W.objs.length:Int)-1:=aW (by omega)
   have hl16:W.tasks.length+1<=16777216:=by omega
   have t1:((W.objs.map aR.enc).take W.objs.length)=W.objs.map aR.enc:=bPi (by simp)
   have t3:((W.outs.map bR.enc).take W.outs.length)=W.outs.map bR.enc:=bPi (by simp)
   have t4:((W.ins.map (Val.int .i64)).take W.ins.length)=W.ins.map (.int .i64):=bPi (by simp)
   simp only[qI,iE,jL,bQg,bPw,bPf]at hE;have eU:=True.intro;have eI:=True.intro;rcases mU with⟨rfl,hu⟩|⟨gU,rfl,eU,lU,hu⟩<;>rcases mI with⟨rfl,hi⟩|⟨gI,rfl,eI,lI,hi⟩
   all_goals
    try rw[hu]at hE
    try rw[hi]at hE
    simp only[go_sem,kK,<-hg16,<-hg71,e8,kB,hwr,bT,eG,uN,lA,bBl,hl16,bOz,bOy]
    refine aI ?_
    simp only[go_sem,k2,k10,q10,e5,eU,eI,t1,t3,t4,bOz,bPg,bRz,bPi,bOy,mS.ret,hE.ret,kA,bO0,if_false];rfl
end Go.Proofs.YtmnchlhngpdffaaGreat
