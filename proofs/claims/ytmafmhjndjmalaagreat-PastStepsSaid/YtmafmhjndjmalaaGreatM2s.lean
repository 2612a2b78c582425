/- Contracts of functions of the program and of the document: part 2. -/
import Derived.Test.YtmafmhjndjmalaaGreatM1
set_option linter.all false
open Bool renaming and_eq_true -> bSw, and_true -> bUc, eq_iff_iff -> bUu, false_eq_true -> bS0, not_eq_true -> bT9, not_eq_true' -> bUb, or_true -> bUz, true_and -> bTo
open Int renaming eq_ofNat_of_zero_le -> bTs, natCast_nonneg -> bVm, toNat_natCast -> bTt, toNat_of_nonneg -> bWg
open List renaming all_cons -> bVd, all_eq_true -> bS5, any_eq_true -> bVv, append_nil -> bT1, cons_append -> bVh, countP_le_length -> bV9, countP_pos_iff -> bWh, drop_eq_getElem_cons -> bT2, drop_length -> bUo, drop_zero -> bU2, flatMap_cons -> bVk, flatMap_nil -> bU3, getD_eq_getElem?_getD -> bSz, getElem?_append_left -> bUy, getElem?_cons_zero -> bVl, getElem?_eq_getElem -> bTy, getElem?_set -> bVq, getElem?_set_ne -> bWc, getElem_mem -> bS7, length_append -> bTg, length_cons -> bS8, length_drop -> bVi, length_map -> bSy, length_nil -> bTd, length_pos_iff -> bV1, length_set -> bUs, length_singleton -> bVn, length_take -> bT3, map_append -> bT0, map_cons -> bTv, map_drop -> bVw, map_nil -> bTe, map_set -> bVe, map_take -> bUd, mem_append -> bTn, mem_append_left -> bVb, mem_append_right -> bUn, mem_cons -> bTp, mem_cons_of_mem -> bU4, mem_filter -> bUl, mem_flatMap -> bUa, mem_map -> bTu, mem_of_mem_take -> bVf, mem_or_eq_of_mem_set -> bWl, mem_range -> bTx, mem_singleton -> bUg, nil_append -> bT4, prefix_refl -> bUp, range_succ -> bV4, replicate_succ -> bUi, replicate_zero -> bUh, set_cons_succ -> bU1, set_cons_zero -> bU0, take_length -> bUf, take_of_length_le -> bTh, take_succ_cons -> bS3, take_zero -> bS2
open Nat renaming add_assoc -> bU5, add_zero -> bUk, le_of_eq -> bUj, le_refl -> bSx, le_trans -> bS9, lt_irrefl -> bVg, lt_of_lt_of_le -> bTm, zero_add -> bTw, zero_le -> bS4
open Option renaming getD_none -> bWb, getD_some -> bTq, isSome_none -> bU7, isSome_some -> bUx
open Option.some renaming injEq -> bSv
namespace Go.Proofs.YtmafmhjndjmalaaGreat
open Go.Abs Go.Proofs Tryz
theorem aVd {hi:Int}: ∀(evs:List (Int×Int)) {u u':List Bool},tJ hi u evs=some u'-> ∀e∈evs,inR e.2 e.1 hi=true
 |[],_,_,_=>fun e he=>by cases he
 |(lo,x)::evs,u,u',h=>by
  simp only[tJ]at h
  split at h
  ·rename_i hc;simp only[bSw]at hc;intro e he;rcases bTp.1 he with rfl|he
   ·exact hc.1
   ·exact aVd evs h e he
  ·cases h
theorem bDv : ∀(l:List aL) (i:Nat) {n:aL} {k:Int},n∈l->k∈n.kids-> ∃e∈lP i l,e.2=k/\ 0<=e.1
 |[],_,_,_,h,_=>by cases h
 |m::l,i,n,k,h,hk=>by
  simp only[lP,bTn,bTu];rcases bTp.1 h with rfl|h
  ·exact⟨_,.inl ⟨k,hk,rfl⟩,rfl,by simp only;omega⟩
  ·obtain⟨e,he,h1,h2⟩:=bDv l (i+1) h hk;exact⟨e,.inr he,h1,h2⟩
structure eQ (p:aD):Prop where
 nodes: ∀n∈p.nodes,eS p n=true
 kids: ∀n∈p.nodes,∀k∈n.kids,inR k 0 ((p.nodes.length:Int)-1)=true
 funs: ∀k∈p.funs,inR k 0 ((p.nodes.length:Int)-1)=true
 cons: ∀c∈p.cons,inR c.args 0 3=true
 main:inR p.main 0 ((p.funs.length:Int)-1)=true
variable {p:aD}
theorem kN (h:fJ p=true):eQ p:=by
 simp only[fJ,bSw,bWo]at h;obtain⟨⟨⟨⟨_,_⟩,hm⟩,hc⟩,h⟩:=h;simp only[aR2,xV]at h
 by_cases hn:p.nodes.all (eS p)=true
 ·simp only[hn,if_true]at h;rw[<-uM]at h;have hs: ∃u',tJ (↑p.nodes.length-1) (List.replicate p.nodes.length false) (List.map (fun x=>((0:Int),x)) p.funs++lP 0 p.nodes)=some u':=by
   cases he:tJ (↑p.nodes.length-1) (List.replicate p.nodes.length false) (List.map (fun x=>((0:Int),x)) p.funs++lP 0 p.nodes)with
   |some u=>exact⟨u,rfl⟩
   |none=>rw[he]at h;cases h
  obtain⟨u',hu⟩:=hs;have hin:=aVd _ hu
  refine⟨bS5.1 hn,fun n hn k hk=>?_,fun k hk=>?_,fun c hc'=>?_,hm⟩
  ·obtain⟨e,he,h1,h2⟩:=bDv p.nodes 0 hn hk;have:=hin e (bUn _ he);rw[h1]at this;simp only[inR,bWo]at this⊢;omega
  ·exact hin (0,k) (bVb _ (bTu.2 ⟨k,hk,rfl⟩))
  ·simp only[aAu,bSw]at hc;have:=bS5.1 hc.1.1 c hc';simp only[xT,bSw]at this;exact this.2
 ·simp only[hn,if_false,bS0]at h;cases he:tJ (↑p.nodes.length-1) (List.replicate p.nodes.length false) (List.map (fun x=>((0:Int),x)) p.funs)with
  |none=>rw[he]at h;cases h
  |some u=>rw[he]at h;cases h
variable {i:Int}
theorem jE (h:inR i 0 ((p.nodes.length:Int)-1)=true):p.node i∈p.nodes:=by
 simp only[inR,bWo]at h;have hj:i.toNat<p.nodes.length:=by omega
 simp only[aD.node,bSz,bTy hj,bTq];exact bS7 hj
theorem nJ {α:Type}{l:List α}{i:Nat}{d:α}(h:i<l.length):l.getD i d∈l:=by
 simp only[bSz,bTy h,bTq];exact bS7 h
def nY (o:aP):List aE:=o.vals++o.frames.flatMap fun f=>f.env++f.vals
variable {v:aE}{w w':aA}
theorem aVe (h:w.objs.length<=w'.objs.length)(hv:dR p w v=true):dR p w' v=true:=by
 unfold dR at hv⊢;split
 ·rename_i h1;rw[if_pos h1]at hv;exact hv
 rename_i h1;rw[if_neg h1]at hv;split
 ·rename_i h2;rw[if_pos h2]at hv;exact hv
 rename_i h2;rw[if_neg h2]at hv;split
 ·rename_i h3;rw[if_pos h3]at hv;exact hv
 rename_i h3;rw[if_neg h3]at hv;split
 ·rename_i h4;rw[if_pos h4]at hv;exact hv
 rename_i h4;rw[if_neg h4]at hv;split
 ·rename_i h5;rw[if_pos h5]at hv;simp only[inR,bWo]at hv⊢;omega
 ·rename_i h5;rw[if_neg h5]at hv;exact hv
variable {l:List aE}
theorem qM {m:Int}(h:w.objs.length<=w'.objs.length)(hv:bC p w l m=true):bC p w' l m=true:=by
 simp only[bC,bSw,bS5]at hv⊢;exact⟨hv.1,fun v hm=>aVe h (hv.2 v hm)⟩
variable {f:aB}
theorem aVf (h:w.objs.length<=w'.objs.length)(hv:dN p w f=true):dN p w' f=true:=by
 simp only[dN,bSw]at hv⊢;exact⟨⟨hv.1.1,qM h hv.1.2⟩,qM h hv.2⟩
theorem aQc {l:List aB}(h:w.objs.length<=w'.objs.length)(hv:bY p w l=true):bY p w' l=true:=by
 simp only[bY,bSw,bS5]at hv⊢;exact⟨hv.1,fun f hm=>aVf h (hv.2 f hm)⟩
theorem aCy {o:aP}(h:w.objs.length<=w'.objs.length)(hv:dX p w o=true):dX p w' o=true:=by
 unfold dX at hv⊢;split
 ·rename_i h0;rw[if_pos h0]at hv;unfold kI at hv⊢;split
  ·rename_i h1;rw[if_pos h1]at hv;simp only[bSw]at hv⊢;exact⟨⟨⟨aQc h hv.1.1.1,qM h hv.1.1.2⟩,hv.1.2⟩,hv.2⟩
  rename_i h1;rw[if_neg h1]at hv;split
  ·rename_i h2;rw[if_pos h2]at hv;simp only[bSw]at hv⊢;exact⟨hv.1,qM h hv.2⟩
  ·rename_i h2;rw[if_neg h2]at hv;exact hv
 rename_i h0;rw[if_neg h0]at hv;split
 ·rename_i h1;rw[if_pos h1]at hv;simp only[bSw]at hv⊢;exact⟨⟨⟨hv.1.1.1,aQc h hv.1.1.2⟩,hv.1.2⟩,hv.2⟩
 rename_i h1;rw[if_neg h1]at hv;split
 ·rename_i h2;rw[if_pos h2]at hv;exact hv
 rename_i h2;rw[if_neg h2]at hv;split
 ·rename_i h3;rw[if_pos h3]at hv;simp only[bSw]at hv⊢;exact⟨hv.1,qM h hv.2⟩
 rename_i h3;rw[if_neg h3]at hv;split
 ·rename_i h4;rw[if_pos h4]at hv;simp only[bSw]at hv⊢;exact⟨hv.1,qM h hv.2⟩
 rename_i h4;rw[if_neg h4]at hv;split
 ·rename_i h5;rw[if_pos h5]at hv;simp only[bSw]at hv⊢;exact⟨hv.1,qM h hv.2⟩
 rename_i h5;rw[if_neg h5]at hv;split
 ·rename_i h6;rw[if_pos h6]at hv;simp only[bSw]at hv⊢;exact⟨hv.1,qM h hv.2⟩
 ·rename_i h6;rw[if_neg h6]at hv;exact hv
theorem aDw {o:aP}(hv:dX p w o=true):(∀v∈o.vals,dR p w v=true)/\ bY p w o.frames=true:=by
 have vs: ∀{l:List aE} {m:Int},bC p w l m=true-> ∀v∈l,dR p w v=true:=fun h=>by
  simp only[bC,bSw,bS5]at h;exact h.2
 have none_: ∀{l:List aB},(l.length:Int)=0->bY p w l=true:=fun h=>by
  have h:=List.eq_nil_of_length_eq_zero (Int.ofNat_eq_zero.1 h);subst h;simp[bY]
 have nov: ∀{l:List aE},(l.length:Int)=0-> ∀v∈l,dR p w v=true:=fun h=>by
  have h:=List.eq_nil_of_length_eq_zero (Int.ofNat_eq_zero.1 h);subst h;simp
 unfold dX at hv
 split at hv
 ·unfold kI at hv
  split at hv
  ·simp only[bSw]at hv;exact⟨vs hv.1.1.2,hv.1.1.1⟩
  split at hv
  ·simp only[bSw,bWo]at hv;exact⟨vs hv.2,none_ hv.1.1⟩
  split at hv
  ·simp only[bSw,bWo]at hv;exact⟨nov hv.2,none_ hv.1⟩
  ·cases hv
 split at hv
 ·simp only[bSw,bWo]at hv;exact⟨nov hv.1.1.1.1.2,hv.1.1.2⟩
 split at hv
 ·cases hv
 rename_i hz;have hz:=none_ (Decidable.not_not.1 hz)
 split at hv
 ·simp only[bSw]at hv;exact⟨vs hv.2,hz⟩
 split at hv
 ·simp only[bSw]at hv;exact⟨vs hv.2,hz⟩
 split at hv
 ·simp only[bSw]at hv;exact⟨vs hv.2,hz⟩
 split at hv
 ·simp only[bSw]at hv;exact⟨vs hv.2,hz⟩
 ·cases hv
theorem oF {w w':aA}(hl:w.objs.length<=w'.objs.length)(hk: ∀k,inR k 0 ((w.objs.length:Int)-1)=true->dB (w'.obj k)=dB (w.obj k)): ∀(l met:List Int),bU w met l=true->bU w' met l=true
 |[],_,_=>rfl
 |k::l,met,h=>by
  simp only[bU,bSw]at h⊢;obtain⟨⟨⟨h1,h2⟩,h3⟩,h4⟩:=h
  refine⟨⟨⟨?_,by rw[hk k h1];exact h2⟩,h3⟩,oF hl hk l _ h4⟩
  simp only[inR,bWo]at h1⊢;omega
theorem aG1 {w:aA}{k:Int}(h1:inR k 0 ((w.objs.length:Int)-1)=true)(h2:dB (w.obj k)=true): ∀(l met:List Int),bU w met l=true->k∉met->k∉l->bU w met (l++[k])=true
 |[],met,_,hm,_=>by
  simp only[bT4,bU,h1,h2,bUc,bTo,bUb,<-bT9,bVv,bWo]
  rintro⟨x,hx,rfl⟩
  exact hm hx
 |x::l,met,h,hm,hl=>by
  simp only[bVh,bU,bSw]at h⊢
  refine⟨h.1,aG1 h1 h2 l _ h.2 (fun hc=>?_) (fun hc=>hl (bU4 _ hc))⟩
  rcases bTn.1 hc with hc|hc
  ·exact hm hc
  ·simp only[bUg]at hc;exact hl (by rw[hc];simp)
theorem qN {w:aA}: ∀(l met:List Int),bU w met l=true-> ∀k∈l,inR k 0 ((w.objs.length:Int)-1)=true/\ dB (w.obj k)=true
 |[],_,_=>fun k hk=>by cases hk
 |x::l,met,h=>by
  simp only[bU,bSw]at h;intro k hk;rcases bTp.1 hk with rfl|hk
  ·exact⟨h.1.1.1,h.1.1.2⟩
  ·exact qN l _ h.2 k hk
structure cP (p:aD) (w0:aA) (S:Nat->Prop) (w:aA):Prop where
 ok:cJ p w=true
 le:w0.objs.length<=w.objs.length
 form: ∀i:Nat,i<w0.objs.length->(w.obj i).form=(w0.obj i).form
 pre:w0.tasks<+:w.tasks
 shut: ∀i:Nat,i<w.objs.length->S i-> ∀v∈nY (w.obj i),v.kind=5->S v.n.toNat
 ts: ∀t∈w.tasks,S t.toNat
 new: ∀i,w0.objs.length<=i->S i
structure VOk (p:aD) (S:Nat->Prop) (w:aA) (v:aE):Prop where
 ok:dR p w v=true
 ref:v.kind=5->S v.n.toNat
structure OOk (p:aD) (S:Nat->Prop) (w:aA) (o:aP):Prop where
 ok:dX p w o=true
 ref: ∀v∈nY o,v.kind=5->S v.n.toNat
structure FOk (p:aD) (S:Nat->Prop) (w:aA) (f:aB):Prop where
 ok:dN p w f=true
 ref: ∀v∈f.env++f.vals,v.kind=5->S v.n.toNat
variable {S:Nat->Prop}{w0:aA}
theorem VOk.le (h:VOk p S w v)(hl:w.objs.length<=w'.objs.length):VOk p S w' v:=⟨aVe hl h.ok,h.ref⟩
theorem OOk.le {o:aP}(h:OOk p S w o)(hl:w.objs.length<=w'.objs.length):OOk p S w' o:=⟨aCy hl h.ok,h.ref⟩
theorem FOk.le (h:FOk p S w f)(hl:w.objs.length<=w'.objs.length):FOk p S w' f:=⟨aVf hl h.ok,h.ref⟩
theorem FOk.env (h:FOk p S w f)(hv:v∈f.env):VOk p S w v:=by
 have:=h.ok;simp only[dN,bC,bSw,bS5]at this;exact⟨this.1.2.2 v hv,h.ref v (bVb _ hv)⟩
theorem FOk.vals (h:FOk p S w f)(hv:v∈f.vals):VOk p S w v:=by
 have:=h.ok;simp only[dN,bC,bSw,bS5]at this;exact⟨this.2.2 v hv,h.ref v (bUn _ hv)⟩
theorem OOk.vals {o:aP}(h:OOk p S w o)(hv:v∈o.vals):VOk p S w v:=⟨(aDw h.ok).1 v hv,h.ref v (bVb _ hv)⟩
theorem OOk.frames {o:aP}(h:OOk p S w o)(hf:f∈o.frames):FOk p S w f:=by
 have:=(aDw h.ok).2;simp only[bY,bSw,bS5]at this;exact⟨this.2 f hf,fun v hv=>h.ref v (bUn _ (bUa.2 ⟨f,hf,hv⟩))⟩
theorem cH :cJ p w=true↔w.objs.length<=120/\ w.outs.length<=100/\ oB w.ins 50=true/\ inR w.used 0 1000000000=true/\ gS w=true/\ (∀o∈w.objs,dX p w o=true)/\ ∀o∈w.outs,xR o=true:=by
 simp only[cJ,bSw,bWo,bS5,and_assoc];constructor
 ·rintro⟨a,b,c⟩;exact⟨by omega,by omega,c⟩
 ·rintro⟨a,b,c⟩;exact⟨by omega,by omega,c⟩
theorem bGi (h:inR i 0 ((w.objs.length:Int)-1)=true):w.obj i∈w.objs:=by
 simp only[inR,bWo]at h;exact nJ (by omega)
theorem cP.obj (h:cP p w0 S w)(hi:inR i 0 ((w.objs.length:Int)-1)=true)(hs:S i.toNat):OOk p S w (w.obj i):=by
 have hi':=hi;simp only[inR,bWo]at hi'
 refine⟨(cH.1 h.ok).2.2.2.2.2.1 _ (bGi hi),fun v hv=>?_⟩
 have e:w.obj i=w.obj (i.toNat:Nat):=by rw[bWg hi'.1]
 rw[e]at hv;exact h.shut _ (by omega) hs v hv
theorem cP.ref (h:cP p w0 S w)(hv:VOk p S w v)(h5:v.kind=5):inR v.n 0 ((w.objs.length:Int)-1)=true/\ OOk p S w (w.obj v.n):=by
 have h1:=hv.ok;simp only[dR,h5]at h1;have h1:inR v.n 0 ((w.objs.length:Int)-1)=true:=by simpa using h1
 exact⟨h1,h.obj h1 (hv.ref h5)⟩
variable {a:Int}
theorem cP.task (h:cP p w0 S w)(ha:inR a 0 ((w.tasks.length:Int)-1)=true):inR (aX w a) 0 ((w.objs.length:Int)-1)=true/\ (w.obj (aX w a)).form=6/\ S (aX w a).toNat:=by
 simp only[inR,bWo]at ha;have hm:aX w a∈w.tasks:=nJ (by omega)
 have ht:=(cH.1 h.ok).2.2.2.2.1;simp only[gS,bSw]at ht;obtain⟨h1,h2⟩:=qN _ _ ht.2 _ hm;exact⟨h1,D_o h2,h.ts _ hm⟩
variable {j:Nat}
theorem aSa {o:aP}(hi:inR i 0 ((w.objs.length:Int)-1)=true):(dD w i o).obj j=if(i.toNat=j)then o else w.obj j:=by
 simp only[inR,bWo]at hi;simp only[aA.obj,dD,bSz,bTt,bVq]
 by_cases h:i.toNat=j
 ·subst h;simp only[if_true];rw[if_pos (by omega)];rfl
 ·simp[h]
theorem rU {o:aP}:(dD w i o).objs.length=w.objs.length:=by simp[dD]
theorem bAj {l:List aP}{i:Nat}{o:aP}(hi:i<l.length)(h:dB o=dB l[i]):(l.set i o).countP dB=l.countP dB:=by
 rw[List.countP_set hi,h];have:dB l[i]=true->0<l.countP dB:=fun h=>bWh.2 ⟨_,bS7 hi,h⟩
 split
 ·rename_i h1;have:=this h1;omega
 ·omega
theorem aYq {i:Nat}(h:i<w.objs.length):w.obj i=w.objs[i]:=by
 simp only[aA.obj,bTt,bSz,bTy h,bTq]
theorem cP.set (h:cP p w0 S w){o:aP}(hi:inR i 0 ((w.objs.length:Int)-1)=true)(ho:OOk p S w o)(hf:o.form=(w.obj i).form):cP p w0 S (dD w i o):=by
 have hi':=hi;simp only[inR,bWo]at hi';have hit:i.toNat<w.objs.length:=by omega
 have e:w.obj i=w.objs[i.toNat]:=by rw[<-aYq hit,bWg hi'.1]
 have hk:dB o=dB w.objs[i.toNat]:=by simp only[dB,hf,e]
 obtain⟨a1,a2,a3,a4,a5,a6,a7⟩:=cH.1 h.ok;have hle:w.objs.length<=(dD w i o).objs.length:=by rw[rU];exact bSx _
 refine⟨cH.2 ⟨by rw[rU];exact a1,a2,a3,a4,?_,fun x hx=>?_,a7⟩,by rw[rU];exact h.le,fun j hj=>?_,h.pre,fun j hj hs v hv=>?_,h.ts,h.new⟩
 ·simp only[gS,bSw,bWo]at a5⊢
  refine⟨?_,oF hle (fun k hk'=>?_) _ _ a5.2⟩
  ·show w.tasks.length=(w.objs.set i.toNat o).countP dB;rw[bAj hit hk];exact a5.1
  ·simp only[inR,bWo]at hk';obtain⟨j,rfl⟩:=bTs hk'.1;rw[aSa hi];split
   ·rename_i hj;subst hj;rw[hk,aYq hit]
   ·rfl
 ·rcases bWl hx with hx|rfl
  ·exact aCy hle (a6 x hx)
  ·exact aCy hle ho.ok
 ·rw[aSa hi];split
  ·rename_i hj';subst hj';rw[hf,<-h.form _ hj,bWg hi'.1]
  ·exact h.form j hj
 ·rw[aSa hi]at hv;rw[rU]at hj
  split at hv
  ·exact ho.ref v hv
  ·exact h.shut j hj hs v hv
theorem nZ {o:aP}:(eF w o).objs.length=w.objs.length+1:=by simp[eF]
theorem aA5 {o:aP}(hj:j<w.objs.length+1):(eF w o).obj j=if j=w.objs.length then o else w.obj j:=by
 simp only[aA.obj,eF,bTt,bSz];split
 ·rename_i h;subst h;simp
 ·rename_i h;rw[bUy (by omega)]
theorem cP.add (h:cP p w0 S w){o:aP}(hl:w.objs.length<120)(ho:OOk p S w o)(hf: ¬o.form=6):cP p w0 S (eF w o):=by
 obtain⟨a1,a2,a3,a4,a5,a6,a7⟩:=cH.1 h.ok;have hle:w.objs.length<=(eF w o).objs.length:=by rw[nZ];omega
 have hk:dB o=false:=D_f hf;have hl0:=h.le
 refine⟨cH.2 ⟨by rw[nZ];omega,a2,a3,a4,?_,fun x hx=>?_,a7⟩,by rw[nZ];omega,fun j hj=>?_,h.pre,fun j hj hs v hv=>?_,h.ts,h.new⟩
 ·simp only[gS,bSw,bWo]at a5⊢
  refine⟨?_,oF hle (fun k hk'=>?_) _ _ a5.2⟩
  ·show w.tasks.length=(w.objs++[o]).countP dB;rw[List.countP_append];simp[hk,a5.1]
  ·simp only[inR,bWo]at hk';obtain⟨j,rfl⟩:=bTs hk'.1;rw[aA5 (by omega),if_neg (by omega)]
 ·rcases bTn.1 hx with hx|hx
  ·exact aCy hle (a6 x hx)
  ·simp only[bUg]at hx;subst hx;exact aCy hle ho.ok
 ·rw[aA5 (by omega),if_neg (by omega)];exact h.form j hj
 ·rw[nZ]at hj;rw[aA5 hj]at hv
  split at hv
  ·exact ho.ref v hv
  ·exact h.shut j (by omega) hs v hv
theorem cP.born (h:cP p w0 S w){o:aP}(hl:w.objs.length<120)(ho:OOk p S w o)(hf:o.form=6):cP p w0 S (rR (eF w o)):=by
 obtain⟨a1,a2,a3,a4,a5,a6,a7⟩:=cH.1 h.ok;have hlen:(rR (eF w o)).objs.length=w.objs.length+1:=nZ;have hle:w.objs.length<=(rR (eF w o)).objs.length:=by rw[hlen];omega
 have hk:dB o=true:=D_t hf;have hl0:=h.le;have hT:(rR (eF w o)).tasks=w.tasks++[(w.objs.length:Int)]:=by
  show w.tasks++[((eF w o).objs.length:Int)-1]=_;rw[nZ];congr 2;omega
 have hO: ∀j:Int,(rR (eF w o)).obj j=(eF w o).obj j:=fun j=>rfl
 refine⟨cH.2 ⟨by rw[hlen];omega,a2,a3,a4,?_,fun x hx=>?_,a7⟩,by rw[hlen];omega,fun j hj=>?_,?_,fun j hj hs v hv=>?_,fun t ht=>?_,h.new⟩
 ·simp only[gS,bSw,bWo]at a5⊢;rw[hT]
  refine⟨?_,aG1 ?_ ?_ _ _ (oF hle (fun k hk'=>?_) _ _ a5.2) (by simp) (fun hc=>?_)⟩
  ·show(w.tasks++[_]).length=(w.objs++[o]).countP dB;rw[List.countP_append];simp[hk,a5.1]
  ·rw[hlen];simp only[inR,bWo];omega
  ·rw[hO,aA5 (by omega),if_pos rfl];exact hk
  ·simp only[inR,bWo]at hk';obtain⟨j,rfl⟩:=bTs hk'.1;rw[hO,aA5 (by omega),if_neg (by omega)]
  ·have:=(qN _ _ a5.2 _ hc).1;simp only[inR,bWo]at this;omega
 ·rcases bTn.1 hx with hx|hx
  ·exact aCy hle (a6 x hx)
  ·simp only[bUg]at hx;subst hx;exact aCy hle ho.ok
 ·rw[hO,aA5 (by omega),if_neg (by omega)];exact h.form j hj
 ·rw[hT];exact h.pre.trans (List.prefix_append _ _)
 ·rw[hlen]at hj;rw[hO,aA5 hj]at hv
  split at hv
  ·exact ho.ref v hv
  ·exact h.shut j (by omega) hs v hv
 ·rw[hT]at ht;rcases bTn.1 ht with ht|ht
  ·exact h.ts t ht
  ·simp only[bUg]at ht;subst ht;exact h.new _ (by simp only[bTt];omega)
variable {left:List aB}
structure LOk (p:aD) (S:Nat->Prop) (w:aA) (l:List aB):Prop where
 len:l.length<=40
 ok: ∀f∈l,FOk p S w f
 opn: ∀f∈l,fV p f=true
theorem LOk.le {l:List aB}(h:LOk p S w l)(hl:w.objs.length<=w'.objs.length):LOk p S w' l:=⟨h.len,fun f hf=>(h.ok f hf).le hl,h.opn⟩
theorem LOk.frames {l:List aB}(h:LOk p S w l):bY p w l=true:=by
 simp only[bY,bSw,bWo,bS5];exact⟨by have:=h.len;omega,fun f hf=>(h.ok f hf).ok⟩
theorem LOk.sub {l l':List aB}(h:LOk p S w l)(hs: ∀f∈l',f∈l)(hl:l'.length<=40):LOk p S w l':=⟨hl,fun f hf=>h.ok f (hs f hf),fun f hf=>h.opn f (hs f hf)⟩
theorem aSb {n:Int}(h:inR n (-1000000000) 1000000000=true):VOk p S w (nP n):=⟨by simp[dR,nP,h],fun h=>by cases h⟩
theorem aNg {b:Bool}:VOk p S w (nW b):=⟨by cases b<;>rfl,fun h=>by cases b<;>cases h⟩
theorem rV :VOk p S w bT:=⟨rfl,fun h=>by cases h⟩
theorem aSc (h:cP p w0 S w){o:aP}:VOk p S (eF w o) (dQ w.objs.length):=by
 refine⟨?_,fun _=>h.new _ (by simp only[dQ,bTt];exact h.le)⟩
 simp only[dR,dQ,inR,nZ];simp
theorem aVg {l:List aB}(hl:LOk p S w l)(hv:VOk p S w v):OOk p S w ⟨6,0,[v],l⟩:=by
 refine⟨?_,fun u hu=>?_⟩
 ·rw[dX,if_pos rfl,kI,if_pos rfl];simp only[bSw,bWo,bS5]
  refine⟨⟨⟨hl.frames,?_⟩,?_⟩,fun f hf=>?_⟩
  ·simp[bC,hv.ok]
  ·simp only[bS8,bTd];omega
  ·exact hl.opn f (bVf hf)
 ·simp only[nY,bVh,bT4,bTp,bUa]at hu;rcases hu with rfl|⟨f,hf,hu⟩
  ·exact hv.ref
  ·exact(hl.ok f hf).ref u hu
theorem aNh {l:List aB}(hl:LOk p S w l)(hlen:l.length<40)(hf:FOk p S w f):OOk p S w ⟨6,0,[],l++[f]⟩:=by
 refine⟨?_,fun u hu=>?_⟩
 ·rw[dX,if_pos rfl,kI,if_pos rfl];simp only[bSw,bWo,bS5,bY]
  refine⟨⟨⟨⟨?_,fun g hg=>?_⟩,rfl⟩,?_⟩,fun g hg=>?_⟩
  ·simp only[bTg,bS8,bTd];omega
  ·rcases bTn.1 hg with hg|hg
   ·exact(hl.ok g hg).ok
   ·simp only[bUg]at hg;subst hg;exact hf.ok
  ·simp only[bTg,bS8,bTd];omega
  ·rw[List.take_append_of_le_length (by simp)]at hg
   exact hl.opn g (bVf hg)
 ·simp only[nY,bT4,bUa]at hu;obtain⟨g,hg,hu⟩:=hu;rcases bTn.1 hg with hg|hg
  ·exact(hl.ok g hg).ref u hu
  ·simp only[bUg]at hg;subst hg;exact hf.ref u hu
variable {st:Int}
theorem bDw (h:st=2 \/st=3 \/st=4):OOk p S w ⟨6,st,[],[]⟩:=by
 refine⟨?_,fun u hu=>by simp[nY]at hu⟩
 rcases h with rfl|rfl|rfl<;>rfl
theorem bDx (hv:VOk p S w v):OOk p S w ⟨6,1,[v],[]⟩:=by
 refine⟨?_,fun u hu=>?_⟩
 ·simp[dX,kI,bC,hv.ok]
 ·simp only[nY,bU3,bT1,bUg]at hu;subst hu;exact hv.ref
theorem bGj (n:aL):0<=n.asks:=by
 unfold aL.asks;split
 ·decide
 split
 ·exact bVm _
 split<;>decide
theorem aYr {node:Int}{env:List aE}(hn:inR node 0 ((p.nodes.length:Int)-1)=true)(he: ∀v∈env,VOk p S w v)(hl:env.length<=30):FOk p S w ⟨node,env,[]⟩:=by
 refine⟨?_,fun v hv=>?_⟩
 ·simp only[dN,bC,bSw,bWo,bS5,hn,true_and]
  refine⟨⟨by omega,fun v hv=>(he v hv).ok⟩,by simpa using bGj _,fun v hv=>by cases hv⟩
 ·simp only[bT1]at hv;exact(he v hv).ref
theorem dH (h:cP p w0 S w)(ha:inR a 0 ((w.tasks.length:Int)-1)=true)(hs:st=2 \/st=3 \/st=4):cP p w0 S (bG w a st).w:=by
 obtain⟨h1,h2,_⟩:=h.task ha;exact h.set h1 (bDw hs) h2.symm
theorem eY (h:cP p w0 S w)(ha:inR a 0 ((w.tasks.length:Int)-1)=true)(hl:LOk p S w left)(hv:VOk p S w v):cP p w0 S (cC w a left v).w:=by
 obtain⟨h1,h2,_⟩:=h.task ha;exact h.set h1 (aVg hl hv) h2.symm
theorem vB (h:cP p w0 S w)(ha:inR a 0 ((w.tasks.length:Int)-1)=true){node:Int}{env:List aE}(hl:LOk p S w left)(hn:inR node 0 ((p.nodes.length:Int)-1)=true)(he: ∀v∈env,VOk p S w v):
  cP p w0 S (iD w a left node env).w:=by
 obtain⟨h1,h2,_⟩:=h.task ha;unfold iD;split
 ·exact dH h ha (by simp)
 ·exact h.set h1 (aNh hl (by omega) (aYr hn he (by omega))) h2.symm
theorem aDx (h:cP p w0 S w)(ha:inR a 0 ((w.tasks.length:Int)-1)=true){o:aP}(hl:LOk p S w left)(ho:OOk p S w o)(hf: ¬o.form=6):cP p w0 S (iW w a left o).w:=by
 unfold iW;split
 ·exact dH h ha (by simp)
 ·exact eY (h.add (by omega) ho hf) ha (hl.le (by rw[nZ];omega)) (aSc h)
theorem rW {d:Did}{act n:Int}:(dL d a act n v).w=d.w:=by unfold dL;split<;>rfl
theorem aQd (h:cP p w0 S w)(ha:inR a 0 ((w.tasks.length:Int)-1)=true){o:aP}(hl:LOk p S w left)(ho:OOk p S w o)(hf:o.form=6):cP p w0 S (aBs w a left o).w:=by
 unfold aBs;simp only[rW];unfold iW;split
 ·rw[if_pos (show(bG w a 4).what=1 from rfl)];exact dH h ha (by simp)
 ·rename_i hc;rw[if_neg (by simp[cC])]
  have hb:=h.born (by omega) ho hf
  have ha':inR a 0 (((rR (eF w o)).tasks.length:Int)-1)=true:=by
   simp only[inR,bWo,rR,bTg,bS8,bTd]at ha⊢;have e:(eF w o).tasks=w.tasks:=rfl;rw[e];omega
  have hT:aX (rR (eF w o)) a=aX (eF w o) a:=by
   simp only[inR,bWo]at ha;show(w.tasks++_).getD a.toNat 0=w.tasks.getD a.toNat 0;simp only[bSz];rw[bUy (by omega)]
  have:=eY hb ha' (left:=left) (v:=dQ w.objs.length) (hl.le (by show _<=(eF w o).objs.length;rw[nZ];omega)) ((aSc h (o:=o)).le (bSx _))
  have e:rR (cC (eF w o) a left (dQ w.objs.length)).w=(cC (rR (eF w o)) a left (dQ w.objs.length)).w:=by
   simp only[cC,hT];simp only[rR,dD,bUs]
  show cP p w0 S (rR (cC (eF w o) a left (dQ w.objs.length)).w);rw[e];exact this
variable {ins:List Int}{outs:List bO}{used:Int}
theorem cP.io (h:cP p w0 S w)(h1:outs.length<=100)(h2: ∀o∈outs,xR o=true)(h3:oB ins 50=true)(h4:inR used 0 1000000000=true):cP p w0 S ⟨w.objs,w.tasks,outs,ins,used⟩:=by
 obtain⟨a1,a2,a3,a4,a5,a6,a7⟩:=cH.1 h.ok
 refine⟨cH.2 ⟨a1,h1,h3,h4,?_,fun o ho=>aCy (bSx _) (a6 o ho),h2⟩,h.le,h.form,h.pre,h.shut,h.ts,h.new⟩
 simp only[gS,bSw]at a5⊢;exact⟨a5.1,oF (w:=w) (w':=⟨w.objs,w.tasks,outs,ins,used⟩) (bSx _) (fun _ _=>rfl) _ _ a5.2⟩
variable {n:aL}
theorem oR (h:eS p n=true):(n.kids.length:Int)=fP n.op n.pats.length (pX p n):=by
 simp only[eS,bSw,bWo]at h;exact h.2
theorem aIp (h:eS p n=true):n.asks<=n.kids.length:=by
 have:=oR h;unfold aL.asks;unfold fP at this
 repeat' split at this
 all_goals (repeat' split)
 all_goals omega
theorem aXm (hp:eQ p)(hi:inR i 0 ((p.nodes.length:Int)-1)=true){k:Int}(h0:0<=k)(hk:k<(p.node i).kids.length):inR (pK (p.node i) k) 0 ((p.nodes.length:Int)-1)=true:=
 hp.kids _ (jE hi) _ (nJ (by omega))
theorem fM (h:cP p w0 S w){f:aE}{k:Int}(hv:VOk p S w f)(hi:cG w f k=true):inR f.n 0 ((w.objs.length:Int)-1)=true/\ OOk p S w (w.obj f.n)/\ (w.obj f.n).form=k/\ f.kind=5:=by
 simp only[cG,bSw,bWo]at hi;obtain⟨h1,h2⟩:=h.ref hv hi.1;exact⟨h1,h2,hi.2,hi.1⟩
variable {b:aB}
theorem aFc (hp:eQ p)(h:cP p w0 S w){f:aE}(hf:VOk p S w f)(hv:VOk p S w v)(hb:eW p w f v=some b):
  inR b.node 0 ((p.nodes.length:Int)-1)=true/\ (∀u∈b.env,VOk p S w u)/\ b.vals=[]:=by
 unfold eW at hb
 split at hb
 ·rename_i h4;simp only[bSv]at hb;subst hb;have h1:=hf.ok;simp only[dR,h4]at h1;have h1:inR f.n 0 ((p.funs.length:Int)-1)=true:=by simpa using h1
  simp only[inR,bWo]at h1;exact⟨hp.funs _ (nJ (by omega)),fun u hu=>by simp only[bUg]at hu;subst hu;exact hv,rfl⟩
 ·split at hb
  ·rename_i h2;simp only[bSv]at hb;subst hb;obtain⟨a1,a2,a3,_⟩:=fM h hf h2;have hk:=a2.ok;simp only[dX,a3]at hk
   simp at hk
   obtain⟨_,⟨b1,b2⟩,_⟩:=hk
   refine⟨aXm hp b1 (by decide) ?_,fun u hu=>?_,rfl⟩
   ·rw[oR (hp.nodes _ (jE b1)),b2];simp[fP]
   ·rcases bTn.1 hu with hu|hu
    ·exact a2.vals hu
    ·simp only[bUg]at hu;subst hu;exact hv
  ·cases hb
theorem aIq {o:aP}(h:OOk p S w o)(h5:o.form=5):LOk p S w o.frames:=by
 have hk:=h.ok;simp only[dX,h5]at hk;simp[bY]at hk;exact⟨by omega,fun f hf=>h.frames hf,hk.1.2⟩
theorem LOk.app {l m:List aB}(h:LOk p S w l)(k:LOk p S w m)(hl:(l++m).length<=40):LOk p S w (l++m):=
 ⟨hl,fun f hf=>(bTn.1 hf).elim (h.ok f) (k.ok f),fun f hf=>(bTn.1 hf).elim (h.opn f) (k.opn f)⟩
theorem aSd (hp:eQ p)(h:cP p w0 S w)(ha:inR a 0 ((w.tasks.length:Int)-1)=true)(hl:LOk p S w left){f:aE}(hf:VOk p S w f)(hv:VOk p S w v):cP p w0 S (fK p w a left f v).w:=by
 unfold fK;split
 ·rename_i h5;obtain⟨_,a2,a3,_⟩:=fM h hf h5;split
  ·exact dH h ha (by simp)
  ·exact eY h ha (hl.app (aIq a2 a3) (by omega)) hv
 ·split
  ·exact dH h ha (by simp)
  ·rename_i b hb;obtain⟨b1,b2,_⟩:=aFc hp h hf hv hb;exact vB h ha hl b1 b2
variable {op:Int}{u:aE}
theorem aSe (h:cP p w0 S w)(ha:inR a 0 ((w.tasks.length:Int)-1)=true)(hl:LOk p S w left):cP p w0 S (cN w a left op u v).w:=by
 unfold cN;split
 ·split
  ·exact dH h ha (by simp)
  ·exact eY h ha hl aNg
 split
 ·exact dH h ha (by simp)
 split
 ·exact eY h ha hl aNg
 split
 ·rename_i hr;exact eY h ha hl (aSb hr)
 ·exact dH h ha (by simp)
mutual
theorem aNi (h:cP p w0 S w): ∀(q:Pat) {v:aE} {l:List aE},VOk p S w v->fW w q v=some l-> ∀u∈l,VOk p S w u
 | .mk f n t ps,v,l,hv,hm=>by
  unfold fW at hm
  split at hm
  ·cases hm;intro u hu;cases hu
  split at hm
  ·cases hm;intro u hu;simp only[bUg]at hu;subst hu;exact hv
  split at hm
  ·split at hm
   ·cases hm;intro u hu;cases hu
   ·cases hm
  split at hm
  ·split at hm
   ·cases hm;intro u hu;cases hu
   ·cases hm
  split at hm
  ·split at hm
   ·cases hm;intro u hu;cases hu
   ·cases hm
  split at hm
  ·rename_i hc;obtain⟨_,a2,_,_⟩:=fM h hv hc.1;exact aJz h ps (fun u hu=>a2.vals hu) hm
  ·cases hm
theorem aJz (h:cP p w0 S w): ∀(ps:List Pat) {vs l:List aE},(∀v∈vs,VOk p S w v)->fF w ps vs=some l-> ∀u∈l,VOk p S w u
 |[],vs,l,hv,hm=>by
  simp only[fF,bSv]at hm;subst hm;intro u hu;cases hu
 |q::ps,[],l,hv,hm=>by
  simp only[fF,bSv]at hm;subst hm;intro u hu;cases hu
 |q::ps,v::vs,l,hv,hm=>by
  simp only[fF]at hm
  split at hm
  ·cases hm
  rename_i l1 h1
  split at hm
  ·cases hm
  rename_i l2 h2;simp only[bSv]at hm;subst hm;intro u hu;rcases bTn.1 hu with hu|hu
  ·exact aNi h q (hv v (by simp)) h1 u hu
  ·exact aJz h ps (fun u hu=>hv u (by simp[hu])) h2 u hu
end
theorem aG2 (h:cP p w0 S w)(ha:inR a 0 ((w.tasks.length:Int)-1)=true)(hl:LOk p S w left){kids:List Int}(hk: ∀k∈kids,inR k 0 ((p.nodes.length:Int)-1)=true){env:List aE}(he: ∀v∈env,VOk p S w v){u:aE}(hu:VOk p S w u):
  ∀(l:List Pat) (i:Nat),1+i+l.length<=kids.length->cP p w0 S (kM w a left kids env u i l).w
 |[],i,_=>dH h ha (by simp)
 |q::qs,i,hi=>by
  unfold kM;simp only[bS8]at hi;split
  ·rename_i l hm
   refine vB h ha hl (hk _ (nJ (by omega))) fun v hv=>?_
   rcases bTn.1 hv with hv|hv
   ·exact he v hv
   ·exact aNi h q hu hm v hv
  ·exact aG2 h ha hl hk he hu qs (i+1) (by omega)
theorem aVh {left:List aB}: ∀{m k:Nat},gG p left m=k+1->k<m/\ (p.node (left.getD k default).node).op=26
 |0,k,h=>by simp[gG]at h
 |m+1,k,h=>by
  unfold gG at h
  split at h
  ·rename_i hc;have:m=k:=by omega
   subst this;exact⟨by omega,hc⟩
  ·obtain⟨a,b⟩:=aVh h;exact⟨by omega,b⟩
theorem bDy {l:List aB}(h:LOk p S w l)(h0:0<l.length)(hr:(p.node (l.headD default).node).op=26):OOk p S w ⟨5,0,[],l⟩:=by
 refine⟨?_,fun u hu=>?_⟩
 ·rw[dX,if_neg (by simp),if_pos rfl]
  simp only[bSw,bWo,bS5];exact⟨⟨⟨⟨⟨by simp,by simp⟩,by omega⟩,h.frames⟩,h.opn⟩,hr⟩
 ·simp only[nY,bT4,bUa]at hu;obtain⟨f,hf,hu⟩:=hu;exact(h.ok f hf).ref u hu
theorem bAk {node:Int}{env:List aE}:(iD w a left node env).what=1->(iD w a left node env).e.n=4:=by
 unfold iD;split
 ·intro _;rfl
 ·intro h;cases h
variable {kid:Int}
theorem aSf (h:cP p w0 S w)(ha:inR a 0 ((w.tasks.length:Int)-1)=true)(hl:LOk p S w left)(hk:inR kid 0 ((p.nodes.length:Int)-1)=true){env:List aE}(he: ∀v∈env,VOk p S w v):cP p w0 S (fL p w a left kid env).w:=by
 unfold fL;split
 ·exact dH h ha (by simp)
 ·rename_i k hr;obtain⟨hkl,hop⟩:=aVh hr;split
  ·exact dH h ha (by simp)
  ·rename_i hc
   simp only
   split
   ·rename_i hw;rw[bAk hw];exact dH h ha (by simp)
   ·have hld:=hl.len;have hd:LOk p S w (left.drop k):=hl.sub (fun f hf=>List.mem_of_mem_drop hf) (by simp only[bVi];omega)
    have hh:(p.node ((left.drop k).headD default).node).op=26:=by
     rw[bSz]at hop;rw[List.headD_eq_head?_getD,List.head?_drop];exact hop
    have hF:=h.add (o:=⟨5,0,[],left.drop k⟩) (by omega) (bDy hd (by simp only[bVi];omega) hh) (by simp)
    have hle:w.objs.length<=(eF w ⟨5,0,[],left.drop k⟩).objs.length:=by rw[nZ];omega
    refine vB hF ha ((hl.sub (fun f hf=>bVf hf) (by simp only[bT3];omega)).le hle) hk fun v hv=>?_
    rcases bTn.1 hv with hv|hv
    ·exact(he v hv).le hle
    ·simp only[bUg]at hv;subst hv;exact aSc h
theorem aSg (hp:eQ p)(h:cP p w0 S w)(ha:inR a 0 ((w.tasks.length:Int)-1)=true)(hl:LOk p S w left){f:aE}(hf:VOk p S w f):cP p w0 S (eR p w a left f).w:=by
 unfold eR;split
 ·rename_i h5;obtain⟨_,a2,a3,_⟩:=fM h hf h5;exact aQd h ha hl (aVg (aIq a2 a3) rV) rfl
 ·split
  ·exact dH h ha (by simp)
  ·rename_i b hb;obtain⟨b1,b2,b3⟩:=aFc hp h hf rV hb;split
   ·exact dH h ha (by simp)
   ·have e:b=⟨b.node,b.env,[]⟩:=by rw[<-b3]
    have h0:LOk p S w []:=⟨by simp,by simp,by simp⟩
    have:=aNh h0 (by simp) (aYr b1 b2 (by omega))
    rw[<-e]at this;exact aQd h ha hl this rfl
theorem dO {i:Nat}(h:i<l.length):aF l i∈l:=nJ h
theorem aVi (hv:VOk p S w v):OOk p S w ⟨3,0,[v],[]⟩:=by
 refine⟨?_,fun u hu=>?_⟩
 ·simp[dX,bC,hv.ok]
 ·simp only[nY,bU3,bT1,bUg]at hu;subst hu;exact hv.ref
theorem aNj (hl:l.length<=4)(hv: ∀v∈l,VOk p S w v):OOk p S w ⟨4,0,l,[]⟩:=by
 refine⟨?_,fun u hu=>?_⟩
 ·simp only[dX,bC];simp;exact⟨by omega,fun v h=>(hv v h).ok⟩
 ·simp only[nY,bU3,bT1]at hu;exact(hv u hu).ref
theorem aVj (h:cP p w0 S w)(ha:inR a 0 ((w.tasks.length:Int)-1)=true)(hl:LOk p S w left)(hv: ∀v∈l,VOk p S w v)(h0:0<l.length)(h1: ¬op=16-> ¬op=17->1<l.length):cP p w0 S (eZ w a left op l).w:=by
 unfold eZ;have hv0:=hv _ (dO h0);split
 ·rw[rW];exact aDx h ha hl (aVi hv0) (by simp)
 rename_i n16;split
 ·rename_i h3;obtain⟨a1,a2,a3,_⟩:=fM h hv0 h3;split
  ·rw[rW];have hk:=a2.ok;simp only[dX,a3]at hk
   simp at hk
   exact eY h ha hl (a2.vals (dO (by omega)))
  ·rename_i n17;rw[rW];have hF:=h.set a1 (aVi (hv _ (dO (h1 n16 n17)))) a3.symm;exact eY hF ha (hl.le (by rw[rU];exact bSx _)) rV
 ·exact dH h ha (by simp)
theorem aNk (h:cP p w0 S w)(ha:inR a 0 ((w.tasks.length:Int)-1)=true)(hl:LOk p S w left)(hv: ∀v∈l,VOk p S w v)(h0:0<l.length)(h1:op=22->1<l.length):cP p w0 S (cE w a left op l).w:=by
 unfold cE;have hv0:=hv _ (dO h0);split
 ·rename_i h3;obtain⟨a1,a2,a3,_⟩:=fM h hv0 h3;have hk:=a2.ok;simp only[dX,a3]at hk;simp[bC]at hk;split
  ·rename_i h22;split
   ·exact h
   ·rw[rW];have hF:=h.set a1 (aNj (l:=(w.obj (aF l 0).n).vals++[aF l 1]) (by simp only[bTg,bS8,bTd];omega) fun v hv'=>by
     rcases bTn.1 hv' with hv'|hv'
     ·exact a2.vals hv'
     ·simp only[bUg]at hv';subst hv';exact hv _ (dO (h1 h22))) a3.symm
    exact eY hF ha (hl.le (by rw[rU];exact bSx _)) rV
  ·split
   ·exact h
   ·rename_i hne;rw[rW];have hF:=h.set a1 (aNj (l:=(w.obj (aF l 0).n).vals.drop 1) (by simp only[bVi];omega) fun v hv'=>a2.vals (List.mem_of_mem_drop hv')) a3.symm
    exact eY hF ha (hl.le (by rw[rU];exact bSx _)) ((a2.vals (dO (by omega))).le (by rw[rU];exact bSx _))
 ·exact dH h ha (by simp)
theorem aVk (h:cP p w0 S w)(ha:inR a 0 ((w.tasks.length:Int)-1)=true)(hl:LOk p S w left)(hv:VOk p S w v):cP p w0 S (gV w a left v).w:=by
 unfold gV;split
 ·rename_i h6;obtain⟨a1,a2,a3,_⟩:=fM h hv h6;have hk:=a2.ok;rw[dX,if_pos a3,kI]at hk;split
  ·exact h
  rename_i n0;rw[if_neg n0]at hk;split
  ·rename_i n1;rw[if_neg n1]at hk
   split at hk
   ·rename_i hst;exact dH h ha hst
   ·cases hk
  ·rename_i n1;rw[if_pos (Decidable.not_not.1 n1)]at hk;simp only[bSw,bWo]at hk;rw[rW];exact eY h ha hl (a2.vals (dO (by omega)))
 ·exact dH h ha (by simp)
theorem aSh (h:cP p w0 S w)(ha:inR a 0 ((w.tasks.length:Int)-1)=true)(hl:LOk p S w left){port:Int}(hv: ¬op=25->0<l.length/\ inR port 0 3=true)(hv': ∀v∈l,VOk p S w v):cP p w0 S (dM w a left op port l).w:=by
 obtain⟨a1,a2,a3,a4,a5,a6,a7⟩:=cH.1 h.ok;unfold dM;split
 ·split
  ·exact h
  ·rename_i x xs hi;split
   ·exact dH h ha (by simp)
   ·rename_i hu;rw[rW];simp only[oB,hi,bS8,bVd,bSw,bWo]at a3;simp only[inR,bWo]at a4;have hF:=h.io (outs:=w.outs) (ins:=xs) (used:=w.used+1) a2 a7 (by simp only[oB,bSw,bWo];exact⟨by omega,a3.2.2⟩) (by simp only[inR,bWo];omega)
    exact eY hF ha (hl.le (bSx _)) (aSb a3.2.1)
 ·rename_i hop;obtain⟨h0,hport⟩:=hv hop;split
  ·exact dH h ha (by simp)
  ·rename_i hk;split
   ·exact dH h ha (by simp)
   ·rw[rW];have h1:=(hv' _ (dO h0)).ok;rw[dR,if_pos (Decidable.not_not.1 hk)]at h1;have hF:=h.io (outs:=w.outs++[⟨port,(aF l 0).n⟩]) (ins:=w.ins) (used:=w.used) (by simp only[bTg,bS8,bTd];omega) (fun o ho=>by
     rcases bTn.1 ho with ho|ho
     ·exact a7 o ho
     ·simp only[bUg]at ho;subst ho;simp only[xR,hport,h1,Bool.and_self]) a3 a4
    exact eY hF ha (hl.le (bSx _)) rV
theorem bAl (hp:eQ p)(h:cP p w0 S w)(ha:inR a 0 ((w.tasks.length:Int)-1)=true)(hl:LOk p S w left)(hf:FOk p S w f)(hfull:(f.vals.length:Int)=(p.node f.node).asks):cP p w0 S (qL p w a left f).w:=by
 have hni:inR f.node 0 ((p.nodes.length:Int)-1)=true:=by
  have:=hf.ok;simp only[dN,bSw]at this;exact this.1.1
 have hok:=hp.nodes _ (jE hni);have hkd:=oR hok;have hnum:oV p (p.node f.node)=true:=by simp only[eS,bSw]at hok;exact hok.1.1.1
 have hv: ∀v∈f.vals,VOk p S w v:=fun v hv=>hf.vals hv
 unfold qL;generalize hn:p.node f.node=n at*;have ik: ∀k:Int,0<=k->k<n.kids.length->inR (pK n k) 0 ((p.nodes.length:Int)-1)=true:=fun k h1 h2=>by
  rw[<-hn]at h2⊢;exact aXm hp hni h1 h2
 unfold bV
 by_cases e:n.op=1
 ·rw[if_pos e];rw[oV,if_pos e]at hnum;exact eY h ha hl (aSb hnum)
 rw[if_neg e]
 by_cases e:n.op=2
 ·rw[if_pos e];exact eY h ha hl aNg
 rw[if_neg e]
 by_cases e:n.op=3
 ·rw[if_pos e];exact eY h ha hl rV
 rw[if_neg e]
 by_cases e:n.op=4
 ·rw[if_pos e];simp only[oV,e]at hnum;simp[inR]at hnum;split
  ·refine eY h ha hl ⟨?_,fun h=>by cases h⟩
   simp only[dR,inR];simp;omega
  ·split
   ·exact dH h ha (by simp)
   ·exact eY h ha hl (hf.env (dO (by omega)))
 rw[if_neg e]
 by_cases e:n.op=5
 ·rw[if_pos e]
  refine aDx h ha hl ⟨?_,fun u hu=>?_⟩ (by simp)
  ·have:=hf.ok;simp only[dN,bSw]at this;simp only[dX,hn,e,this.1.1,this.1.2];simp
  ·simp only[nY,bU3,bT1]at hu;exact(hf.env hu).ref
 rw[if_neg e]
 by_cases e:n.op=6
 ·rw[if_pos e];have:n.asks=2:=by simp[aL.asks,e]
  exact aSd hp h ha hl (hv _ (dO (by omega))) (hv _ (dO (by omega)))
 rw[if_neg e]
 by_cases e:n.op=7
 ·rw[if_pos e];have h1:n.asks=1:=by simp[aL.asks,e]
  refine vB h ha hl (ik 1 (by decide) ?_) fun v hv'=>?_
  ·rw[hkd];simp[fP,e]
  ·rcases bTn.1 hv' with hv'|hv'
   ·exact hf.env hv'
   ·simp only[bUg]at hv';subst hv';exact hv _ (dO (by omega))
 rw[if_neg e]
 by_cases e:n.op=8
 ·rw[if_pos e];have h1:n.asks=1:=by simp[aL.asks,e]
  split
  ·exact dH h ha (by simp)
  ·rename_i hk;have h2:=(hv _ (dO (i:=0) (by omega))).ok
   simp only[dR,Decidable.not_not.1 hk]at h2;simp[inR]at h2
   refine vB h ha hl (ik _ (by omega) ?_) fun v hv'=>hf.env hv'
   have:(n.kids.length:Int)=3:=by rw[hkd];simp[fP,e]
   omega
 rw[if_neg e]
 by_cases e:n.op=9 \/n.op=10 \/n.op=11 \/n.op=12 \/n.op=13
 ·rw[if_pos e];exact aSe h ha hl
 rw[if_neg e]
 by_cases e:n.op=14
 ·rw[if_pos e];have h1:n.asks=n.kids.length:=by simp[aL.asks,e]
  simp only[oV,e]at hnum
  simp at hnum
  have h2:(n.kids.length:Int)=(p.cons.getD n.n.toNat default).args:=by rw[hkd];simp[fP,pX,e,hnum]
  have h3:inR (p.cons.getD n.n.toNat default).args 0 3=true:=hp.cons _ (nJ (by simp only[inR,bWo]at hnum;omega))
  simp only[inR,bWo]at h3
  refine aDx h ha hl ⟨?_,fun u hu=>?_⟩ (by simp)
  ·rw[dX,if_neg (by simp),if_neg (by simp),if_neg (by simp),if_pos rfl]
   simp only[bSw,bWo,bC,bS5];exact⟨⟨hnum,by omega⟩,by omega,fun v h'=>(hv v h').ok⟩
  ·simp only[nY,bU3,bT1]at hu;exact(hv u hu).ref
 rw[if_neg e]
 by_cases e:n.op=15
 ·rw[if_pos e];have h1:n.asks=1:=by simp[aL.asks,e]
  have h2:(n.kids.length:Int)=1+n.pats.length:=by rw[hkd];simp[fP,e]
  refine aG2 h ha hl (fun k hk=>?_) (fun v hv'=>hf.env hv') (hv _ (dO (by omega))) n.pats 0 (by omega)
  rw[<-hn]at hk;exact hp.kids _ (jE hni) k hk
 rw[if_neg e]
 by_cases e:n.op=26
 ·rw[if_pos e];have h1:n.asks=1:=by simp[aL.asks,e]
  exact eY h ha hl (hv _ (dO (by omega)))
 rw[if_neg e]
 by_cases e:n.op=27
 ·rw[if_pos e]
  refine aSf h ha hl (ik 0 (by decide) ?_) fun v hv'=>hf.env hv'
  rw[hkd];simp[fP,e]
 rw[if_neg e]
 by_cases e:n.op=16 \/n.op=17 \/n.op=18
 ·rw[if_pos e]
  refine aVj h ha hl hv ?_ ?_
  ·have:1<=n.asks:=by rcases e with e|e|e<;>simp[aL.asks,e]
   omega
  ·intro h1 h2;have e:n.op=18:=by omega
   have:n.asks=2:=by simp[aL.asks,e]
   omega
 rw[if_neg e]
 by_cases e:n.op=19
 ·rw[if_pos e];have h1:n.asks=1:=by simp[aL.asks,e]
  exact aSg hp h ha hl (hv _ (dO (by omega)))
 rw[if_neg e]
 by_cases e:n.op=20
 ·rw[if_pos e];have h1:n.asks=1:=by simp[aL.asks,e]
  exact aVk h ha hl (hv _ (dO (by omega)))
 rw[if_neg e]
 by_cases e:n.op=21
 ·rw[if_pos e];rw[rW];exact aDx h ha hl (aNj (by simp) (by simp)) (by decide)
 rw[if_neg e]
 by_cases e:n.op=22 \/n.op=23
 ·rw[if_pos e]
  refine aNk h ha hl hv ?_ ?_
  ·have:1<=n.asks:=by rcases e with e|e<;>simp[aL.asks,e]
   omega
  ·intro e;have:n.asks=2:=by simp[aL.asks,e]
   omega
 rw[if_neg e]
 by_cases e:n.op=24 \/n.op=25
 ·rw[if_pos e]
  refine aSh h ha hl (fun h25=>?_) hv
  have e:n.op=24:=by omega
  have h1:n.asks=1:=by simp[aL.asks,e]
  simp only[oV,e]at hnum
  simp at hnum
  exact⟨by omega,hnum⟩
 rw[if_neg e];rw[rW];exact eY h ha hl rV
theorem aJ0 {o:aP}(h0:0<o.frames.length):o.frames=o.frames.take (o.frames.length-1)++[o.frames.getD (o.frames.length-1) dJ]:=by
 have h:o.frames.length-1<o.frames.length:=by omega
 simp only[bSz,bTy h,bTq];rw[List.take_append_getElem h];rw[bTh (by omega)]
theorem kO (hp:eQ p)(h:cP p w0 S w)(ha:inR a 0 ((w.tasks.length:Int)-1)=true):cP p w0 S (aM p w a).w:=by
 obtain⟨h1,h2,h3⟩:=h.task ha;have hO:=h.obj h1 h3;unfold aM
 simp only
 generalize ho:w.obj (aX w a)=o at hO h2⊢;have hk:=hO.ok;rw[dX,if_pos h2,kI]at hk;split
 ·exact h
 rename_i n0;rw[if_pos (Decidable.not_not.1 n0)]at hk;simp only[bY,bSw,bWo,bS5,bC]at hk;obtain⟨⟨⟨⟨k1,k2⟩,k3,k4⟩,k5⟩,k6⟩:=hk;have hF: ∀f∈o.frames,FOk p S w f:=fun f hf=>hO.frames hf
 split
 ·rename_i hv1;have hv:VOk p S w (aF o.vals 0):=hO.vals (dO (by omega))
  split
  ·exact h.set h1 (bDx hv) (by rw[ho,h2])
  ·rename_i hf0;rw[bTh (by omega)]at k6
   refine h.set h1 ?_ (by rw[ho,h2])
   have hm:o.frames.getD (o.frames.length-1) dJ∈o.frames:=nJ (by omega)
   have hl:LOk p S w (o.frames.take (o.frames.length-1)):=⟨by simp only[bT3];omega,fun f hf=>hF f (bVf hf),fun f hf=>k6 f (bVf hf)⟩
   have e:aCu o.frames (aF o.vals 0)=o.frames.take (o.frames.length-1)++[⟨(o.frames.getD (o.frames.length-1) dJ).node,(o.frames.getD (o.frames.length-1) dJ).env,(o.frames.getD (o.frames.length-1) dJ).vals++[aF o.vals 0]⟩]:=by
    unfold aCu;generalize hx:(⟨(o.frames.getD (o.frames.length-1) dJ).node,(o.frames.getD (o.frames.length-1) dJ).env,(o.frames.getD (o.frames.length-1) dJ).vals++[aF o.vals 0]⟩:aB)=x;have:=aJ0 (o:=o) (by omega)
    generalize o.frames.getD (o.frames.length-1) dJ=y at this;have hlen:(o.frames.take (o.frames.length-1)).length=o.frames.length-1:=by simp only[bT3];omega
    conv=>lhs;rw[this]
    rw[List.set_append_right _ _ (by simp only[bTg,bS8,bTd,hlen];omega)]
    simp only[bTg,bS8,bTd,hlen];simp
   rw[e]
   refine aNh hl (by simp only[bT3];omega) ⟨?_,fun v hv'=>?_⟩
   ·have a1:=(hF _ hm).ok;have a2:=k6 _ hm;simp only[fV,bWo]at a2;simp only[dN,bC,bSw,bWo,bS5]at a1⊢
    refine⟨a1.1,by simp only[bTg,bS8,bTd];omega,fun v hv'=>?_⟩
    rcases bTn.1 hv' with hv'|hv'
    ·exact a1.2.2 v hv'
    ·simp only[bUg]at hv';subst hv';exact hv.ok
   ·simp only at hv'
    rw[<-List.append_assoc]at hv';rcases bTn.1 hv' with hv'|hv'
    ·exact(hF _ hm).ref v hv'
    ·simp only[bUg]at hv';subst hv';exact hv.ref
 ·rename_i hv1;have hz:o.vals.length=0:=by omega
  have hf0:0<o.frames.length:=by omega
  have hm:o.frames.getD (o.frames.length-1) dJ∈o.frames:=nJ (by omega)
  have hl:LOk p S w (o.frames.take (o.frames.length-1)):=⟨by simp only[bT3];omega,fun f hf=>hF f (bVf hf),fun f hf=>k6 f (by rw[hz,bUk];exact hf)⟩
  have hfo:=hF _ hm;have hni:inR (o.frames.getD (o.frames.length-1) dJ).node 0 ((p.nodes.length:Int)-1)=true:=by
   have:=hfo.ok;simp only[dN,bSw]at this;exact this.1.1
  split
  ·rename_i hop;have hL:LOk p S w o.frames:=by
    refine⟨by omega,hF,fun f hf=>?_⟩
    rw[aJ0 hf0]at hf;rcases bTn.1 hf with hf|hf
    ·exact hl.opn f hf
    ·simp only[bUg]at hf;subst hf;simpa[fV]using hop
   refine vB h ha hL (aXm hp hni (by omega) ?_) fun v hv=>hfo.env hv
   have:=aIp (hp.nodes _ (jE hni));omega
  ·rename_i hop
   refine bAl hp h ha hl hfo ?_
   have:=hfo.ok;simp only[dN,bC,bSw,bWo]at this;omega
theorem aSi (hs:aU p=true)(hi:inR i 0 ((p.nodes.length:Int)-1)=true):(p.node i).asks<=10:=by
 simp only[aU,bSw,bS5]at hs;have:=hs.2 _ (jE hi);simp only[gQ,bSw,bWo]at this;unfold aL.asks;split
 ·omega
 split
 ·omega
 split<;>omega
theorem aG3 {l:List aB}(hs:aU p=true)(h:bY p w l=true):l.length<=40/\ ∀f∈l,f.env.length<=30/\ f.vals.length<=10:=by
 simp only[bY,bSw,bWo,bS5]at h
 refine⟨by omega,fun f hf=>?_⟩
 have:=h.2 f hf;simp only[dN,bC,bSw,bWo]at this;obtain⟨⟨h1,h2,_⟩,h3,_⟩:=this;have:=aSi hs h1;omega
theorem aFd {o:aP}(h:dX p w o=true):o.vals.length<=30:=by
 have vs: ∀{l:List aE} {m:Int},bC p w l m=true->(l.length:Int)<=m:=fun h=>by
  simp only[bC,bSw,bWo]at h;exact h.1
 unfold dX at h
 split at h
 ·unfold kI at h
  split at h
  ·simp only[bSw]at h;have:=vs h.1.1.2;omega
  split at h
  ·simp only[bSw]at h;have:=vs h.2;omega
  split at h
  ·simp only[bSw,bWo]at h;omega
  ·cases h
 split at h
 ·simp only[bSw,bWo]at h;omega
 split at h
 ·cases h
 split at h
 ·simp only[bSw]at h;have:=vs h.2;omega
 split at h
 ·simp only[bSw]at h;have:=vs h.2;omega
 split at h
 ·simp only[bSw]at h;have:=vs h.2;omega
 split at h
 ·simp only[bSw]at h;have:=vs h.2;omega
 ·cases h
theorem bAm {o:aP}(hs:aU p=true)(h:dX p w o=true):iB o=true:=by
 have h1:=aFd h;obtain⟨h2,h3⟩:=aG3 hs (aDw h).2;simp only[iB,bSw,bWo,bS5]
 refine⟨⟨by omega,by omega⟩,fun f hf=>?_⟩
 have:=h3 f hf;omega
theorem wU (h:gS w=true):w.tasks.length<=w.objs.length:=by
 simp only[gS,bSw,bWo]at h;rw[h.1];exact bV9
theorem lB (hs:aU p=true)(h:cJ p w=true):bZ w=true:=by
 obtain⟨a1,a2,a3,a4,a5,a6,a7⟩:=cH.1 h;have:=wU a5;simp only[oB,bSw,bWo]at a3;simp only[bZ,bSw,bWo,bS5];exact⟨⟨⟨⟨by omega,by omega⟩,by omega⟩,by omega⟩,fun o ho=>bAm hs (a6 o ho)⟩
theorem vC (h:bZ w=true):w.few:=by
 simp only[bZ,bSw,bWo,bS5]at h;obtain⟨⟨⟨⟨h1,h2⟩,h3⟩,h4⟩,h5⟩:=h
 refine⟨by unfold Few;omega,by unfold Few;omega,by unfold Few;omega,by unfold Few;omega,fun o ho=>?_⟩
 have:=h5 o ho;simp only[iB,bSw,bWo,bS5]at this
 refine⟨by unfold Few;omega,by unfold Few;omega,fun f hf=>?_⟩
 have:=this.2 f hf;exact⟨by unfold Few;omega,by unfold Few;omega⟩
def cS (p:aD)(a:Int):Nat->aA->aA×Nat×Bool
 |0,w=>if(aM p w a).what=0 then(w,1,false)else(w,0,true)
 |k+1,w=>if(aM p w a).what=0 then((cS p a k (aM p w a).w).1,(cS p a k (aM p w a).w).2.1+1,(cS p a k (aM p w a).w).2.2)else(w,0,true)
def eE (p:aD):Nat->Nat->aA->Nat->aA×Nat×Bool
 |0,_,w,s=>(w,s,true)
 |n+1,a,w,s=>
  if a<w.tasks.length then
   (if(cS p a (5000-s) w).2.2=true then eE p n (a+1) (cS p a (5000-s) w).1 (s+(cS p a (5000-s) w).2.1)
   else((cS p a (5000-s) w).1,s+(cS p a (5000-s) w).2.1,false))
  else(w,s,true)
def aJ (p:aD)(w:aA)(s:Nat):aA×Nat×Bool:=eE p 121 0 w s
def gW (p:aD)(w:aA)(k:Nat):List Int:=((List.range k).filter fun(a:Nat)=>!decide ((aM p w a).what=2)).map fun(a:Nat)=>(a:Int)
def dS (p:aD)(w:aA):List Int:=gW p w w.tasks.length
def fE (p:aD)(w:aA)(pick:Int):aA×fB×Nat×Int:=
 let r:=aJ p w 0
 if r.2.2=false then(r.1,eM,0,8)
 else if dS p r.1=[]then(r.1,eM,0,5)
 else
  let d:=aM p r.1 ((dS p r.1).getD (pick%(dS p r.1).length).toNat 0);let q:=aJ p d.w (r.2.1+1)
  if q.2.2=false \/5000<q.2.1 then(q.1,eM,0,8)else(q.1,d.e,q.2.1,0)
variable {m:Nat}{x:Int}
section
theorem aQe (h:cP p w0 S w):cP p w (fun _=>True) w:=⟨h.ok,bSx _,fun _ _=>rfl,bUp _,fun _ _ _ _ _ _=>trivial,fun _ _=>trivial,fun _ _=>trivial⟩
theorem aNl (hp:eQ p)(h:cP p w0 S w)(ha:inR a 0 ((w.tasks.length:Int)-1)=true):w.tasks.length<=(aM p w a).w.tasks.length:=(kO hp (aQe h) ha).pre.length_le
theorem bId {n:Nat}(h:inR a 0 ((m:Int)-1)=true)(hl:m<=n):inR a 0 ((n:Int)-1)=true:=by
 simp only[inR,bWo]at h⊢;omega
theorem aNm (hp:eQ p){a:Int}: ∀(k:Nat) {w:aA},cP p w0 S w->inR a 0 ((w.tasks.length:Int)-1)=true->cP p w0 S (cS p a k w).1
 |0,w,h,ha=>by unfold cS;split<;>exact h
 |k+1,w,h,ha=>by
  unfold cS;split
  ·exact aNm hp k (kO hp h ha) (bId ha (aNl hp h ha))
  ·exact h
theorem aG4 (hp:eQ p): ∀(n:Nat) {a:Nat} {w:aA} {s:Nat},cP p w0 S w->cP p w0 S (eE p n a w s).1
 |0,_,_,_,h=>h
 |n+1,a,w,s,h=>by
  unfold eE;split
  ·rename_i ha;have ha:inR (a:Int) 0 ((w.tasks.length:Int)-1)=true:=by simp only[inR,bWo];omega
   have hi:=aNm hp (5000-s) h ha;split
   ·exact aG4 hp n hi
   ·exact hi
  ·exact h
theorem oG (hp:eQ p){s:Nat}(h:cP p w0 S w):cP p w0 S (aJ p w s).1:=aG4 hp 121 h
theorem aNn (h:x∈dS p w):inR x 0 ((w.tasks.length:Int)-1)=true:=by
 obtain⟨i,hi,rfl⟩:=bTu.1 h;have:=bTx.1 (bUl.1 hi).1;simp only[inR,bWo];omega
theorem aSj {l:List Int}(h: ¬l=[])(pick:Int):(pick%l.length).toNat<l.length:=by
 have h0:0<l.length:=bV1.2 h;have h1:=Int.emod_nonneg pick (show(l.length:Int)≠0 by omega)
 have h2:=Int.emod_lt_of_pos pick (show 0<(l.length:Int)by omega)
 omega
theorem aQf (hp:eQ p)(h:cP p w0 S w)(pick:Int):cP p w0 S (fE p w pick).1:=by
 have h1:=oG hp (s:=0) h;unfold fE
 simp only
 split
 ·exact h1
 split
 ·exact h1
 rename_i hl;have h2:=oG hp (s:=(aJ p w 0).2.1+1) (kO hp h1 (aNn (nJ (d:=0) (aSj hl pick))))
 split<;>exact h2
end
theorem aCz {p:aD}{a:Int}: ∀(k:Nat) (w:aA),(cS p a k w).2.1<=k+1/\ ((cS p a k w).2.2=true->(cS p a k w).2.1<=k)
 |0,w=>by unfold cS;split<;>simp
 |k+1,w=>by
  obtain⟨h1,h2⟩:=aCz (p:=p) (a:=a) k (aM p w a).w;unfold cS;split
  ·exact⟨by simp only;omega,fun h=>by have:=h2 h;simp only;omega⟩
  ·simp
set_option maxRecDepth 100000
set_option maxHeartbeats 4000000
theorem wV (h:cP p w0 S w)(ha:inR a 0 ((w.tasks.length:Int)-1)=true):Fit w a:=by
 obtain⟨a1,a2,a3,a4,a5,a6,a7⟩:=cH.1 h.ok;have:=wU a5;simp only[oB,bSw,bWo]at a3;exact⟨⟨by omega,by omega,by omega,by omega⟩,ha,(h.task ha).1⟩
theorem gH (h:VOk p S w v)(h5:v.kind=5):inR v.n 0 ((w.objs.length:Int)-1)=true:=by
 have h1:=h.ok;simp only[dR,h5]at h1
 simpa using h1
def yQ (p:aD)(w:aA)(f v:aE):aB:=(eW p w f v).getD dJ
theorem aVl {f:aE}(hp:eQ p)(h:cP p w0 S w)(hf:VOk p S w f)(hv:VOk p S w v):
  PC L 175 [.agg p.cs,.agg w.cs,.agg [.i f.kind,.i f.n],.agg [.i v.kind,.i v.n]] (.tup [.agg [.i (yQ p w f v).node,.fz ((yQ p w f v).env.map aE.enc),.fz ((yQ p w f v).vals.map aE.enc)],.bool (eW p w f v).isSome]):=by
 have hO:=qA w f 2 (gH hf)
 refine pcA func175 ?_
 by_cases h4:f.kind=4
 ·have d1:decide (f.kind=4)=true:=D_t h4;have hi:inR f.n 0 ((p.funs.length:Int)-1)=true:=by
   have h1:=hf.ok;simp only[dR,h4]at h1
   simpa using h1
  have e:eW p w f v=some ⟨bJy p f.n,[v],[]⟩:=by unfold eW;rw[if_pos h4]
  rw[yQ,e];simp only[go_sem,kK,d1]
  refine aH ?_
  simp only[go_sem,yK hi,rH,lZ,kA,bS0,if_false];simp only[go_sem,bJy,bTq,bUx,bTe,bTv]
 ·have d1:decide (f.kind=4)=false:=D_f h4
  by_cases h2:cG w f 2=true
  ·have e:eW p w f v=some ⟨pK (p.node (w.obj f.n).n) 0,(w.obj f.n).vals++[v],[]⟩:=by unfold eW;rw[if_neg h4,if_pos h2]
   obtain⟨a1,a2,a3,a4⟩:=fM h hf h2;have hk:=a2.ok;simp only[dX,a3]at hk
   simp at hk
   obtain⟨_,⟨b1,b2⟩,b3⟩:=hk;have hlen:=aFd a2.ok;have hkk:=oR (hp.nodes _ (jE b1));rw[b2]at hkk;simp[fP]at hkk;have hk0:inR 0 0 (((p.node (w.obj f.n).n).kids.length:Int)-1)=true:=by simp only[inR,bWo];omega
   have hMo:=aGr (w.obj f.n).vals v (by omega)
   rw[wT,if_pos h2,h2]at hO;rw[yQ,e];simp only[go_sem,kK,d1,hO.ret]
   refine aH ?_
   simp only[go_sem,bM b1,yK hk0,hMo.ret,kA,bS0,if_false];simp only[go_sem,pK,bTq,bUx,bTe]
  ·have e:eW p w f v=none:=by unfold eW;rw[if_neg h4,if_neg h2]
   rw[bT9]at h2;rw[h2]at hO;rw[yQ,e];simp only[go_sem,kK,d1,hO.ret,bWb,bU7,dJ,bTe]
variable {cnt cnt':Nat->Nat->Nat}{en en':En}
theorem xY.later {en1:En}{cnt1:Nat->Nat->Nat}{tail:List Val}{x:Val}(h:xY en1 cnt1 w tail x en' cnt')(h1: ∀t g,g<cnt 0 t->en1 ⟨0,t,g⟩=en ⟨0,t,g⟩)(h2: ∀t,cnt 0 t<=cnt1 0 t){g8:Nat}(hg:cnt 0 8<=g8)(hg':g8<cnt1 0 8)(Z:Option Ent):
  xY en cnt w tail x (en'.set ⟨0,8,g8⟩ Z) cnt':=by
 obtain⟨⟨g5,g9,vU,vI,rfl,e5,l5,m5,e9,l9,m9,mU,mI⟩,old,up⟩:=h
 refine⟨⟨g5,g9,vU,vI,rfl,by simp only[go_sem,e5],bS9 (h2 5) l5,m5,?_,bS9 (h2 8) l9,m9,mU.keep (fun g _=>by simp only[go_sem]) (bSx _),mI.keep (fun g _=>by simp only[go_sem]) (bSx _)⟩,fun t g hg1=>?_,fun t=>bS9 (h2 t) (up t)⟩
 ·rw[aYg (by omega)];exact e9
 ·rw[jZ hg hg1,old t g (bTm hg1 (h2 t)),h1 t g hg1]
theorem aYs {o:aP}(hf:Fit w a)(h:w.objs.length<120):Fit (eF w o) a:=by
 have hr:=hf.rng;have hl:=hf.len
 refine⟨?_,hf.at_,?_⟩
 ·rw[nZ];exact⟨by omega,hl.2⟩
 ·rw[nZ];show inR (aX w a) 0 _=true;simp only[inR,bWo]at hr⊢;omega
theorem aVm (w:aA)(a:Int)(left:List aB)(o:aP){c oa ob:Val}(hc:aEi c (.fz (left.map aB.enc)))(ha:aEi oa (.fz (o.vals.map aE.enc)))(hb:aEi ob (.fz (o.frames.map aB.enc)))(hf:Fit w a):
  WIn L (.fn 126 [] []) [.agg w.cs,.i a,c,.agg [.i o.form,.i o.n,oa,ob]] en cnt fun x en' cnt'=>
   ((120<=w.objs.length/\ x= .agg [.fz ((bG w a 4).w.objs.map aP.enc),.fz ((bG w a 4).w.tasks.map (.int .i64)),.fz ((bG w a 4).w.outs.map bO.enc),.fz ((bG w a 4).w.ins.map (.int .i64)),.i (bG w a 4).w.used,.i (bG w a 4).what,.i (bG w a 4).e.task,.i (bG w a 4).e.act,.i (bG w a 4).e.n,.i (bG w a 4).e.v.kind,.i (bG w a 4).e.v.n]/\ (∀t g,g<cnt 0 t->en' ⟨0,t,g⟩=en ⟨0,t,g⟩)/\ ∀t,cnt 0 t<=cnt' 0 t) \/(w.objs.length<120/\ xY en cnt (cC (eF w o) a left (dQ w.objs.length)).w [.i 0,.i 0,.i 0,.i 0,.i 0,.i 0] x en' cnt')):=by
 have hF:=gR w a 4 hf;have hat:=hf.at_;have hrng:=hf.rng;simp only[inR,bWo]at hat hrng;obtain⟨g4,hg4⟩: ∃g,g=cnt 0 4:=⟨_,rfl⟩
 obtain⟨g7,hg7⟩: ∃g,g=cnt 0 7:=⟨_,rfl⟩
 obtain⟨g8,hg8⟩: ∃g,g=cnt 0 8:=⟨_,rfl⟩
 have up0: ∀t,cnt 0 t<=aC (aC (aC cnt 0 4 (g4+1)) 0 7 (g7+1)) 0 8 (g8+1) 0 t:=pD (pD (pD (fun _=>bSx _) hg4) hg7) hg8
 have oldS:=fun{e1:En} {x4 x7 x8:Option Ent} {t g:Nat} (hg:g<cnt 0 t)=>show((e1.set ⟨0,4,g4⟩ x4).set ⟨0,7,g7⟩ x7).set ⟨0,8,g8⟩ x8 ⟨0,t,g⟩=e1 ⟨0,t,g⟩by
  rw[jZ (bUj hg8.symm) hg,jZ (bUj hg7.symm) hg,jZ (bUj hg4.symm) hg]
 refine jB func126 ?_
 by_cases h1:120<=w.objs.length
 ·have d1:decide ((120:Int)<=(w.objs.length:Int))=true:=D_t (by omega)
  simp only[go_sem,kK,<-hg4,<-hg7,<-hg8,d1,hF.ret]
  refine .inl ⟨h1,fun t g hg=>?_,up0⟩
  rw[jZ (bUj hg8.symm) hg,oldS hg]
 ·have d1:decide ((120:Int)<=(w.objs.length:Int))=false:=D_f (by omega)
  have h1:w.objs.length<120:=by omega
  simp only[go_sem,kK,<-hg4,<-hg7,<-hg8,d1]
  refine(aGz w (by omega) (by omega) hf.len (aCw _ _ w)).mono ?_
  rintro x en1 cnt1 ⟨⟨g5,gT,vU,vI,rfl,e5,l5,m5,eT,lT,mT,mU,mI⟩,old,up⟩
  have e4:=old 4 g4 (by simp[aC])
  have e7:=old 7 g7 (by simp[aC])
  have e8:=old 8 g8 (by simp[aC])
  have hTne: ¬gT=g8:=by have:=lT;simp[aC]at this;omega
  try simp only[go_sem]at e4 e7 e8
  obtain⟨g22,hg22⟩: ∃g,g=cnt1 0 22:=⟨_,rfl⟩
  have hw1:IntKind.i64.wrap (((w.objs.length+1:Nat):Int)-1)=(w.objs.length:Int):=by rw[aV (by omega)];omega
  have hl16:w.objs.length+1<=16777216:=by omega
  simp only[go_sem,e4,e7,e5,ha.snap,hb.snap,ha.wk,hb.wk,wM,oD,bW,eP,wN,bIc,mA,bSy,hl16,bSx,<-hg22]
  refine aH ?_
  simp only[go_sem,hw1,(aM4 _).ret,kA,bS0,if_false];have up2: ∀t,cnt 0 t<=aC cnt1 0 22 (g22+1) 0 t:=fun t=>bS9 (up0 t) (bS9 (up t) (pD (fun _=>bSx _) hg22 t))
  have hn5:cnt 0 5<=g5:=bS9 (up0 5) l5;have hn22:cnt 0 22<=g22:=by rw[hg22];exact bS9 (up0 22) (up 22)
  have lt8:g8<aC cnt1 0 22 (g22+1) 0 8:=bTm (show g8<aC (aC (aC cnt 0 4 (g4+1)) 0 7 (g7+1)) 0 8 (g8+1) 0 8 by simp[aC]) (bS9 (up 8) (pD (fun _=>bSx _) hg22 8))
  refine(aVc (eF w o) a left (dQ w.objs.length) hc (aYs hf h1) (vO:= .bl ⟨0,22,g22⟩ 0 (w.objs.length+1)) (vT:= .bl ⟨0,8,gT⟩ 0 w.tasks.length) (vU:=vU) (vI:=vI) (.inr ⟨g22,gT,by rw[nZ],?_,by simp[aC],rfl,?_,?_,mU.keep (fun g _=>by simp only[go_sem]) (pD (fun _=>bSx _) hg22 11),mI.keep (fun g _=>by simp only[go_sem]) (pD (fun _=>bSx _) hg22 14)⟩)).mono ?_
  ·simp only[go_sem,eF,bT0]
  ·simp only[go_sem,eT];rfl
  ·exact bTm mT (pD (fun _=>bSx _) hg22 8)
  ·intro x en2 cnt2 hO;have e8':=hO.old 8 g8 lt8
   try simp only[go_sem,e8]at e8'
   have hO':=fun Z=>hO.later (en:=en) (cnt:=cnt) (g8:=g8) (fun t g hg=>by
    rw[jZ (bUj hg4.symm) hg,jZ (ga:=g22) (a:=22) hn22 hg,jZ (ga:=g5) (a:=5) hn5 hg];rw[jZ (bUj hg4.symm) hg,old t g (bTm hg (up0 t)),oldS hg]) up2 (bUj hg8.symm) lt8 Z
   obtain⟨⟨g5',g9,vU',vI',rfl,_⟩,_,_⟩:=hO;simp only[go_sem,e8'];exact .inr ⟨h1,hO' _⟩
theorem aK5 (w:aA)(a:Int)(left:List aB)(o:aP)(hf:Fit w a):PC L 126 [.agg w.cs,.i a,.fz (left.map aB.enc),.agg [.i o.form,.i o.n,.fz (o.vals.map aE.enc),.fz (o.frames.map aB.enc)]] (.agg [.fz ((iW w a left o).w.objs.map aP.enc),.fz ((iW w a left o).w.tasks.map (.int .i64)),.fz ((iW w a left o).w.outs.map bO.enc),.fz ((iW w a left o).w.ins.map (.int .i64)),.i (iW w a left o).w.used,.i (iW w a left o).what,.i (iW w a left o).e.task,.i (iW w a left o).e.act,.i (iW w a left o).e.n,.i (iW w a left o).e.v.kind,.i (iW w a left o).e.v.n]):=by
 have hL:=at_ func126
 conv at hL=>rhs;reduce
 refine aIn hL rfl rfl rfl ((aVm w a left o (tO _) (tO _) (tO _) hf).mono fun v en' cnt' h=>?_)
 rcases h with⟨h1,rfl,_,_⟩|⟨h1,h2⟩
 ·have e:iW w a left o=bG w a 4:=by unfold iW;rw[if_pos h1]
  rw[e];exact⟨_,_,by simp only[go_sem];rfl,by simp only[go_sem]⟩
 ·have e:iW w a left o=cC (eF w o) a left (dQ w.objs.length):=by unfold iW;rw[if_neg (by omega)]
  rw[e];exact h2.snapD (d:=cC (eF w o) a left (dQ w.objs.length))
def aG5 :fR:={np:=6,res:=[.cell 12 true 11],keep:=false,body:=
 (.seq (.ops [bX 6 5 0,
 bX 10 2 4,
 bX 11 2 5,
 o 12 (.alloc ([(.cl []),(.cl []),(.cl []),(.cl []),(.int .i64 0),(.int .i64 0),(.int .i64 0),(.int .i64 0),(.int .i64 0),(.int .i64 0),(.int .i64 0)]))])
 (.seq (.seq (.ops [mT 14 3,
 bN 15 .eql (.t 14) (cI 13)])
 (.cond (.t 15)
 (.seq (.seq (.ops [fA 16 0 10,
 l1 17 16,
 fA 18 0 11,
 l1 19 18,
 bN 20 .neq (.t 17) (.t 19),
 mT 21 20,
 gF 22 21 false 0 10,
 g1 23 21 false 22,
 gB 24 21 false .gtr (.t 23) (cI 3),
 pO 25 21 24])
 (.cond (.t 25)
 (.seq (.ops [lT 26 5 6,
 mT 27 1,
 cL 28 122 [(.t 26),(.t 27),(cI 2)],
 sT 11 12 28])
 .ret)
 .skip))
 (.seq (.draw [lT 29 5 6,
 mT 30 1,
 mT 31 2,
 lT 32 2 10,
 lT 33 2 11,
 o 34 (.bin .eql (.agg [.num,.num]) (.t 32) (.t 33)),
 cL 35 124 [(.t 34)],
 cL 36 123 [(.t 29),(.t 30),(.t 31),(.t 35)],
 sT 11 12 36]
 [(0,6)])
 .ret))
 .skip))
 (.seq (.seq (.ops [fA 37 0 10,
 l1 38 37,
 bN 39 .neq (.t 38) (cI 1),
 mT 40 39,
 gF 41 40 false 0 11,
 g1 42 40 false 41,
 gB 43 40 false .neq (.t 42) (cI 1),
 pO 44 40 43])
 (.cond (.t 44)
 (.seq (.ops [lT 45 5 6,
 mT 46 1,
 cL 47 122 [(.t 45),(.t 46),(cI 2)],
 sT 11 12 47])
 .ret)
 .skip))
 (.seq (.ops [mC 13 (.int .i64 0)])
 (.seq (.seq (.ops [mT 48 3])
 (.block 0 (.seq (.ops [bN 50 .eql (.t 48) (cI 12),
 mT 49 50])
 (.cond (.t 49)
 (.seq (.draw [lT 51 5 6,
 mT 52 1,
 mT 53 2,
 fA 54 1 10,
 l1 55 54,
 fA 56 1 11,
 l1 57 56,
 bN 58 .lss (.t 55) (.t 57),
 cL 59 124 [(.t 58)],
 cL 60 123 [(.t 51),(.t 52),(.t 53),(.t 59)],
 sT 11 12 60]
 [(0,8)])
 .ret)
 (.seq (.ops [bN 62 .eql (.t 48) (cI 9),
 mT 61 62])
 (.cond (.t 61)
 (.ops [fA 63 1 10,
 l1 64 63,
 fA 65 1 11,
 l1 66 65,
 bN 67 .add (.t 64) (.t 66),
 mT 13 67])
 (.seq (.ops [bN 69 .eql (.t 48) (cI 10),
 mT 68 69])
 (.cond (.t 68)
 (.ops [fA 70 1 10,
 l1 71 70,
 fA 72 1 11,
 l1 73 72,
 bN 74 .sub (.t 71) (.t 73),
 mT 13 74])
 (.seq (.ops [bN 76 .eql (.t 48) (cI 11),
 mT 75 76])
 (.cond (.t 75)
 (.ops [fA 77 1 10,
 l1 78 77,
 fA 79 1 11,
 l1 80 79,
 bN 81 .mul (.t 78) (.t 80),
 mT 13 81])
 .skip))))))))))
 (.seq (.seq (.ops [mT 82 13,
 cL 83 61 [(.t 82),(cI (-1000000000)),(cI 1000000000)],
 nT 84 83])
 (.cond (.t 84)
 (.seq (.ops [lT 85 5 6,
 mT 86 1,
 cL 87 122 [(.t 85),(.t 86),(cI 4)],
 sT 11 12 87])
 .ret)
 .skip))
 (.seq (.draw [lT 88 5 6,
 mT 89 1,
 mT 90 2,
 mT 91 13,
 cL 92 40 [(.t 91)],
 cL 93 123 [(.t 88),(.t 89),(.t 90),(.t 92)],
 sT 11 12 93]
 [(0,4)])
 .ret)))))))}
theorem aJ1 :L 128=some aG5:=by kernel_rfl
theorem aXn (hp:eQ p)(h:cP p w0 S w)(ha:inR a 0 ((w.tasks.length:Int)-1)=true)(hl:LOk p S w left){f:aE}(hf:VOk p S w f)(hv:VOk p S w v):
  PC L 127 [.agg p.cs,.agg w.cs,.i a,.fz (left.map aB.enc),.agg [.i f.kind,.i f.n],.agg [.i v.kind,.i v.n]] (.agg [.fz ((fK p w a left f v).w.objs.map aP.enc),.fz ((fK p w a left f v).w.tasks.map (.int .i64)),.fz ((fK p w a left f v).w.outs.map bO.enc),.fz ((fK p w a left f v).w.ins.map (.int .i64)),.i (fK p w a left f v).w.used,.i (fK p w a left f v).what,.i (fK p w a left f v).e.task,.i (fK p w a left f v).e.act,.i (fK p w a left f v).e.n,.i (fK p w a left f v).e.v.kind,.i (fK p w a left f v).e.v.n]):=by
 have hfit:=wV h ha;have hO:=qA w f 5 (gH hf);have hF4:=gR w a 4 hfit;have hF2:=gR w a 2 hfit;have hlen:=hl.len
 by_cases h5:cG w f 5=true
 ·obtain⟨_,a2,a3,_⟩:=fM h hf h5;have hk:=aIq a2 a3;have hkl:=hk.len;have hk0:0<(w.obj f.n).frames.length:=by
   have:=a2.ok;rw[dX,if_neg (by rw[a3];decide),if_pos a3]at this
   simp only[bSw,bWo]at this;omega
  rw[wT,if_pos h5,h5]at hO;have hB:=kD w a (left++(w.obj f.n).frames) v hfit;rw[bT0]at hB;have hl1:left.length<=16777216:=by omega
  have hl2:(w.obj f.n).frames.length<=16777216:=by omega
  have hl3:left.length+(w.obj f.n).frames.length<=16777216:=by omega
  have he2:(w.obj f.n).frames.isEmpty=false:=aM3 hk0;have e:fK p w a left f v=if 40<left.length+(w.obj f.n).frames.length then bG w a 4 else cC w a (left++(w.obj f.n).frames) v:=by
   unfold fK;rw[if_pos h5,bTg]
  rw[e]
  refine pcA func127 ?_
  by_cases h40:40<left.length+(w.obj f.n).frames.length
  ·rw[if_pos h40];have d1:decide ((40:Int)<((left.length+(w.obj f.n).frames.length:Nat):Int))=true:=D_t (by omega)
   cases h0:left.isEmpty with
   |true=>
    have:left=[]:=by simpa using h0
    subst this;simp only[bTd,bTw]at d1;simp only[go_sem,kK,hO.ret]
    refine aH ?_
    simp only[go_sem,kK,bW,eP,oE,jR,jC,he2,hl2,jV,bSy,kA,bS0,if_false];simp only[go_sem,kK,d1,hF4.ret]
   |false=>
    simp only[go_sem,kK,hO.ret]
    refine aH ?_
    simp only[go_sem,kK,bW,eP,jR,wN,mA,jC,h0,hl1,hl3,jV,bSy,bSx,kA,bS0,if_false];simp only[go_sem,kK,d1,hF4.ret]
  ·rw[if_neg h40];have d1:decide ((40:Int)<((left.length+(w.obj f.n).frames.length:Nat):Int))=false:=D_f (by omega)
   cases h0:left.isEmpty with
   |true=>
    have:left=[]:=by simpa using h0
    subst this;simp only[bTd,bTw]at d1;simp only[bTe,bT4]at hB⊢;simp only[go_sem,kK,hO.ret]
    refine aH ?_
    simp only[go_sem,kK,bW,eP,oE,jR,jC,he2,hl2,jV,bSy,kA,bS0,if_false];simp only[go_sem,d1,hB.ret,bSy,bSx,rQ]
   |false=>
    simp only[go_sem,kK,hO.ret]
    refine aH ?_
    simp only[go_sem,kK,bW,eP,jR,wN,mA,jC,h0,hl1,hl3,jV,bSy,bSx,kA,bS0,if_false];simp only[go_sem,d1,hB.ret,bSy,bTg,bSx,bTh]
 ·have hB:=aVl hp h hf hv;rw[bT9]at h5;rw[h5]at hO
  refine pcA func127 ?_
  cases hb:eW p w f v with
  |none=>
   have e:fK p w a left f v=bG w a 2:=by unfold fK;rw[if_neg (by rw[h5];decide),hb]
   rw[e];rw[hb]at hB;simp only[go_sem,kK,hO.ret,hB.ret,bU7,hF2.ret]
  |some b=>
   have e:fK p w a left f v=iD w a left b.node b.env:=by unfold fK;rw[if_neg (by rw[h5];decide),hb]
   rw[e];have hv:yQ p w f v=b:=by rw[yQ,hb];rfl
   rw[hb,hv]at hB;have hN:=aDv w a left b.node b.env hfit (by omega)
   simp only[go_sem,kK,hO.ret,hB.ret,bUx,hN.ret]
theorem wW (u v:aE):(decide (u.kind=v.kind)&&decide (u.n=v.n))=decide (u=v):=by
 cases u;cases v;simp only[aE.mk.injEq];rw[bUu];simp
theorem aYt (h:VOk p S w v)(h1:v.kind=1): -1000000000<=v.n/\ v.n<=1000000000:=by
 have:=h.ok;rw[dR,if_pos h1]at this
 simpa[inR]using this
theorem bJ0 {y:Int}(hx: -1000000000<=x/\ x<=1000000000)(hy: -1000000000<=y/\ y<=1000000000): -1000000000000000000<=x*y/\ x*y<=1000000000000000000:=by
 have h1:x.natAbs<=1000000000:=by omega
 have h2:y.natAbs<=1000000000:=by omega
 have h3:(x*y).natAbs<=1000000000*1000000000:=by rw[Int.natAbs_mul];exact Nat.mul_le_mul h1 h2
 omega
theorem wX (h:cP p w0 S w)(ha:inR a 0 ((w.tasks.length:Int)-1)=true)(hu:VOk p S w u)(hv:VOk p S w v)(ho:op=9 \/op=10 \/op=11 \/op=12 \/op=13):
  PC L 128 [.agg w.cs,.i a,.fz (left.map aB.enc),.i op,.agg [.i u.kind,.i u.n],.agg [.i v.kind,.i v.n]] (.agg [.fz ((cN w a left op u v).w.objs.map aP.enc),.fz ((cN w a left op u v).w.tasks.map (.int .i64)),.fz ((cN w a left op u v).w.outs.map bO.enc),.fz ((cN w a left op u v).w.ins.map (.int .i64)),.i (cN w a left op u v).w.used,.i (cN w a left op u v).what,.i (cN w a left op u v).e.task,.i (cN w a left op u v).e.act,.i (cN w a left op u v).e.n,.i (cN w a left op u v).e.v.kind,.i (cN w a left op u v).e.v.n]):=by
 have hfit:=wV h ha;have hF2:=gR w a 2 hfit;have hF4:=gR w a 4 hfit;have hI:=oP (sH op u.n v.n) (-1000000000) 1000000000
 by_cases h13:op=13
 ·subst h13
  by_cases h1:u.kind=v.kind
  ·have d1:decide (u.kind=v.kind)=true:=D_t h1
   by_cases h3:3<u.kind
   ·have d3:decide (3<u.kind)=true:=D_t h3;have e:cN w a left 13 u v=bG w a 2:=by unfold cN;rw[if_pos rfl,if_pos (.inr h3)]
    rw[e]
    refine cD aJ1 rfl rfl ?_
    simp only[go_sem,kK,aG5,d1,d3,hF2.ret]
   ·have d3:decide (3<u.kind)=false:=D_f h3;have e:cN w a left 13 u v=cC w a left (nW (decide (u=v))):=by
     unfold cN;rw[if_pos rfl,if_neg (by rintro(h|h);exact h h1;exact h3 h)]
    rw[e];have hB:=kD w a left (nW (decide (u=v))) hfit
    refine cD aJ1 rfl rfl ?_
    simp only[go_sem,kK,aG5,d1,d3]
    refine aH ?_
    simp only[go_sem,wW,(aK2 _).ret,hB.ret,kA,bS0,if_false]
  ·have d1:decide (u.kind=v.kind)=false:=D_f h1;have e:cN w a left 13 u v=bG w a 2:=by unfold cN;rw[if_pos rfl,if_pos (.inl h1)]
   rw[e]
   refine cD aJ1 rfl rfl ?_
   simp only[go_sem,kK,aG5,d1,hF2.ret]
 ·have d13:decide (op=13)=false:=D_f h13
  by_cases h1:u.kind=1
  ·have d1:decide (u.kind=1)=true:=D_t h1
   by_cases h2:v.kind=1
   ·have d2:decide (v.kind=1)=true:=D_t h2;have bu:=aYt hu h1;have bv:=aYt hv h2;have bm:=bJ0 bu bv
    by_cases h12:op=12
    ·subst h12;have e:cN w a left 12 u v=cC w a left (nW (decide (u.n<v.n))):=by
      unfold cN;rw[if_neg (by decide),if_neg (by rintro(h|h);exact h h1;exact h h2),if_pos rfl]
     rw[e];have hB:=kD w a left (nW (decide (u.n<v.n))) hfit
     refine cD aJ1 rfl rfl ?_
     simp only[go_sem,kK,aG5,d1,d2]
     refine aH ?_
     simp only[go_sem,(aK2 _).ret,hB.ret,kA,bS0,if_false]
    ·have d12:decide (op=12)=false:=D_f h12;have e:cN w a left op u v=if inR (sH op u.n v.n) (-1000000000) 1000000000=true then cC w a left (nP (sH op u.n v.n))else bG w a 4:=by
      unfold cN;rw[if_neg h13,if_neg (by rintro(h|h);exact h h1;exact h h2),if_neg h12]
     rw[e];have hB:=kD w a left (nP (sH op u.n v.n)) hfit;have ho':op=9 \/op=10 \/op=11:=by omega
     rcases ho' with rfl|rfl|rfl
     all_goals
      simp only[sH]at hI hB⊢
      simp at hI hB⊢
      split
      ·rename_i hin;rw[hin]at hI
       refine cD aJ1 rfl rfl ?_
       simp only[go_sem,kK,aG5,d1,d2,aV (show-9223372036854775808<=u.n+v.n/\ u.n+v.n<=9223372036854775807 by omega),aV (show-9223372036854775808<=u.n-v.n/\ u.n-v.n<=9223372036854775807 by omega),aV (show-9223372036854775808<=u.n*v.n/\ u.n*v.n<=9223372036854775807 by omega),hI.ret]
       refine aH ?_
       simp only[go_sem,(aFb _).ret,hB.ret,kA,bS0,if_false]
      ·rename_i hin;rw[bT9]at hin;rw[hin]at hI
       refine cD aJ1 rfl rfl ?_
       simp only[go_sem,kK,aG5,d1,d2,aV (show-9223372036854775808<=u.n+v.n/\ u.n+v.n<=9223372036854775807 by omega),aV (show-9223372036854775808<=u.n-v.n/\ u.n-v.n<=9223372036854775807 by omega),aV (show-9223372036854775808<=u.n*v.n/\ u.n*v.n<=9223372036854775807 by omega),hI.ret,hF4.ret]
   ·have d2:decide (v.kind=1)=false:=D_f h2;have e:cN w a left op u v=bG w a 2:=by unfold cN;rw[if_neg h13,if_pos (.inr h2)]
    rw[e]
    refine cD aJ1 rfl rfl ?_
    simp only[go_sem,kK,aG5,d13,d1,d2,hF2.ret]
  ·have d1:decide (u.kind=1)=false:=D_f h1;have e:cN w a left op u v=bG w a 2:=by unfold cN;rw[if_neg h13,if_pos (.inl h1)]
   rw[e]
   refine cD aJ1 rfl rfl ?_
   simp only[go_sem,kK,aG5,d13,d1,hF2.ret]
def aEk :fR:={np:=3,res:=[.tmp 6,.tmp 7],keep:=false,body:=
 (.seq (.ops [bX 3 5 0,
 bX 4 4 1,
 bX 5 2 2,
 mC 6 (.cl []),
 mC 7 (.bool false)])
 (.seq (.seq (.ops [fA 14 0 4,
 l1 15 14])
 (.block 0 (.seq (.ops [bN 17 .eql (.t 15) (cI 1),
 mT 16 17])
 (.cond (.t 16)
 (.seq (.ops [mC 6 (.cl []),
 mC 7 (.bool true)])
 .ret)
 (.seq (.ops [bN 19 .eql (.t 15) (cI 2),
 mT 18 19])
 (.cond (.t 18)
 (.seq (.ops [lT 20 2 5,
 o 21 (.bslice 1 2 [(.int .i64 0),(.int .i64 0)] [(0,(.t 20))]),
 mT 6 21,
 mC 7 (.bool true)])
 .ret)
 (.seq (.ops [bN 23 .eql (.t 15) (cI 3),
 mT 22 23])
 (.cond (.t 22)
 (.seq (.draw [lT 24 2 5,
 fA 25 1 4,
 l1 26 25,
 cL 27 40 [(.t 26)],
 o 28 (.bin .eql (.agg [.num,.num]) (.t 24) (.t 27)),
 mC 6 (.cl []),
 mT 7 28]
 [(0,3)])
 .ret)
 (.seq (.ops [bN 30 .eql (.t 15) (cI 4),
 mT 29 30])
 (.cond (.t 29)
 (.seq (.draw [lT 31 2 5,
 fA 32 1 4,
 l1 33 32,
 bN 34 .eql (.t 33) (cI 1),
 cL 35 124 [(.t 34)],
 o 36 (.bin .eql (.agg [.num,.num]) (.t 31) (.t 35)),
 mC 6 (.cl []),
 mT 7 36]
 [(0,4)])
 .ret)
 (.seq (.ops [bN 38 .eql (.t 15) (cI 5),
 mT 37 38])
 (.cond (.t 37)
 (.seq (.draw [lT 39 2 5,
 cL 40 125 [],
 o 41 (.bin .eql (.agg [.num,.num]) (.t 39) (.t 40)),
 mC 6 (.cl []),
 mT 7 41]
 [(0,1)])
 .ret)
 .skip))))))))))))
 (.seq (.ops [lT 43 5 3,
 lT 44 2 5,
 cL 45 174 [(.t 43),(.t 44),(cI 1)],
 mT 42 45,
 o 46 (.ext 0 (.t 42)),
 o 47 (.ext 1 (.t 42)),
 o 8 (.alloc [(.int .i64 0),(.int .i64 0),(.cl []),(.cl [])]),
 sT 4 8 46,
 mT 9 47])
 (.seq (.seq (.ops [mT 48 9,
 nT 49 48,
 mT 50 49,
 gF 51 50 false 1 8,
 g1 52 50 false 51,
 gF 53 50 false 1 4,
 g1 54 50 false 53,
 gB 55 50 false .neq (.t 52) (.t 54),
 pO 56 50 55,
 mT 57 56,
 gF 58 57 false 2 8,
 g1 59 57 false 58,
 gN 60 57 false 59,
 gF 61 57 false 3 4,
 g1 62 57 false 61,
 gN 63 57 false 62,
 gB 64 57 false .neq (.t 60) (.t 63),
 pO 65 57 64])
 (.cond (.t 65)
 (.seq (.ops [mC 6 (.cl []),
 mC 7 (.bool false)])
 .ret)
 .skip))
 (.seq (.ops [mC 10 (.cl [])])
 (.seq (.seq (.ops [mC 11 (.int .i64 0)])
 (.block 1 (.loop (.seq (.seq (.ops [mT 66 11,
 fA 67 3 4,
 l1 68 67,
 lN 69 68,
 bN 70 .lss (.t 66) (.t 69)])
 (.cond (.t 70)
 .skip
 (.exit 1)))
 (.seq (.block 2 (.seq (.draw [lT 74 5 3,
 fA 75 3 4,
 l1 76 75,
 mT 77 11,
 iA 78 4 76 77,
 lT 79 4 78,
 fA 80 2 8,
 l1 81 80,
 mT 82 11,
 iA 83 2 81 82,
 lT 84 2 83,
 cL 85 176 [(.t 74),(.t 79),(.t 84)],
 mT 73 85,
 o 86 (.ext 0 (.t 73)),
 o 87 (.ext 1 (.t 73)),
 mT 12 86,
 mT 13 87]
 [])
 (.seq (.seq (.ops [mT 88 13,
 nT 89 88])
 (.cond (.t 89)
 (.seq (.ops [mC 6 (.cl []),
 mC 7 (.bool false)])
 .ret)
 .skip))
 (.ops [mT 90 10,
 mT 91 12,
 o 92 (.append 2 (.t 90) (.t 91)),
 mT 10 92]))))
 (.ops [mT 71 11,
 bN 72 .add (.t 71) (cI 1),
 mT 11 72]))))))
 (.seq (.ops [mT 93 10,
 mT 6 93,
 mC 7 (.bool true)])
 .ret)))))))}
theorem aG6 :L 176=some aEk:=by kernel_rfl
def oA (w:aA)(ps:List Pat)(vs:List aE)(k:Nat):Option (List aE):=fF w (ps.take k) (vs.take k)
theorem aC0 (w:aA): ∀(ps:List Pat) (vs:List aE) (q:Pat) (v:aE),ps.length=vs.length->fF w (ps++[q]) (vs++[v])=(match fF w ps vs with|none=>none|some l=>match fW w q v with|none=>none|some r=>some (l++r))
 |[],[],q,v,_=>by
  simp only[bT4,fF];cases fW w q v<;>simp
 |[],_::_,_,_,h=>by cases h
 |_::_,[],_,_,h=>by cases h
 |x::ps,y::vs,q,v,h=>by
  simp only[bVh,fF];rw[aC0 w ps vs q v (by simpa using h)]
  cases fW w x y with
  |none=>rfl
  |some l=>
   cases fF w ps vs with
   |none=>rfl
   |some r=>
    cases fW w q v with
    |none=>rfl
    |some s=>simp[List.append_assoc]
variable {ps:List Pat}{vs:List aE}
theorem aG7 : ∀{k:Nat},ps.length=vs.length->oA w ps vs k=none->fF w ps vs=none:=by
 intro k hl h;have key: ∀m,k<=m->oA w ps vs m=none:=by
  intro m
  induction m with
  |zero=>intro hk;have:k=0:=(by omega);rw[this]at h;exact h
  |succ m ih=>
   intro hk
   by_cases hm:k=m+1
   ·rw[<-hm];exact h
   ·have h1:=ih (by omega)
    by_cases hlt:m<ps.length
    ·unfold oA at h1⊢;rw[iG hlt,iG (show m<vs.length by omega),aC0 _ _ _ _ _ (by simp;omega),h1]
    ·unfold oA at h1⊢;rw[bTh (by omega),bTh (by omega)]
     rw[bTh (by omega),bTh (by omega)]at h1
     exact h1
 have:=key (max k ps.length) (by omega)
 unfold oA at this;rw[bTh (by omega),bTh (by omega)]at this
 exact this
variable {k:Nat}
theorem aG8 (h1:k<ps.length)(h2:k<vs.length):oA w ps vs (k+1)=(match oA w ps vs k with|none=>none|some l=>match fW w ps[k] vs[k]with|none=>none|some r=>some (l++r)):=by
 unfold oA;rw[iG h1,iG h2,aC0 _ _ _ _ _ (by simp;omega)]
mutual
def qB :Pat->Nat
 | .mk _ _ _ ps=>1+iN ps
def iN :List Pat->Nat
 |[]=>0
 |q::ps=>qB q+iN ps
end
theorem vD (q:Pat):qB q=1+iN q.parts:=by cases q;rw[qB];rfl
theorem aC1 : ∀(l:List Pat),l.length<=iN l
 |[]=>by simp[iN]
 |q::l=>by
  have:=aC1 l;have:=vD q;simp only[bS8,iN];omega
theorem yA : ∀{l:List Pat} {q:Pat},q∈l->qB q<=iN l
 |x::l,q,h=>by
  rw[iN];rcases bTp.1 h with rfl|h
  ·omega
  ·have:=yA h;omega
theorem aA6 : ∀(l:List Pat) (k:Nat),iN (l.take k)<=iN l
 |[],k=>by simp[iN]
 |q::l,0=>by simp[iN]
 |q::l,k+1=>by
  have:=aA6 l k;simp only[bS3,iN];omega
mutual
theorem aDy {w:aA}: ∀(q:Pat) {v:aE} {l:List aE},fW w q v=some l->l.length<=qB q
 | .mk f n t ps,v,l,hm=>by
  unfold fW at hm;rw[qB]
  split at hm
  ·cases hm;simp
  split at hm
  ·cases hm;simp
  split at hm
  ·split at hm
   ·cases hm;simp
   ·cases hm
  split at hm
  ·split at hm
   ·cases hm;simp
   ·cases hm
  split at hm
  ·split at hm
   ·cases hm;simp
   ·cases hm
  split at hm
  ·have:=aA7 ps hm;omega
  ·cases hm
theorem aA7 {w:aA}: ∀(ps:List Pat) {vs l:List aE},fF w ps vs=some l->l.length<=iN ps
 |[],vs,l,hm=>by
  simp only[fF,bSv]at hm;subst hm;simp
 |q::ps,[],l,hm=>by
  simp only[fF,bSv]at hm;subst hm;simp
 |q::ps,v::vs,l,hm=>by
  simp only[fF]at hm
  split at hm
  ·cases hm
  rename_i l1 h1
  split at hm
  ·cases hm
  rename_i l2 h2;simp only[bSv]at hm;subst hm;have:=aDy q h1;have:=aA7 ps h2;simp only[bTg,iN];omega
end
theorem aVn : ∀(q:Pat) (n:Int),-1<=n->0<=rK q n->rK q n+qB q=n:=by
 intro q
 induction q using Pat.ind with
 |h p ih=>
  intro n hn h;rw[aMm]at h⊢;rw[vD];have key: ∀(l:List Pat),(∀q∈l,q∈p.parts)-> ∀m:Int,-1<=m->0<=kJ l m->kJ l m+iN l=m:=by
   intro l
   induction l with
   |nil=>intro _ m _ _;simp[kJ,iN]
   |cons q l ihl=>
    intro hl m hm h0;rw[kJ]at h0⊢
    by_cases h1:0<=m
    ·rw[if_pos h1]at h0⊢;have hw:=aMn q m (by omega)
     have h2:0<=rK q m:=by
      by_cases h3:0<=rK q m
      ·exact h3
      ·rw[aE5 (by omega)]at h0;exact absurd h0 h3
     have e1:=ih q (hl q (by simp)) m (by omega) h2
     have e2:=ihl (fun x hx=>hl x (by simp[hx])) (rK q m) (by omega) h0
     rw[iN];omega
    ·rw[if_neg h1]at h0;omega
  by_cases h1:n<1
  ·rw[if_pos h1]at h;omega
  ·rw[if_neg h1]at h⊢;have:=key p.parts (fun _ h=>h) (n-1) (by omega) h
   omega
def aSk (w:aA)(q:Pat)(v:aE):Val:= .tup [.fz (((fW w q v).getD []).map aE.enc),.bool (fW w q v).isSome]
theorem aQg (w:aA)(q:Pat)(v:aE):fW w q v=if q.form=1 then some []else if q.form=2 then some [v]else if q.form=3 then(if v=nP q.n then some []else none)else if q.form=4 then(if v=nW (decide (q.n=1))then some []else none)
  else if q.form=5 then(if v=bT then some []else none)else if cG w v 1=true/\ (w.obj v.n).n=q.n/\ (w.obj v.n).vals.length=q.parts.length then fF w q.parts (w.obj v.n).vals else none:=by
 cases q;rw[fW];rfl
theorem aDz {α:Type}(c:Prop)[Decidable c]:((if c then some ([]:List α)else none).getD []=[])/\ (if c then some ([]:List α)else none).isSome=decide c:=by
 by_cases h:c<;>simp[h]
theorem bDz (h:cP p w0 S w): ∀(q:Pat),qB q<=1000-> ∀(v:aE),VOk p S w v->PC L 176 [.agg w.cs,.agg [.i q.form,.i q.n,.str q.text,.fz (q.parts.map Pat.enc)],.agg [.i v.kind,.i v.n]] (aSk w q v):=by
 intro q
 induction q using Pat.ind with
 |h q ih=>
 intro hq v hv;have hO:=qA w v 1 (gH hv);unfold aSk;rw[aQg]
 by_cases h1:q.form=1
 ·rw[if_pos h1]
  refine cD aG6 rfl rfl ?_
  simp only[go_sem,kK,aEk,h1,bTq,bUx]
 rw[if_neg h1];have d1:decide (q.form=1)=false:=D_f h1
 by_cases h2:q.form=2
 ·rw[if_pos h2]
  refine cD aG6 rfl rfl ?_
  simp only[go_sem,kK,aEk,h2,bTq,bUx]
 rw[if_neg h2];have d2:decide (q.form=2)=false:=D_f h2
 by_cases h3:q.form=3
 ·rw[if_pos h3]
  refine cD aG6 rfl rfl ?_
  simp only[go_sem,kK,aEk,h3]
  refine aH ?_
  simp only[go_sem,(aFb _).ret,wW,aDz,kA,bS0,if_false]
 rw[if_neg h3];have d3:decide (q.form=3)=false:=D_f h3
 by_cases h4:q.form=4
 ·rw[if_pos h4]
  refine cD aG6 rfl rfl ?_
  simp only[go_sem,kK,aEk,h4]
  refine aH ?_
  simp only[go_sem,(aK2 _).ret,wW,aDz,kA,bS0,if_false]
 rw[if_neg h4];have d4:decide (q.form=4)=false:=D_f h4
 by_cases h5:q.form=5
 ·rw[if_pos h5]
  refine cD aG6 rfl rfl ?_
  simp only[go_sem,kK,aEk,h5]
  refine aH ?_
  simp only[go_sem,nX.ret,wW,aDz,kA,bS0,if_false]
 rw[if_neg h5];have d5:decide (q.form=5)=false:=D_f h5
 by_cases hi:cG w v 1=true
 ·rw[wT,if_pos hi,hi]at hO
  by_cases hn:(w.obj v.n).n=q.n
  ·have dn:decide ((w.obj v.n).n=q.n)=true:=D_t hn
   by_cases hl:(w.obj v.n).vals.length=q.parts.length
   ·have dl:decide ((w.obj v.n).vals.length=q.parts.length)=true:=D_t hl;rw[if_pos ⟨hi,hn,hl⟩];obtain⟨_,a2,_,_⟩:=fM h hv hi
    refine cD aG6 rfl rfl ?_
    simp only[go_sem,kK,aEk,d1,d2,d3,d4,d5,hO.ret,dn,dl]
    refine bK q.parts.length (fun k st=> ∃fr en cnt vO l,st=⟨fr,en,cnt⟩/\ fr 3= .ptr ⟨0,3,0⟩ 0/\ en ⟨0,3,0⟩=some (.box [.fz (w.objs.map aP.enc),.fz (w.tasks.map (.int .i64)),.fz (w.outs.map bO.enc),.fz (w.ins.map (.int .i64)),.i w.used] false)/\ fr 4= .ptr ⟨0,4,0⟩ 0/\ en ⟨0,4,0⟩=some (.box [.i q.form,.i q.n,.str q.text,.fz (q.parts.map Pat.enc)] false)/\ fr 8= .ptr ⟨0,8,0⟩ 0/\ en ⟨0,8,0⟩=some (.box [.i (w.obj v.n).form,.i (w.obj v.n).n,.fz ((w.obj v.n).vals.map aE.enc),.fz ((w.obj v.n).frames.map aB.enc)] false)/\ fr 10=vO/\ fr 11= .i k/\
     oA w q.parts (w.obj v.n).vals k=some l/\ cX en vO 2 (l.map aE.enc) [92]) 0 (bS4 _) (by refine⟨_,_,_,.cl [],[],rfl,?_,?_,?_,?_,?_,?_,?_,?_,by simp[oA,fF],cX.nil _ _⟩<;>simp only[go_sem]) ?_
    rintro k st hk ⟨fr,en,cnt,vO,l,rfl,k3,e3,k4,e4,k8,e8,k10,k11,hm,hv'⟩
    simp only[go_sem,kK,k4,e4,k11]
    refine aG (fun hq2=>?_) (fun hq2=>?_)
    ·have h':k<q.parts.length:=D_o hq2;have h'':k<(w.obj v.n).vals.length:=by omega
     have hM:=ih q.parts[k] (bS7 h') (by
      have:=yA (bS7 h');rw[vD]at hq;omega) (w.obj v.n).vals[k] (a2.vals (bS7 h''))
     have hst:=aG8 (w:=w) h' h'';rw[hm]at hst;unfold aSk at hM;cases hx:fW w q.parts[k] (w.obj v.n).vals[k]with
     |none=>
      rw[hx]at hM hst;have hnone:=aG7 hl.symm hst;rw[hnone];simp only[go_sem,kK,k3,e3,k4,e4,k8,e8,k11,h',h'',hM.ret,bWb,bU7,bTe]
     |some r=>
      rw[hx]at hM hst;have hr:=aDy _ hx;have hr2:=yA (bS7 h');have hl3:=aA7 _ hm;have hl4:=aA6 q.parts k;have hlp:=aC1 q.parts;rw[vD]at hq;simp only[go_sem,kK,k3,e3,k4,e4,k8,e8,k10,k11,h',h'',hM.ret,bTq,bUx]
      refine jO (D:=[92]) (xs:=l.map aE.enc) (ys:=r.map aE.enc) (rs:=[]) ?_ ?_ ?_ ?_ ?_
      ·simp only[go_sem];exact hv'
      ·simp only[go_sem]
      ·exact uO r
      ·simp only[bSy];omega
      ·intro v' en' cnt' hown hen hcnt;have q3:en' ⟨0,3,0⟩=some (.box [.fz (w.objs.map aP.enc),.fz (w.tasks.map (.int .i64)),.fz (w.outs.map bO.enc),.fz (w.ins.map (.int .i64)),.i w.used] false):=by rw[hen 0 3 0 (.inr ⟨by decide,by simp⟩)];simp only[go_sem,e3]
       have q4:en' ⟨0,4,0⟩=some (.box [.i q.form,.i q.n,.str q.text,.fz (q.parts.map Pat.enc)] false):=by rw[hen 0 4 0 (.inr ⟨by decide,by simp⟩)];simp only[go_sem,e4]
       have q8:en' ⟨0,8,0⟩=some (.box [.i (w.obj v.n).form,.i (w.obj v.n).n,.fz ((w.obj v.n).vals.map aE.enc),.fz ((w.obj v.n).frames.map aB.enc)] false):=by rw[hen 0 8 0 (.inr ⟨by decide,by simp⟩)];simp only[go_sem,e8]
       simp only[go_sem,k11]
       refine⟨_,_,_,v',l++r,rfl,?_⟩
       simp only[go_sem,k3,q3,k4,q4,k8,q8,aR h' (show Few q.parts.length by unfold Few;omega)]
       refine⟨hst,?_⟩
       rw[bT0];exact hown.sub (by simp)
    ·have:k=q.parts.length:=by simp at hq2;omega
     subst this;have hfull:fF w q.parts (w.obj v.n).vals=some l:=by
      unfold oA at hm;rw[bUf,<-hl,bUf]at hm;exact hm
     obtain⟨r1,ks,s1,_,s2,_⟩:=hv'.snap 6;rw[hfull];simp only[go_sem,k10,s1,s2,bTq,bUx]
   ·have dl:decide ((w.obj v.n).vals.length=q.parts.length)=false:=D_f hl;rw[if_neg (fun h=>hl h.2.2)]
    refine cD aG6 rfl rfl ?_
    simp only[go_sem,kK,aEk,d1,d2,d3,d4,d5,hO.ret,dn,dl,bWb,bU7]
  ·have dn:decide ((w.obj v.n).n=q.n)=false:=D_f hn;rw[if_neg (fun h=>hn h.2.1)]
   refine cD aG6 rfl rfl ?_
   simp only[go_sem,kK,aEk,d1,d2,d3,d4,d5,hO.ret,dn,bWb,bU7]
 ·rw[wT,if_neg hi]at hO;rw[if_neg (fun h=>hi h.1)]
  rw[bT9]at hi;rw[hi]at hO
  refine cD aG6 rfl rfl ?_
  simp only[go_sem,kK,aEk,d1,d2,d3,d4,d5,hO.ret,bWb,bU7]
theorem aFe {n:Nat}:dA n []=true:=(rfl)
theorem aSl {kids:List Int}{env:List aE}{l:List Pat}(hk:k<l.length):kM w a left kids env u k (l.drop k)=(match fW w l[k] u with|some r=>iD w a left (kids.getD (1+k) 0) (env++r)|none=>kM w a left kids env u (k+1) (l.drop (k+1))):=by
 rw[bT2 hk,kM];cases fW w l[k] u<;>rfl
theorem aXo (h:cP p w0 S w)(ha:inR a 0 ((w.tasks.length:Int)-1)=true)(hl:LOk p S w left)(n:aL)(env:List aE)(hu:VOk p S w u)(he:env.length<=30)(hkl:1+n.pats.length<=n.kids.length)(hpc: ∀q∈n.pats,qB q<=1000)(hfew:n.kids.length<=1000):
  PC L 129 [.agg w.cs,.i a,.fz (left.map aB.enc),.agg [.i n.op,.i n.n,.fz (n.kids.map (.int .i64)),.fz (n.pats.map Pat.enc)],.fz (env.map aE.enc),.agg [.i u.kind,.i u.n]] (.agg [.fz ((kX w a left n env u).w.objs.map aP.enc),.fz ((kX w a left n env u).w.tasks.map (.int .i64)),.fz ((kX w a left n env u).w.outs.map bO.enc),.fz ((kX w a left n env u).w.ins.map (.int .i64)),.i (kX w a left n env u).w.used,.i (kX w a left n env u).what,.i (kX w a left n env u).e.task,.i (kX w a left n env u).e.act,.i (kX w a left n env u).e.n,.i (kX w a left n env u).e.v.kind,.i (kX w a left n env u).e.v.n]):=by
 have hfit:=wV h ha;have hF:=gR w a 3 hfit;have hlen:=hl.len
 refine pcA func129 ?_
 simp only[go_sem,kK]
 refine bK n.pats.length (fun k st=> ∃fr en cnt,st=⟨fr,en,cnt⟩/\ fr 1= .i a/\ fr 2= .fz (left.map aB.enc)/\ fr 4= .fz (env.map aE.enc)/\ fr 6= .ptr ⟨0,6,0⟩ 0/\ en ⟨0,6,0⟩=some (.box [.fz (w.objs.map aP.enc),.fz (w.tasks.map (.int .i64)),.fz (w.outs.map bO.enc),.fz (w.ins.map (.int .i64)),.i w.used] false)/\ fr 9= .ptr ⟨0,9,0⟩ 0/\ en ⟨0,9,0⟩=some (.box [.i n.op,.i n.n,.fz (n.kids.map (.int .i64)),.fz (n.pats.map Pat.enc)] false)/\ fr 11= .ptr ⟨0,11,0⟩ 0/\ en ⟨0,11,0⟩=some (.box [.i u.kind,.i u.n] false)/\ fr 12= .ptr ⟨0,12,0⟩ 0/\ en ⟨0,12,0⟩=some (.box [.cl [],.cl [],.cl [],.cl [],.i 0,.i 0,.i 0,.i 0,.i 0,.i 0,.i 0] false)/\ fr 13= .i k/\
  kM w a left n.kids env u k (n.pats.drop k)=kX w a left n env u) 0 (bS4 _) (by refine⟨_,_,_,rfl,?_,?_,?_,?_,?_,?_,?_,?_,?_,?_,?_,?_,by rw[bU2];rfl⟩<;>simp only[go_sem]) ?_
 rintro k st hk ⟨fr,en,cnt,rfl,k1,k2,k4,k6,e6,k9,e9,k11,e11,k12,e12,k13,hD⟩
 simp only[go_sem,kK,k9,e9,k13]
 refine aG (fun hq2=>?_) (fun hq2=>?_)
 ·have h':k<n.pats.length:=D_o hq2;have hM:=bDz h n.pats[k] (hpc _ (bS7 h')) u hu;rw[aSl h']at hD;unfold aSk at hM;have hw1:IntKind.i64.wrap (1+(k:Int))=((1+k:Nat):Int):=by rw[aV (by omega)];omega
  have hki:1+k<n.kids.length:=by omega
  have hkg:n.kids.getD (1+k) 0=n.kids[1+k]:=by simp[bSz,hki]
  cases hx:fW w n.pats[k] u with
  |none=>
   rw[hx]at hM hD;simp only[go_sem,kK,k6,e6,k9,e9,k11,e11,k13,h',hM.ret,bWb,bU7]
   refine⟨_,_,_,rfl,?_⟩
   simp only[go_sem,k1,k2,k4,k6,e6,k9,e9,k11,e11,k12,e12,aR h' (show Few n.pats.length by unfold Few;omega)]
   exact hD
  |some r=>
   rw[hx]at hM hD;have hr:=aDy _ hx;have hpk:=hpc _ (bS7 h');have hN:=aDv w a left n.kids[1+k] (env++r) hfit (by omega)
   rw[bT0]at hN;rw[<-hD];have hl1:env.length<=16777216:=by omega
   have hl2:r.length<=16777216:=by omega
   have hl3:env.length+r.length<=16777216:=by omega
   simp only[go_sem,kK,k6,e6,k9,e9,k11,e11,k13,h',hM.ret,bTq,bUx]
   refine aH ?_
   cases h0:env.isEmpty<;>cases h1:r.isEmpty
   all_goals
    try(have h0':env=[]:=(by simpa using h0);subst h0')
    try(have h1':r=[]:=(by simpa using h1);subst h1')
    try simp only[bTe,bT4,bT1]at hN
    simp only[go_sem,k1,k2,k4,k6,e6,k9,e9,k12,e12,k13,hw1,hki,hkg,bW,eP,oE,jR,wN,mA,jC,h0,h1,hl1,hl2,hl3,uO,aFe,bSy,bTg,bTd,bUk,bTw,bT1,bTe,bT4,bSx,bTh,hN.ret,kA,bS0,if_false]
 ·have:k=n.pats.length:=by simp at hq2;omega
  subst this;rw[bUo,kM]at hD;rw[<-hD];simp only[go_sem,k1,k6,e6,k12,e12,hF.ret]
def aJ2 :fR:={np:=4,res:=[.tmp 8],keep:=false,body:=
 (.seq (.ops [bX 5 4 1,
 bX 6 2 2,
 mC 8 (.bool false)])
 (.seq (.seq (.ops [fA 13 0 5,
 l1 14 13])
 (.block 0 (.seq (.ops [bN 16 .eql (.t 14) (cI 2),
 mT 15 16])
 (.cond (.t 15)
 (.draw [mT 17 3,
 mT 18 3,
 nK 19 18,
 l1 20 19,
 lT 21 2 6,
 o 22 (.bslice 1 2 [(.int .i64 0),(.int .i64 0)] [(0,(.t 21))]),
 o 23 (.append 2 (.t 20) (.t 22)),
 nK 24 17,
 sT 1 24 23]
 [(3,5)])
 (.seq (.ops [bN 26 .eql (.t 14) (cI 3),
 mT 25 26])
 (.cond (.t 25)
 (.seq (.draw [lT 27 2 6,
 fA 28 1 5,
 l1 29 28,
 cL 30 305 [(.t 29)],
 o 31 (.bin .eql (.agg [.num,.num]) (.t 27) (.t 30)),
 mT 8 31]
 [(0,3)])
 .ret)
 (.seq (.ops [bN 33 .eql (.t 14) (cI 4),
 mT 32 33])
 (.cond (.t 32)
 (.seq (.draw [lT 34 2 6,
 fA 35 1 5,
 l1 36 35,
 bN 37 .eql (.t 36) (cI 1),
 cL 38 306 [(.t 37)],
 o 39 (.bin .eql (.agg [.num,.num]) (.t 34) (.t 38)),
 mT 8 39]
 [(0,4)])
 .ret)
 (.seq (.ops [bN 41 .eql (.t 14) (cI 5),
 mT 40 41])
 (.cond (.t 40)
 (.seq (.draw [lT 42 2 6,
 cL 43 307 [],
 o 44 (.bin .eql (.agg [.num,.num]) (.t 42) (.t 43)),
 mT 8 44]
 [(0,1)])
 .ret)
 (.seq (.ops [bN 46 .eql (.t 14) (cI 6),
 mT 45 46])
 (.cond (.t 45)
 (.seq (.ops [mT 48 0,
 lT 49 2 6,
 o 50 (.icall (.f 340) [(.t 48),(.t 49),(cI 1)]),
 mT 47 50,
 o 51 (.ext 0 (.t 47)),
 o 52 (.ext 1 (.t 47)),
 o 9 (.alloc [(.int .i64 0),(.int .i64 0),(.cl []),(.cl [])]),
 sT 4 9 51,
 mT 10 52])
 (.seq (.seq (.ops [mT 53 10,
 nT 54 53,
 mT 55 54,
 gF 56 55 false 1 9,
 g1 57 55 false 56,
 gF 58 55 false 1 5,
 g1 59 55 false 58,
 gB 60 55 false .neq (.t 57) (.t 59),
 pO 61 55 60,
 mT 62 61,
 gF 63 62 false 2 9,
 g1 64 62 false 63,
 gN 65 62 false 64,
 gF 66 62 false 3 5,
 g1 67 62 false 66,
 gN 68 62 false 67,
 gB 69 62 false .neq (.t 65) (.t 68),
 pO 70 62 69])
 (.cond (.t 70)
 (.seq (.ops [mC 8 (.bool false)])
 .ret)
 .skip))
 (.seq (.ops [fA 71 3 5,
 l1 72 71,
 lN 73 72,
 mC 74 (.int .i64 0)])
 (.block 1 (.loop (.seq (.ops [bN 75 .lss (.t 74) (.t 73)])
 (.seq (.cond (.t 75)
 .skip
 (.exit 1))
 (.seq (.block 2 (.seq (.ops [mT 76 74,
 iA 77 4 72 74,
 lT 78 4 77,
 o 12 (.alloc [(.int .i64 0),(.int .i64 0),(.str ⟨#[]⟩),(.cl [])]),
 mT 11 76,
 sT 4 12 78])
 (.seq (.draw [mT 79 0,
 lT 80 4 12,
 fA 81 2 9,
 l1 82 81,
 mT 83 11,
 iA 84 2 82 83,
 lT 85 2 84,
 mT 86 3,
 o 87 (.icall (.f 313) [(.t 79),(.t 80),(.t 85),(.t 86)]),
 nT 88 87]
 [])
 (.cond (.t 88)
 (.seq (.ops [mC 8 (.bool false)])
 .ret)
 .skip))))
 (.ops [bN 89 .add (.t 74) (cI 1),
 mT 74 89])))))))))
 .skip))))))))))))
 (.seq (.ops [mC 8 (.bool true)])
 .ret)))}
theorem aQh :L 313=some aJ2:=by kernel_rfl
variable {kl kt kr:Key}{ko:Option Key}{back:List aE}{bv:Val}
section
structure Acc (en:En) (cnt:Nat->Nat->Nat) (kl:Key) (ko:Option Key) (xs:List aE):Prop where
 ok:Old kl cnt
 v:(ko=none/\ xs=[]/\ en kl=some (.box [.cl []] false)) \/ ∃t g b,ko=some ⟨0,t,g⟩/\ g<cnt 0 t/\ en ⟨0,t,g⟩=some (.blk 2 (xs.map aE.enc) b)/\ en kl=some (.box [.bl ⟨0,t,g⟩ 0 xs.length] false)
theorem Acc.to {xs:List aE}(h:Acc en cnt kl ko xs)(hk: ∀x,Old x cnt->x=kl \/some x=ko->en' x=en x)(hu: ∀t,cnt 0 t<=cnt' 0 t):Acc en' cnt' kl ko xs:=by
 refine⟨h.ok.up hu,h.v.imp (fun⟨a,b,c⟩=>⟨a,b,by rw[hk kl h.ok (.inl rfl)];exact c⟩) fun⟨t,g,b,c1,c2,c3,c4⟩=>⟨t,g,b,c1,bTm c2 (hu t),?_,?_⟩⟩
 ·rw[hk ⟨0,t,g⟩ ⟨rfl,c2⟩ (.inr c1.symm)];exact c3
 ·rw[hk kl h.ok (.inl rfl)];exact c4
theorem Acc.ne (h:TS kt kr en cnt p w a left f n back bv){xs:List aE}(hA:Acc en cnt kl ko xs):(kt≠kl/\ kr≠kl)/\ some kt≠ko/\ some kr≠ko:=by
 have ht:=h.t;have hr:=h.r;rcases hA.v with⟨a,b,c⟩|⟨t,g,b,c1,c2,c3,c4⟩
 ·subst a
  refine⟨⟨?_,?_⟩,by simp,by simp⟩
  ·rintro rfl;rw[ht]at c;simp at c
  ·rintro rfl;rw[hr]at c;simp at c
 ·subst c1
  refine⟨⟨?_,?_⟩,fun e=>?_,fun e=>?_⟩
  ·rintro rfl;rw[ht]at c4;simp at c4
  ·rintro rfl;rw[hr]at c4;simp at c4
  ·rw[bSv]at e;rw[<-e,ht]at c3;cases c3
  ·rw[bSv]at e;rw[<-e,hr]at c3;cases c3
structure bJ1 (kt kr:Key) (en:En) (cnt:Nat->Nat->Nat) (p:aD) (w:aA) (a:Int) (left:List aB) (f:aB) (n:aL) (back:List aE) (kl:Key) (ko:Option Key) (xs:List aE) (o:Option (List aE)) (en':En) (cnt':Nat->Nat->Nat):Prop where
 ts: ∃bv',TS kt kr en' cnt' p w a left f n back bv'
 acc: ∀l,o=some l-> ∃ko',Acc en' cnt' kl ko' (xs++l)/\ (ko'=ko \/ ∀x,ko'=some x-> ¬Old x cnt)
 old: ∀x,Old x cnt->x≠kt->x≠kr->x≠kl->some x≠ko->en' x=en x
 up: ∀t,cnt 0 t<=cnt' 0 t
theorem aG9 (h:TS kt kr en cnt p w a left f n back bv){xs:List aE}(hA:Acc en cnt kl ko xs){o:Option (List aE)}(ho:o=none \/o=some [])(hk: ∀x,Old x cnt->en' x=en x)(hu: ∀t,cnt 0 t<=cnt' 0 t):
  bJ1 kt kr en cnt p w a left f n back kl ko xs o en' cnt':=by
 refine⟨(h.stay hk hu).1,fun l hl=>?_,fun x hx _ _ _ _=>hk x hx,hu⟩
 rcases ho with rfl|rfl
 ·cases hl
 ·cases hl
  refine⟨ko,?_,.inl rfl⟩
  rw[bT1];exact hA.to (fun x hx _=>hk x hx) hu
theorem aNo : ∀(l:List Pat) {k:Nat} (h:k<l.length),iN (l.take k)+qB l[k]<=iN l
 |q::l,0,_=>by simp[iN]
 |q::l,k+1,h=>by
  have:=aNo l (k:=k) (by simpa using h)
  simp only[bS3,iN,List.getElem_cons_succ];omega
theorem aVo (hF:cP p w0 S w)(cons:List dC): ∀(q:Pat),tG cons q=true->qB q<=1000-> ∀(v:aE),VOk p S w v-> ∀{en:En} {cnt:Nat->Nat->Nat} {bv:Val} {kl:Key} {ko:Option Key} {xs:List aE} (h:TS kt kr en cnt p w a left f n back bv) (hA:Acc en cnt kl ko xs),xs.length+qB q<=100000->
  WIn L (.fn 313 [] []) [.ptr kt 0,.agg [.i q.form,.i q.n,.str q.text,.fz (q.parts.map Pat.enc)],.agg [.i v.kind,.i v.n],.ptr kl 0] en cnt fun r en' cnt'=>r= .bool (fW w q v).isSome/\ bJ1 kt kr en cnt p w a left f n back kl ko xs (fW w q v) en' cnt':=by
 intro q
 induction q using Pat.ind with
 |h q ih=>
 intro hok hq v hv en cnt bv kl ko xs h hA hlen;have s1:=h.okt.set;have s2:=h.okr.set;have n1:=h.okt.new;have n2:=h.okr.new;have hn:=h.ne;have ht:=h.t;have hr:=h.r;have m1:=h.okt.eqF;have m2:=h.okr.eqF;have o1:=h.okt.eqF';have o2:=h.okr.eqF';have x1: ∀(en:En) (e:Option Ent),En.set en kt e kr=en kr:=fun _ _=>aK hn;have x2: ∀(en:En) (e:Option Ent),En.set en kr e kt=en kt:=fun _ _=>aK hn.symm
 obtain⟨⟨nl1,nl2⟩,no1,no2⟩:=hA.ne h;have l1:=hA.ok.set;have l2:=hA.ok.new;have l3:=hA.ok.eqF;have l4:=hA.ok.eqF';rw[aQg];rw[aMl]at hok;simp only[bSw]at hok;have hhead:=hok.1
 by_cases h1:q.form=1
 ·rw[if_pos h1]
  refine dP aQh rfl rfl ?_
  simp only[go_sem,kK,aJ2,h1];exact⟨rfl,aG9 h hA (.inr rfl) (fun k hk=>by simp only[hk.set]) (by(repeat refine upS ?_ (by omega));exact aO _)⟩
 rw[if_neg h1];have d1:decide (q.form=1)=false:=D_f h1
 by_cases h2:q.form=2
 ·rw[if_pos h2]
  refine dP aQh rfl rfl ?_
  have hu: ∀t,cnt 0 t<=aC (aC (aC cnt 0 5 (cnt 0 5+1)) 0 6 (cnt 0 6+1)) 0 23 (cnt 0 23+1) 0 t:=(by(repeat refine upS ?_ (by omega));exact aO _)
  rcases hA.v with⟨v1,v2,v3⟩|⟨t,g,b,v1,v2,v3,v4⟩
  ·subst v1 v2;simp only[go_sem,kK,aJ2,h2]
   refine aH ?_
   simp only[go_sem,kB,l1,v3,bW,eP,wQ,aDs,aFe,tN,bTd,bTw,bT4,kA,kF]
   refine⟨rfl,⟨⟨bv,h.to (by simp only[aK nl1,s1]) (by simp only[aK nl2,s2]) hu⟩,fun l hl=>?_,fun x hx _ _ x1 _=>by simp only[aK x1,hx.set],hu⟩⟩
   simp only[bSv]at hl;subst hl
   refine⟨some ⟨0,23,cnt 0 23⟩,⟨hA.ok.up hu,.inr ⟨23,cnt 0 23,false,rfl,by simp[aC],?_,cM⟩⟩,.inr fun x hx ho=>?_⟩
   ·rw[l2,cM];rfl
   ·simp only[bSv]at hx;subst hx;exact bVg _ ho.2
  ·subst v1;have hob:Old ⟨0,t,g⟩ cnt:=⟨rfl,v2⟩;have b1:=hob.set;have b0:=hob.new;have bF:=hob.eqF;have bF':=hob.eqF';have bl:(⟨0,t,g⟩:Key)≠kl:=by rintro rfl;rw[v3]at v4;cases v4
   have b2: ∀(en:En) (e:Option Ent),En.set en kl e ⟨0,t,g⟩=en ⟨0,t,g⟩:=fun _ _=>aK bl
   have b4: ∀(en:En) (e:Option Ent),En.set en ⟨0,t,g⟩ e kl=en kl:=fun _ _=>aK bl.symm
   have hlm:xs.length+1<=16777216:=by have:=vD q;omega
   simp only[go_sem,kK,aJ2,h2]
   refine aH ?_
   simp only[go_sem,kB,l1,b1,b4,v3,v4,bW,eP,wN,mA,aDs,hlm,bSy,bS8,bTd,kA,kF];have c1: ∀(en:En) (e:Option Ent),En.set en ⟨0,t,g⟩ e kt=en kt:=fun _ _=>aK fun e=>no1 (by rw[e])
   have c2: ∀(en:En) (e:Option Ent),En.set en ⟨0,t,g⟩ e kr=en kr:=fun _ _=>aK fun e=>no2 (by rw[e])
   refine⟨rfl,⟨⟨bv,h.to (by simp only[aK nl1,s1,c1]) (by simp only[aK nl2,s2,c2]) hu⟩,fun l hl=>?_,fun x hx _ _ x1 x2=>by
    have x3:x≠⟨0,t,g⟩:=fun e=>x2 (by rw[e])
    simp only[aK x1,hx.set,aK x3],hu⟩⟩
   simp only[bSv]at hl;subst hl
   refine⟨some ⟨0,23,cnt 0 23⟩,⟨hA.ok.up hu,.inr ⟨23,cnt 0 23,b,rfl,by simp[aC],?_,?_⟩⟩,.inr fun x hx ho=>?_⟩
   ·rw[l2,cM];simp[aE.enc]
   ·rw[cM];simp
   ·simp only[bSv]at hx;subst hx;exact bVg _ ho.2
 rw[if_neg h2];have d2:decide (q.form=2)=false:=D_f h2
 by_cases h3:q.form=3
 ·rw[if_pos h3]
  refine dP aQh rfl rfl ?_
  simp only[go_sem,kK,aJ2,h3]
  refine aH ?_
  simp only[go_sem,(vA _).ret,wW,kA,kF]
  refine⟨by rw[(aDz _).2],aG9 h hA ?_ (fun k hk=>by simp only[hk.set]) (by(repeat refine upS ?_ (by omega));exact aO _)⟩
  split
  ·exact .inr rfl
  ·exact .inl rfl
 rw[if_neg h3];have d3:decide (q.form=3)=false:=D_f h3
 by_cases h4:q.form=4
 ·rw[if_pos h4]
  refine dP aQh rfl rfl ?_
  simp only[go_sem,kK,aJ2,h4]
  refine aH ?_
  simp only[go_sem,(aGt _).ret,wW,kA,kF]
  refine⟨by rw[(aDz _).2],aG9 h hA ?_ (fun k hk=>by simp only[hk.set]) (by(repeat refine upS ?_ (by omega));exact aO _)⟩
  split
  ·exact .inr rfl
  ·exact .inl rfl
 rw[if_neg h4];have d4:decide (q.form=4)=false:=D_f h4
 by_cases h5:q.form=5
 ·rw[if_pos h5]
  refine dP aQh rfl rfl ?_
  simp only[go_sem,kK,aJ2,h5]
  refine aH ?_
  simp only[go_sem,lA.ret,wW,kA,kF]
  refine⟨by rw[(aDz _).2],aG9 h hA ?_ (fun k hk=>by simp only[hk.set]) (by(repeat refine upS ?_ (by omega));exact aO _)⟩
  split
  ·exact .inr rfl
  ·exact .inl rfl
 rw[if_neg h5];have d5:decide (q.form=5)=false:=D_f h5;have h6:q.form=6:=by
  simp only[uL,zJ,bSw]at hhead
  by_cases h6:q.form=6
  ·exact h6
  ·simp[h1,h2,h3,h4,h5,h6]at hhead
 obtain⟨⟨bv1,t1⟩,k1⟩:=h.stay (cnt':=aC (aC cnt 0 5 (cnt 0 5+1)) 0 6 (cnt 0 6+1)) (en':=(en.set ⟨0,5,cnt 0 5⟩ (some (.box [.i q.form,.i q.n,.str q.text,.fz (q.parts.map Pat.enc)] false))).set ⟨0,6,cnt 0 6⟩ (some (.box [.i v.kind,.i v.n] false))) (fun k hk=>by simp only[hk.set]) (by(repeat refine upS ?_ (by omega));exact aO _)
 have d6:decide (q.form=6)=true:=D_t h6
 refine dP aQh rfl rfl ?_
 simp only[go_sem,kK,aJ2,d2,d3,d4,d5,d6]
 refine(sP t1 (gH hv) 1).mono ?_
 rintro r e1 c1 ⟨⟨x,rfl,hx⟩,⟨bv2,t2⟩,k2⟩
 obtain⟨p5,q5⟩:=k2.loc (d:=5) (g:=cnt 0 5) (by simp[aC]) h.okt.ne.symm h.okr.ne.symm
 obtain⟨p6,q6⟩:=k2.loc (d:=6) (g:=cnt 0 6) (by simp[aC]) h.okt.ne.symm h.okr.ne.symm
 simp only[go_sem]at p5 p6;have fall: ∀{en':En} {cnt':Nat->Nat->Nat},(∀x,Old x cnt->Old x c1->en' x=e1 x)->(∀t,c1 0 t<=cnt' 0 t)->bJ1 kt kr en cnt p w a left f n back kl ko xs none en' cnt':=by
  intro en' cnt' hk hu;obtain⟨t3,k3⟩:=h.fin t2 (k1.trans k2) hk hu;exact⟨t3,(fun l hl=>by cases hl),(fun x hx y1 y2 _ _=>k3.old x hx y1 y2),k3.up⟩
 rcases hx with⟨rfl,hI⟩|⟨rfl,hI⟩
 ·rw[if_neg (fun hh=>by rw[hI]at hh;cases hh.1)]
  simp only[go_sem,kK,hI];exact fall (fun x hx hy=>by simp only[hy.set]) (by(repeat refine upS ?_ (by omega));exact aO _)
 by_cases hn2:(w.obj v.n).n=q.n
 case neg=>
  have dn:decide ((w.obj v.n).n=q.n)=false:=D_f hn2;rw[if_neg (fun hh=>hn2 hh.2.1)]
  simp only[go_sem,kK,hI,dn,p5,q5.set];exact fall (fun x hx hy=>by simp only[hy.set]) (by(repeat refine upS ?_ (by omega));exact aO _)
 have dn:decide ((w.obj v.n).n=q.n)=true:=D_t hn2
 by_cases hl:(w.obj v.n).vals.length=q.parts.length
 case neg=>
  have dl:decide ((w.obj v.n).vals.length=q.parts.length)=false:=D_f hl;rw[if_neg (fun hh=>hl hh.2.2)]
  simp only[go_sem,kK,hI,dn,dl,p5,q5.set];exact fall (fun x hx hy=>by simp only[hy.set]) (by(repeat refine upS ?_ (by omega));exact aO _)
 have dl:decide ((w.obj v.n).vals.length=q.parts.length)=true:=D_t hl;rw[if_pos ⟨hI,hn2,hl⟩];obtain⟨_,a2,_,_⟩:=fM hF hv hI;simp only[go_sem,kK,hI,dn,dl,p5,q5.set];have u1: ∀t,cnt 0 t<=c1 0 t:=fun t=>bS9 (k1.up t) (k2.up t)
 have e0: ∀x,Old x cnt->x≠kt->x≠kr->e1 x=en x:=fun x hx y1 y2=>(k1.trans k2).old x hx y1 y2
 have hA1:Acc e1 c1 kl ko xs:=hA.to (fun x hx hy=>e0 x hx (fun e=>by rcases hy with hy|hy;exact nl1 (e▸hy);exact no1 (e▸hy)) (fun e=>by rcases hy with hy|hy;exact nl2 (e▸hy);exact no2 (e▸hy))) u1
 refine bK q.parts.length (fun k st=> ∃fr en2 cnt2 ko2 l,st=⟨fr,en2,cnt2⟩/\ fr 0= .ptr kt 0/\ fr 3= .ptr kl 0/\ fr 9= .ptr ⟨0,9,c1 0 9⟩ 0/\ en2 ⟨0,9,c1 0 9⟩=some (.box [.i (w.obj v.n).form,.i (w.obj v.n).n,.fz ((w.obj v.n).vals.map aE.enc),.fz ((w.obj v.n).frames.map aB.enc)] false)/\ fr 72= .fz (q.parts.map Pat.enc)/\ fr 73= .i q.parts.length/\ fr 74= .i k/\
  oA w q.parts (w.obj v.n).vals k=some l/\ (∃bv2,TS kt kr en2 cnt2 p w a left f n back bv2)/\ Acc en2 cnt2 kl ko2 (xs++l)/\ (ko2=ko \/ ∀x,ko2=some x-> ¬Old x cnt)/\ (∀x,Old x cnt->x≠kt->x≠kr->x≠kl->some x≠ko->en2 x=en x)/\ (∀t,cnt 0 t<=cnt2 0 t)/\ c1 0 9<cnt2 0 9) 0 (bS4 _)
  (by refine⟨_,_,_,ko,[],rfl,?_,?_,?_,?_,?_,?_,?_,by simp[oA,fF],(t2.stay (fun k hk=>by simp only[hk.set]) (by(repeat refine upS ?_ (by omega));exact aO _)).1,by rw[bT1];exact hA1.to (fun x hx _=>by simp only[hx.set]) (by(repeat refine upS ?_ (by omega));exact aO _),.inl rfl,fun x hx y1 y2 _ _=>by simp only[(hx.up u1).set];exact e0 x hx y1 y2,fun t=>bS9 (u1 t) (((by(repeat refine upS ?_ (by omega));exact aO _): ∀t,c1 0 t<=aC c1 0 9 (c1 0 9+1) 0 t) t),by simp[aC]⟩<;>simp only[go_sem]) ?_
 rintro k st hk ⟨fr,en2,cnt2,ko2,l,rfl,k0,k3,k9,e9,k72,k73,k74,hm,⟨bv3,t3⟩,hA3,hko,hold,hup,h9⟩
 have q9:Old ⟨0,9,c1 0 9⟩ cnt2:=⟨rfl,h9⟩;have hlp:=aC1 q.parts;have hl3:=aA7 _ hm;have hl4:=aA6 q.parts k;rw[vD]at hq hlen;simp only[go_sem,kK,k73,k74]
 refine aG (fun hq2=>?_) (fun hq2=>?_)
 ·have h':k<q.parts.length:=D_o hq2;have h'':k<(w.obj v.n).vals.length:=by omega
  have hr2:=yA (bS7 h');have hr3:=aNo q.parts h';have hst:=aG8 (w:=w) h' h'';rw[hm]at hst;simp only[go_sem,k0,k3,k9,e9,k72,k74,h',h'',q9.set];obtain⟨⟨bv4,t4⟩,k4⟩:=t3.stay (cnt':=aC cnt2 0 12 (cnt2 0 12+1)) (en':=(en2.set ⟨0,12,cnt2 0 12⟩ (some (.box [.i 0,.i 0,.str ⟨#[]⟩,.cl []] false))).set ⟨0,12,cnt2 0 12⟩ (some (.box [.i q.parts[k].form,.i q.parts[k].n,.str q.parts[k].text,.fz (q.parts[k].parts.map Pat.enc)] false))) (fun k hk=>by simp only[hk.set]) (by(repeat refine upS ?_ (by omega));exact aO _)
  have n9:some (⟨0,9,c1 0 9⟩:Key)≠ko2:=by
   rintro rfl
   rcases hA3.v with⟨z,_⟩|⟨t,g,b,z1,_,z3,_⟩
   ·cases z
   ·simp only[bSv]at z1;rw[<-z1,e9]at z3;cases z3
  have u3: ∀t,cnt2 0 t<=aC cnt2 0 12 (cnt2 0 12+1) 0 t:=(by(repeat refine upS ?_ (by omega));exact aO _)
  have hA4:=hA3.to (cnt':=aC cnt2 0 12 (cnt2 0 12+1)) (en':=(en2.set ⟨0,12,cnt2 0 12⟩ (some (.box [.i 0,.i 0,.str ⟨#[]⟩,.cl []] false))).set ⟨0,12,cnt2 0 12⟩ (some (.box [.i q.parts[k].form,.i q.parts[k].n,.str q.parts[k].text,.fz (q.parts[k].parts.map Pat.enc)] false))) (fun x hx _=>by simp only[hx.set]) u3
  have hpo:tG cons q.parts[k]=true:=bS5.1 hok.2 _ (bS7 h')
  refine(ih q.parts[k] (bS7 h') hpo (by omega) (w.obj v.n).vals[k] (a2.vals (bS7 h'')) t4 hA4 (by rw[bTg];omega)).mono ?_
  rintro r e5 c5 ⟨rfl,F5⟩
  have up5: ∀t,cnt 0 t<=c5 0 t:=fun t=>bS9 (hup t) (bS9 (u3 t) (F5.up t))
  have old5: ∀x,Old x cnt->x≠kt->x≠kr->x≠kl->some x≠ko->e5 x=en x:=fun x hx y1 y2 y3 y4=>by
   have hx2:=hx.up hup;rw[F5.old x (hx2.up u3) y1 y2 y3 (fun e=>by
    rcases hko with hko|hko
    ·exact y4 (e.trans hko)
    ·exact hko x e.symm hx),hx2.set,hx2.set]
   exact hold x hx y1 y2 y3 y4
  have e59:e5 ⟨0,9,c1 0 9⟩=some (.box [.i (w.obj v.n).form,.i (w.obj v.n).n,.fz ((w.obj v.n).vals.map aE.enc),.fz ((w.obj v.n).frames.map aB.enc)] false):=by
   rw[F5.old _ (q9.up u3) t2.okt.ne.symm t2.okr.ne.symm hA1.ok.ne.symm n9,q9.set,q9.set];exact e9
  cases hx:fW w q.parts[k] (w.obj v.n).vals[k]with
  |none=>
   rw[hx]at F5 hst;have hnone:=aG7 hl.symm hst;rw[hnone];simp only[go_sem,kK,bU7];exact⟨F5.ts,(fun l hl=>by cases hl),old5,up5⟩
  |some r=>
   rw[hx]at F5 hst;obtain⟨ko5,hA5,hko5⟩:=F5.acc r rfl;simp only[go_sem,kK,bUx,k74,aR h' (show Few q.parts.length by unfold Few;omega)]
   refine⟨_,_,_,ko5,l++r,rfl,?_⟩
   simp only[go_sem,k0,k3,k9,k72,k73]
   refine⟨e59,hst,F5.ts,by rw[<-List.append_assoc];exact hA5,?_,old5,up5,bTm h9 (bS9 (u3 9) (F5.up 9))⟩
   rcases hko5 with hko5|hko5
   ·rw[hko5];exact hko
   ·exact .inr fun x hx ho=>hko5 x hx ((ho.up hup).up u3)
 ·have:k=q.parts.length:=by simp at hq2;omega
  subst this;have hfull:fF w q.parts (w.obj v.n).vals=some l:=by
   unfold oA at hm;rw[bUf,<-hl,bUf]at hm;exact hm
  rw[hfull];simp only[go_sem,bUx];exact⟨⟨bv3,t3⟩,fun l' hl'=>by cases hl';exact⟨ko2,hA3,hko⟩,hold,hup⟩
end
theorem aNp (v:aE):v.enc= .agg [.i v.kind,.i v.n]:=rfl
theorem aT (h:0<l.length):mH 2 en (.fz (l.map aE.enc)) (.i 0)=some {v:= .fp [.i (aF l 0).kind,.i (aF l 0).n] 0}:=
 aEa (f:=aE.enc) (size:=2) (i:=0) iV (by simp only[inR,bWo];omega) fun _=>rfl
theorem gX (h:1<l.length):mH 2 en (.fz (l.map aE.enc)) (.i 1)=some {v:= .fp [.i (aF l 1).kind,.i (aF l 1).n] 0}:=
 aEa (f:=aE.enc) (size:=2) (i:=1) iV (by simp only[inR,bWo];omega) fun _=>rfl
@[go_sem] theorem cAv{n:Nat}{fn:Func}{lf:fR}(h:Tryz.prog.funcs[n]?=some fn)(e:pN Tryz.prog (cfg n).1 (cfg n).2.1 (cfg n).2.2 fn=some lf):(cA h e).1=lf:=rfl
noncomputable def aVp :{c//L 133=some c}:=cA func133
theorem bAn (h:cP p w0 S w)(ha:inR a 0 ((w.tasks.length:Int)-1)=true)(hv:VOk p S w v):
  PC L 133 [.agg w.cs,.i a,.fz (left.map aB.enc),.agg [.i v.kind,.i v.n]] (.agg [.fz ((gV w a left v).w.objs.map aP.enc),.fz ((gV w a left v).w.tasks.map (.int .i64)),.fz ((gV w a left v).w.outs.map bO.enc),.fz ((gV w a left v).w.ins.map (.int .i64)),.i (gV w a left v).w.used,.i (gV w a left v).what,.i (gV w a left v).e.task,.i (gV w a left v).e.act,.i (gV w a left v).e.n,.i (gV w a left v).e.v.kind,.i (gV w a left v).e.v.n]):=by
 have hfit:=wV h ha;have hF:=gR w a 2 hfit;have hO:=qA w v 6 (gH hv)
 by_cases h6:cG w v 6=true
 ·obtain⟨_,a2,a3,_⟩:=fM h hv h6;rw[wT,if_pos h6,h6]at hO;have hF3:=gR w a (w.obj v.n).n hfit
  by_cases h0:(w.obj v.n).n=0
  ·have d0:decide ((w.obj v.n).n=0)=true:=D_t h0;have e:gV w a left v=mZ w:=by unfold gV;rw[if_pos h6,if_pos h0]
   rw[e]
   refine cD aVp.2 rfl rfl ?_
   simp only[go_sem,kK,aVp,hO.ret,d0,mZ,eM,iV]
  ·have d0:decide ((w.obj v.n).n=0)=false:=D_f h0
   by_cases h1:(w.obj v.n).n=1
   ·have d1:decide ((w.obj v.n).n=1)=true:=D_t h1;have e:gV w a left v=dL (cC w a left (aF (w.obj v.n).vals 0)) a 20 0 (aF (w.obj v.n).vals 0):=by unfold gV;rw[if_pos h6,if_neg h0,if_neg (by rw[h1];decide)]
    rw[e];have hk:=a2.ok;rw[dX,if_pos a3,kI,if_neg h0,if_pos h1]at hk;simp only[bSw,bWo]at hk;have hB:=kD w a left (aF (w.obj v.n).vals 0) hfit;have hE:=nH (cC w a left (aF (w.obj v.n).vals 0)) a 20 0 (aF (w.obj v.n).vals 0)
    refine cD aVp.2 rfl rfl ?_
    simp only[go_sem,kK,aVp,hO.ret,d0,d1]
    refine aH ?_
    simp only[go_sem,aT (l:=(w.obj v.n).vals) (by omega),hB.ret,hE.ret,kA,bS0,if_false]
   ·have d1:decide ((w.obj v.n).n=1)=false:=D_f h1;have e:gV w a left v=bG w a (w.obj v.n).n:=by unfold gV;rw[if_pos h6,if_neg h0,if_pos h1]
    rw[e]
    refine cD aVp.2 rfl rfl ?_
    simp only[go_sem,kK,aVp,hO.ret,d0,d1,hF3.ret]
 ·have e:gV w a left v=bG w a 2:=by unfold gV;rw[if_neg h6]
  rw[e];rw[bT9]at h6;rw[h6]at hO
  refine cD aVp.2 rfl rfl ?_
  simp only[go_sem,kK,aVp,hO.ret,hF.ret]
theorem aSm {n:Int}{o:aP}(hf:Fit w a):Fit (dD w n o) a:=by
 refine⟨?_,hf.at_,?_⟩
 ·rw[rU];exact hf.len
 ·rw[rU];exact hf.rng
noncomputable def aVq :{c//L 131=some c}:=cA func131
theorem aIr (h:cP p w0 S w)(ha:inR a 0 ((w.tasks.length:Int)-1)=true)(hv: ∀v∈l,VOk p S w v)(h0:0<l.length)(ho:op=16 \/op=17 \/op=18/\ 1<l.length):
  PC L 131 [.agg w.cs,.i a,.fz (left.map aB.enc),.i op,.fz (l.map aE.enc)] (.agg [.fz ((eZ w a left op l).w.objs.map aP.enc),.fz ((eZ w a left op l).w.tasks.map (.int .i64)),.fz ((eZ w a left op l).w.outs.map bO.enc),.fz ((eZ w a left op l).w.ins.map (.int .i64)),.i (eZ w a left op l).w.used,.i (eZ w a left op l).what,.i (eZ w a left op l).e.task,.i (eZ w a left op l).e.act,.i (eZ w a left op l).e.n,.i (eZ w a left op l).e.v.kind,.i (eZ w a left op l).e.v.n]):=by
 have hfit:=wV h ha;have hF:=gR w a 2 hfit;have hv0:=hv _ (dO h0);have hO:=qA w (aF l 0) 3 (gH hv0)
 by_cases h16:op=16
 ·subst h16;have e:eZ w a left 16 l=dL (iW w a left ⟨3,0,[aF l 0],[]⟩) a 16 0 (aF l 0):=by unfold eZ;rw[if_pos rfl]
  rw[e];have hM:=aK5 w a left ⟨3,0,[aF l 0],[]⟩ hfit;have hE:=nH (iW w a left ⟨3,0,[aF l 0],[]⟩) a 16 0 (aF l 0);simp only[bTv,bTe,aNp]at hM
  refine cD aVq.2 rfl rfl ?_
  simp only[go_sem,kK,aVq]
  refine aH ?_
  simp only[go_sem,aT h0,rH,lZ,hM.ret,hE.ret,kA,bS0,if_false]
 ·have d16:decide (op=16)=false:=D_f h16
  by_cases h3:cG w (aF l 0) 3=true
  ·obtain⟨a1,a2,a3,_⟩:=fM h hv0 h3;rw[wT,if_pos h3,h3]at hO;have hk:=a2.ok;simp only[dX,a3]at hk
   simp at hk
   by_cases h17:op=17
   ·subst h17;have e:eZ w a left 17 l=dL (cC w a left (aF (w.obj (aF l 0).n).vals 0)) a 17 0 (aF (w.obj (aF l 0).n).vals 0):=by
     unfold eZ;rw[if_neg (by decide),if_pos h3,if_pos rfl]
    rw[e];have hB:=kD w a left (aF (w.obj (aF l 0).n).vals 0) hfit;have hE:=nH (cC w a left (aF (w.obj (aF l 0).n).vals 0)) a 17 0 (aF (w.obj (aF l 0).n).vals 0)
    refine cD aVq.2 rfl rfl ?_
    simp only[go_sem,kK,aVq]
    refine aH ?_
    simp only[go_sem,kK,aT h0,hO.ret,kA,bS0,if_false]
    refine aH ?_
    simp only[go_sem,aT (l:=(w.obj (aF l 0).n).vals) (by omega),hB.ret,hE.ret,kA,bS0,if_false]
   ·have d17:decide (op=17)=false:=D_f h17;have h18:op=18:=by omega
    have hl1:1<l.length:=by omega
    subst h18;have e:eZ w a left 18 l=dL (cC (dD w (aF l 0).n ⟨3,0,[aF l 1],[]⟩) a left bT) a 18 0 (aF l 1):=by
     unfold eZ;rw[if_neg (by decide),if_pos h3,if_neg (by decide)]
    rw[e];simp only[inR,bWo]at ha;have hS:=aNe w (aF l 0).n ⟨3,0,[aF l 1],[]⟩ a1 (by omega) hfit.len
    have hB:=kD (dD w (aF l 0).n ⟨3,0,[aF l 1],[]⟩) a left bT (aSm hfit);have hE:=nH (cC (dD w (aF l 0).n ⟨3,0,[aF l 1],[]⟩) a left bT) a 18 0 (aF l 1);simp only[bTv,bTe,aNp]at hS
    refine cD aVq.2 rfl rfl ?_
    simp only[go_sem,kK,aVq]
    refine aH ?_
    simp only[go_sem,kK,aT h0,hO.ret,kA,bS0,if_false]
    refine aH ?_
    simp only[go_sem,aT h0,gX hl1,rH,lZ,hS.ret,kA,bS0,if_false]
    refine aH ?_
    simp only[go_sem,gX hl1,nX.ret,hB.ret,hE.ret,kA,bS0,if_false]
  ·have e:eZ w a left op l=bG w a 2:=by unfold eZ;rw[if_neg h16,if_neg h3]
   rw[e];rw[bT9]at h3;rw[h3]at hO
   refine cD aVq.2 rfl rfl ?_
   simp only[go_sem,kK,aVq,d16]
   refine aH ?_
   simp only[go_sem,kK,aT h0,hO.ret,kA,bS0,if_false];simp only[go_sem,hF.ret]
variable {size:Nat}{xs:List Val}
theorem aD0 {k:IntKind}(h:1<=xs.length)(hs:dA size xs=true):kU false size en (.fz xs) (some (.int k 1)) none none=some {v:= .fz (xs.drop 1)}:=aMd (i:=1) h hs
noncomputable def aO5 :{c//L 135=some c}:=cA func135
theorem aHa (h:cP p w0 S w)(ha:inR a 0 ((w.tasks.length:Int)-1)=true)(hv: ∀v∈l,VOk p S w v)(h0:0<l.length)(ho:op=22/\ 1<l.length \/op=23):
  PC L 135 [.agg w.cs,.i a,.fz (left.map aB.enc),.i op,.fz (l.map aE.enc)] (.agg [.fz ((cE w a left op l).w.objs.map aP.enc),.fz ((cE w a left op l).w.tasks.map (.int .i64)),.fz ((cE w a left op l).w.outs.map bO.enc),.fz ((cE w a left op l).w.ins.map (.int .i64)),.i (cE w a left op l).w.used,.i (cE w a left op l).what,.i (cE w a left op l).e.task,.i (cE w a left op l).e.act,.i (cE w a left op l).e.n,.i (cE w a left op l).e.v.kind,.i (cE w a left op l).e.v.n]):=by
 have hfit:=wV h ha;have hF:=gR w a 2 hfit;have hv0:=hv _ (dO h0);have hO:=qA w (aF l 0) 4 (gH hv0);have ht:0<w.tasks.length:=by simp only[inR,bWo]at ha;omega
 by_cases h3:cG w (aF l 0) 4=true
 ·obtain⟨a1,a2,a3,_⟩:=fM h hv0 h3;rw[wT,if_pos h3,h3]at hO;have hk:=a2.ok;simp only[dX,a3]at hk;simp[bC]at hk
  by_cases h22:op=22
  ·subst h22;have hl1:1<l.length:=by omega
   by_cases h4:4<=(w.obj (aF l 0).n).vals.length
   ·have d4:decide ((4:Int)<=((w.obj (aF l 0).n).vals.length:Int))=true:=D_t (by omega)
    have e:cE w a left 22 l=mZ w:=by unfold cE;rw[if_pos h3,if_pos rfl,if_pos h4]
    rw[e]
    refine cD aO5.2 rfl rfl ?_
    simp only[go_sem,kK,aO5]
    refine aH ?_
    simp only[go_sem,kK,aT h0,hO.ret,kA,bS0,if_false];simp only[go_sem,kK,d4,mZ,eM,iV]
   ·have d4:decide ((4:Int)<=((w.obj (aF l 0).n).vals.length:Int))=false:=D_f (by omega)
    have e:cE w a left 22 l=dL (cC (dD w (aF l 0).n ⟨4,0,(w.obj (aF l 0).n).vals++[aF l 1],[]⟩) a left bT) a 22 0 (aF l 1):=by
     unfold cE;rw[if_pos h3,if_pos rfl,if_neg h4]
    rw[e];have hM:=aGr (w.obj (aF l 0).n).vals (aF l 1) (by omega)
    have hS:=aNe w (aF l 0).n ⟨4,0,(w.obj (aF l 0).n).vals++[aF l 1],[]⟩ a1 ht hfit.len;have hB:=kD (dD w (aF l 0).n ⟨4,0,(w.obj (aF l 0).n).vals++[aF l 1],[]⟩) a left bT (aSm hfit);have hE:=nH (cC (dD w (aF l 0).n ⟨4,0,(w.obj (aF l 0).n).vals++[aF l 1],[]⟩) a left bT) a 22 0 (aF l 1);simp only[bTe]at hS
    refine cD aO5.2 rfl rfl ?_
    simp only[go_sem,kK,aO5]
    refine aH ?_
    simp only[go_sem,kK,aT h0,hO.ret,kA,bS0,if_false];simp only[go_sem,d4]
    refine aH ?_
    simp only[go_sem,aT h0,gX hl1,hM.ret,hS.ret,kA,bS0,if_false]
    refine aH ?_
    simp only[go_sem,gX hl1,nX.ret,hB.ret,hE.ret,kA,bS0,if_false]
  ·have h23:op=23:=by omega
   subst h23
   by_cases hz:(w.obj (aF l 0).n).vals.length=0
   ·have dz:decide (((w.obj (aF l 0).n).vals.length:Int)=0)=true:=D_t (by omega)
    have e:cE w a left 23 l=mZ w:=by unfold cE;rw[if_pos h3,if_neg (by decide),if_pos hz]
    rw[e]
    refine cD aO5.2 rfl rfl ?_
    simp only[go_sem,kK,aO5]
    refine aH ?_
    simp only[go_sem,kK,aT h0,hO.ret,kA,bS0,if_false];simp only[go_sem,kK,dz,mZ,eM,iV]
   ·have dz:decide (((w.obj (aF l 0).n).vals.length:Int)=0)=false:=D_f (by omega)
    have e:cE w a left 23 l=dL (cC (dD w (aF l 0).n ⟨4,0,(w.obj (aF l 0).n).vals.drop 1,[]⟩) a left (aF (w.obj (aF l 0).n).vals 0)) a 23 0 (aF (w.obj (aF l 0).n).vals 0):=by
     unfold cE;rw[if_pos h3,if_neg (by decide),if_neg hz]
    rw[e];have hS:=aNe w (aF l 0).n ⟨4,0,(w.obj (aF l 0).n).vals.drop 1,[]⟩ a1 ht hfit.len;have hB:=kD (dD w (aF l 0).n ⟨4,0,(w.obj (aF l 0).n).vals.drop 1,[]⟩) a left (aF (w.obj (aF l 0).n).vals 0) (aSm hfit);have hE:=nH (cC (dD w (aF l 0).n ⟨4,0,(w.obj (aF l 0).n).vals.drop 1,[]⟩) a left (aF (w.obj (aF l 0).n).vals 0)) a 23 0 (aF (w.obj (aF l 0).n).vals 0);simp only[bTe]at hS;have hge:1<=(w.obj (aF l 0).n).vals.length:=by omega
    have hl16:((w.obj (aF l 0).n).vals.drop 1).length<=16777216:=by simp only[bVi];omega
    refine cD aO5.2 rfl rfl ?_
    simp only[go_sem,kK,aO5]
    refine aH ?_
    simp only[go_sem,kK,aT h0,hO.ret,kA,bS0,if_false];simp only[go_sem,dz]
    refine aH ?_
    cases hd:((w.obj (aF l 0).n).vals.drop 1).isEmpty with
    |true=>
     have hd':(w.obj (aF l 0).n).vals.drop 1=[]:=by simpa using hd
     rw[hd']at hS hB hE⊢;simp only[bTe]at hS;simp only[go_sem,aT h0,aD0,uO,hge,bW,eP,oE,<-bVw,hd',bTe,rH,lZ,hS.ret,kA,bS0,if_false]
     refine aH ?_
     simp only[go_sem,aT (l:=(w.obj (aF l 0).n).vals) (by omega),hB.ret,hE.ret,kA,bS0,if_false]
    |false=>
     generalize hgd:(w.obj (aF l 0).n).vals.drop 1=dl at*;simp only[go_sem,aT h0,aD0,uO,hge,bW,eP,jR,<-bVw,hgd,jC,hd,hl16,bSy,bSx,bTh,wM,oD,hS.ret,kA,bS0,if_false]
     refine aH ?_
     simp only[go_sem,aT (l:=(w.obj (aF l 0).n).vals) (by omega),hB.ret,hE.ret,kA,bS0,if_false]
 ·have e:cE w a left op l=bG w a 2:=by unfold cE;rw[if_neg h3]
  rw[e];rw[bT9]at h3;rw[h3]at hO
  refine cD aO5.2 rfl rfl ?_
  simp only[go_sem,kK,aO5]
  refine aH ?_
  simp only[go_sem,kK,aT h0,hO.ret,kA,bS0,if_false];simp only[go_sem,hF.ret]
theorem aQi {n:Nat}{k:Key}{kk:IntKind}(hn:1<=n):kU false size en (.bl k 0 n) (some (.int kk 1)) none none=(match en k with
  |some (.blk sz _ _)=>if sz=size then some {v:= .bl k 1 (n-1),rs:=[.val k]}else none
  |_=>none):=by
 have hb:jM (some (.int kk 1)) 0 n=some 1:=uX (i:=1) hn;simp only[kU,wF,hb,bS0,if_false];cases en k with
 |none=>rfl
 |some e=>cases e<;>simp
theorem bD0 (hf:Fit w a)(h1:outs.length<=110)(h2:ins.length<=60):Fit ⟨w.objs,w.tasks,outs,ins,used⟩ a:=⟨⟨hf.len.1,hf.len.2.1,h1,h2⟩,hf.at_,hf.rng⟩
theorem aQj (x:Int)(l:List Int):(x::l).map (Val.int .i64)= .i x::l.map (.int .i64):=rfl
set_option maxHeartbeats 1600000 in
theorem aNq (h:cP p w0 S w)(ha:inR a 0 ((w.tasks.length:Int)-1)=true)(n:aL)(hv: ∀v∈l,VOk p S w v)(ho:n.op=25 \/n.op=24/\ 0<l.length):
  PC L 136 [.agg [.fz (w.objs.map aP.enc),.fz (w.tasks.map (.int .i64)),.fz (w.outs.map bO.enc),.fz (w.ins.map (.int .i64)),.i w.used],.i a,.fz (left.map aB.enc),.agg [.i n.op,.i n.n,.fz (n.kids.map (.int .i64)),.fz (n.pats.map Pat.enc)],.fz (l.map aE.enc)] (.agg [.fz ((dM w a left n.op n.n l).w.objs.map aP.enc),.fz ((dM w a left n.op n.n l).w.tasks.map (.int .i64)),.fz ((dM w a left n.op n.n l).w.outs.map bO.enc),.fz ((dM w a left n.op n.n l).w.ins.map (.int .i64)),.i (dM w a left n.op n.n l).w.used,.i (dM w a left n.op n.n l).what,.i (dM w a left n.op n.n l).e.task,.i (dM w a left n.op n.n l).e.act,.i (dM w a left n.op n.n l).e.n,.i (dM w a left n.op n.n l).e.v.kind,.i (dM w a left n.op n.n l).e.v.n]):=by
 have hfit:=wV h ha;have hF2:=gR w a 2 hfit;have hF4:=gR w a 4 hfit
 try simp only[aA.cs,Val.is]at hF2 hF4
 obtain⟨b1,b2,b3,b4,b5,b6,b7⟩:=cH.1 h.ok;simp only[oB,bSw,bWo]at b3;simp only[inR,bWo]at b4;have hat:=hfit.at_;have hrng:=hfit.rng;simp only[inR,bWo]at hat hrng;have t1:((w.objs.map aP.enc).take w.objs.length)=w.objs.map aP.enc:=bTh (by simp)
 have t2:((w.tasks.map (Val.int .i64)).take w.tasks.length)=w.tasks.map (.int .i64):=bTh (by simp)
 have t3:((w.outs.map bO.enc).take w.outs.length)=w.outs.map bO.enc:=bTh (by simp)
 have t4:((w.ins.map (Val.int .i64)).take w.ins.length)=w.ins.map (.int .i64):=bTh (by simp)
 refine pcA func136 ?_
 simp only[go_sem,kK]
 refine(aGz w (by omega) (by omega) hfit.len (aCw _ _ w)).mono ?_
 rintro x en1 cnt1 ⟨⟨g5,g8,vU,vI,rfl,e5,l5,m5,e8,l8,m8,mU,mI⟩,old,up⟩
 have q5:=old 5 0 (by simp[aC])
 have q8:=old 8 0 (by simp[aC])
 have q10:=old 10 0 (by simp[aC])
 have n5: ¬g5=0:=by simp[aC]at l5;omega
 have n8: ¬g8=0:=by simp[aC]at l8;omega
 have n5': ¬0=g5:=by omega
 have n8': ¬0=g8:=by omega
 try simp only[go_sem]at q5 q8 q10
 obtain⟨g11,hg11⟩: ∃g,g=cnt1 0 11:=⟨_,rfl⟩
 have eU:=True.intro;have eI:=True.intro;have nU:=True.intro
 by_cases h25:n.op=25
 ·rw[h25];cases hins:w.ins with
  |nil=>
   have e:dM w a left 25 n.n l=mZ w:=by unfold dM;rw[if_pos rfl,hins]
   rw[e];rcases mI with⟨rfl,hi⟩|⟨gI,rfl,eI,lI,hi⟩
   ·rcases mU with⟨rfl,hu⟩|⟨gU,rfl,eU,lU,hu⟩
    all_goals simp only[go_sem,kK,q5,q8,q10,n5,h25,e5,e8,eU,t1,t2,t3,bSy,bSx,mZ,eM,iV,hu,hins,bTe]
   ·rw[hins]at hi;cases hi
  |cons x xs=>
   have hx:inR x (-1000000000) 1000000000=true:=by rw[hins]at b3;simp only[bVd,bSw]at b3;exact b3.2.1
   have hlx:xs.length+1<=50:=by rw[hins]at b3;have:=b3.1;simp only[bS8]at this;omega
   have hlen:w.ins.length=xs.length+1:=by rw[hins];rfl
   rcases mI with⟨rfl,hi⟩|⟨gI,rfl,eI,lI,hi⟩
   ·rw[hins]at hi;cases hi
   rw[hins,aQj]at eI;have tx:(xs.map (Val.int .i64)).take xs.length=xs.map (.int .i64):=bTh (by simp)
   have dpos:(0:Int)<((xs.length+1:Nat):Int):=by omega
   have di:decide (((xs.length+1:Nat):Int)=0)=false:=D_f (by omega)
   by_cases hus:1000000000<=w.used
   ·have du:decide ((1000000000:Int)<=w.used)=true:=D_t hus;have e:dM w a left 25 n.n l=bG w a 4:=by unfold dM;rw[if_pos rfl,hins];simp only;rw[if_pos hus]
    rw[e];rw[hins,aQj]at hF4;rcases mU with⟨rfl,hu⟩|⟨gU,rfl,eU,lU,hu⟩
    ·rw[hu]at hF4;simp only[go_sem,kK,q5,q8,q10,n5,h25,e5,e8,eI,t1,t2,bSy,bS8,bSx,hlen,di,dpos,Int.le_refl,bVl,tx,(aFb _).ret,<-hg11,du,hF4.ret]
    ·have nU: ¬gU=g11:=by omega
     simp only[go_sem,kK,q5,q8,q10,n5,h25,e5,e8,eI,eU,nU,t1,t2,t3,bSy,bS8,bSx,hlen,di,dpos,Int.le_refl,bVl,tx,(aFb _).ret,<-hg11,du,hF4.ret]
   ·have du:decide ((1000000000:Int)<=w.used)=false:=D_f hus;have e:dM w a left 25 n.n l=dL (cC ⟨w.objs,w.tasks,w.outs,xs,w.used+1⟩ a left (nP x)) a 25 0 (nP x):=by unfold dM;rw[if_pos rfl,hins];simp only;rw[if_neg hus]
    rw[e];have hwu:IntKind.i64.wrap (w.used+1)=w.used+1:=aV (by omega)
    have hB:=kD ⟨w.objs,w.tasks,w.outs,xs,w.used+1⟩ a left (nP x) (bD0 hfit (by omega) (by omega))
    have hE:=nH (cC ⟨w.objs,w.tasks,w.outs,xs,w.used+1⟩ a left (nP x)) a 25 0 (nP x);dsimp only[aA.cs,Val.is]at hB;have hx1:1<=xs.length+1:=by omega
    have hx2:xs.length+1-1=xs.length:=by omega
    have hx3:1+xs.length<=xs.length+1:=by omega
    have hx4:xs.length<=16777216:=by omega
    cases hxe:xs.isEmpty
    all_goals
     try(have hxe':xs=[]:=(by simpa using hxe);subst hxe')
     try simp only[bTe]at hB
     rcases mU with⟨rfl,hu⟩|⟨gU,rfl,eU,lU,hu⟩
     ·rw[hu]at hB;simp only[go_sem,kK,q5,q8,h25,eI,bSy,bS8,bSx,hlen,di,dpos,Int.le_refl,bVl,(aFb _).ret,<-hg11,du]
      refine aH ?_
      simp only[go_sem,kB,eI,hx1,hx2,hx3,hx4,hxe,tx,aQi,aNd,bW,eP,oE,jR,jC,aDr,bSy,bS8,bTd,bSx,hwu,bTe,kA,bS0,if_false]
      refine aH ?_
      simp only[go_sem,q8,q10,n5,n8',h25,e5,e8,hB.ret,hE.ret,t1,t2,tx,bSy,bSx,bTe,kA,bS0,if_false]
     ·have nU: ¬gU=g11:=by omega
      have nU': ¬g11=gU:=by omega
      simp only[go_sem,kK,q5,q8,h25,eI,bSy,bS8,bSx,hlen,di,dpos,Int.le_refl,bVl,(aFb _).ret,<-hg11,du]
      refine aH ?_
      simp only[go_sem,kB,eI,hx1,hx2,hx3,hx4,hxe,tx,aQi,aNd,bW,eP,oE,jR,jC,aDr,bSy,bS8,bTd,bSx,hwu,bTe,kA,bS0,if_false]
      refine aH ?_
      simp only[go_sem,q8,q10,n5,n8',h25,e5,e8,eU,nU,nU',hB.ret,hE.ret,t1,t2,t3,tx,bSy,bSx,bTe,kA,bS0,if_false]
 ·have h24:n.op=24:=by omega
  have h0:0<l.length:=by omega
  rw[h24]
  by_cases hk:(aF l 0).kind=1
  ·have dk:decide ((aF l 0).kind=1)=true:=D_t hk
   by_cases h100:100<=w.outs.length
   ·have d1:decide ((100:Int)<=(w.outs.length:Int))=true:=D_t (by omega)
    have e:dM w a left 24 n.n l=bG w a 4:=by unfold dM;rw[if_neg (by decide),if_neg (fun h=>h hk),if_pos h100]
    rw[e];rcases mU with⟨rfl,hu⟩|⟨gU,rfl,eU,lU,hu⟩
    ·have:w.outs=[]:=by simpa using hu
     rw[this]at h100;simp at h100
    ·rcases mI with⟨rfl,hi⟩|⟨gI,rfl,eI,lI,hi⟩
     ·rw[hi]at hF4;simp only[go_sem,kK,q5,q8,q10,n5,h24,aT h0,dk,d1,e5,e8,eU,t1,t2,t3,bSy,bSx,hF4.ret]
     ·simp only[go_sem,kK,q5,q8,q10,n5,h24,aT h0,dk,d1,e5,e8,eU,eI,t1,t2,t3,t4,bSy,bSx,hF4.ret]
   ·have e:dM w a left 24 n.n l=dL (cC ⟨w.objs,w.tasks,w.outs++[⟨n.n,(aF l 0).n⟩],w.ins,w.used⟩ a left bT) a 24 n.n (aF l 0):=by
     unfold dM;rw[if_neg (by decide),if_neg (fun h=>h hk),if_neg h100]
    rw[e];have hB:=kD ⟨w.objs,w.tasks,w.outs++[⟨n.n,(aF l 0).n⟩],w.ins,w.used⟩ a left bT (bD0 hfit (by simp only[bTg,bS8,bTd];omega) (by omega))
    have hE:=nH (cC ⟨w.objs,w.tasks,w.outs++[⟨n.n,(aF l 0).n⟩],w.ins,w.used⟩ a left bT) a 24 n.n (aF l 0);simp only[aA.cs,Val.is,bT0,bTv,bTe,bO.enc]at hB;have hl1:w.outs.length+1<=16777216:=by omega
    rcases mU with⟨rfl,hu⟩|⟨gU,rfl,eU,lU,hu⟩
    ·have d1:decide ((100:Int)<=0)=false:=D_f (by omega)
     have hu':List.map (fun x:bO=>Val.agg [.i x.port,.i x.n]) w.outs=[]:=hu
     have hu2:w.outs=[]:=by simpa using hu
     rw[hu2]at hB hE⊢;simp only[bTe,bT4]at hB hE⊢;rcases mI with⟨rfl,hi⟩|⟨gI,rfl,eI,lI,hi⟩
     all_goals
      try rw[hi]at hB
      simp only[go_sem,kK,q5,q8,h24,aT h0,dk,bSy,bSx]
      refine aH ?_
      simp only[go_sem,q8,h24,aT h0,kB,bSx,bW,eP,jR,List.isEmpty_cons,bIa,kA,bS0,if_false]
      refine aH ?_
      simp only[go_sem,q8,q10,n5,n8',h24,aT h0,e5,e8,eI,t1,t2,t4,bSy,bSx,nX.ret,hB.ret,hE.ret,kA,bS0,if_false]
    ·have d1:decide ((100:Int)<=(w.outs.length:Int))=false:=D_f (by omega)
     rcases mI with⟨rfl,hi⟩|⟨gI,rfl,eI,lI,hi⟩
     all_goals
      try rw[hi]at hB
      simp only[go_sem,kK,q5,q8,h24,aT h0,dk,d1,bSy,bSx]
      refine aH ?_
      simp only[go_sem,q8,h24,aT h0,kB,eU,bSy,bSx,hl1,bW,eP,wN,mA,bVn,bIa,kA,bS0,if_false]
      refine aH ?_
      simp only[go_sem,q8,q10,n5,n8',h24,aT h0,e5,e8,eI,t1,t2,t4,bSy,bSx,bTg,bVn,bTh,nX.ret,hB.ret,hE.ret,kA,bS0,if_false]
  ·have dk:decide ((aF l 0).kind=1)=false:=D_f hk;have e:dM w a left 24 n.n l=bG w a 2:=by unfold dM;rw[if_neg (by decide),if_pos hk]
   rw[e];rcases mU with⟨rfl,hu⟩|⟨gU,rfl,eU,lU,hu⟩<;>rcases mI with⟨rfl,hi⟩|⟨gI,rfl,eI,lI,hi⟩
   all_goals
    try rw[hu]at hF2
    try rw[hi]at hF2
    simp only[go_sem,kK,q5,q8,q10,n5,h24,aT h0,dk,e5,e8,eU,eI,t1,t2,t3,t4,bSy,bSx,hF2.ret]
theorem fX (hf:FOk p S w f):inR f.node 0 ((p.nodes.length:Int)-1)=true:=by
 have:=hf.ok;simp only[dN,bSw]at this;exact this.1.1
theorem qD :gG p left (k+1)=if(p.node (left.getD k default).node).op=26 then k+1 else gG p left k:=rfl
set_option maxHeartbeats 1600000 in
theorem aXp (h:cP p w0 S w)(ha:inR a 0 ((w.tasks.length:Int)-1)=true)(hl:LOk p S w left){env:List aE}(he:env.length<=30):
  PC L 130 [.agg p.cs,.agg w.cs,.i a,.fz (left.map aB.enc),.i kid,.fz (env.map aE.enc)] (.agg [.fz ((fL p w a left kid env).w.objs.map aP.enc),.fz ((fL p w a left kid env).w.tasks.map (.int .i64)),.fz ((fL p w a left kid env).w.outs.map bO.enc),.fz ((fL p w a left kid env).w.ins.map (.int .i64)),.i (fL p w a left kid env).w.used,.i (fL p w a left kid env).what,.i (fL p w a left kid env).e.task,.i (fL p w a left kid env).e.act,.i (fL p w a left kid env).e.n,.i (fL p w a left kid env).e.v.kind,.i (fL p w a left kid env).e.v.n]):=by
 have hfit:=wV h ha;have hF3:=gR w a 3 hfit;have hF4:=gR w a 4 hfit;have hlen:=hl.len;have hwl:IntKind.i64.wrap ((left.length:Int)-1)=(left.length:Int)-1:=aV (by omega)
 refine pcA func130 ?_
 simp only[go_sem,kK,hwl]
 refine Go.Abs.wp_loop (fun(k:Nat) st=> ∃fr en cnt,st=⟨fr,en,cnt⟩/\ fr 2= .i a/\ fr 3= .fz (left.map aB.enc)/\ fr 4= .i kid/\ fr 5= .fz (env.map aE.enc)/\ fr 6= .ptr ⟨0,6,0⟩ 0/\ en ⟨0,6,0⟩=some (.box [.fz (p.nodes.map aL.enc),.fz (p.funs.map (.int .i64)),.i p.main,.fz (p.cons.map dC.enc)] false)/\ fr 7= .ptr ⟨0,7,0⟩ 0/\ en ⟨0,7,0⟩=some (.box [.fz (w.objs.map aP.enc),.fz (w.tasks.map (.int .i64)),.fz (w.outs.map bO.enc),.fz (w.ins.map (.int .i64)),.i w.used] false)/\ fr 12= .ptr ⟨0,12,0⟩ 0/\ en ⟨0,12,0⟩=some (.box [.cl [],.cl [],.cl [],.cl [],.i 0,.i 0,.i 0,.i 0,.i 0,.i 0,.i 0] false)/\ fr 13= .i ((k:Int)-1)/\ (cnt 0 7=1/\ cnt 0 12=1/\ cnt 0 14=0)/\ k<=left.length/\ gG p left k=gG p left left.length) (fun k=>k) left.length (by refine⟨_,_,_,rfl,?_,?_,?_,?_,?_,?_,?_,?_,?_,?_,?_,by simp[aC],bSx _,rfl⟩<;>simp only[go_sem]) ?_
 rintro k st ⟨fr,en,cnt,rfl,k2,k3,k4,k5,k6,e6,k7,e7,k12,e12,k13,kc,hk,hR⟩
 cases k with
 |zero=>
  have k13':fr 13= .i (-1):=by simpa using k13
  have e:fL p w a left kid env=bG w a 3:=by unfold fL;rw[<-hR];rfl
  rw[e];simp only[go_sem,kK,k2,k7,e7,k12,e12,k13',hF3.ret]
 |succ k=>
  have k13':fr 13= .i (k:Int):=by rw[k13];congr 1;omega
  have h':k<left.length:=by omega
  have d0:decide ((0:Int)<=(k:Int))=true:=D_t (by omega)
  have hfk:=hl.ok _ (bS7 h');have hgd:left.getD k default=left[k]:=by simp[bSz,h']
  have hwk:IntKind.i64.wrap ((k:Int)-1)=(k:Int)-1:=aV (by omega)
  rw[qD,hgd]at hR
  by_cases h26:(p.node left[k].node).op=26
  ·rw[if_pos h26]at hR;have d26:decide ((p.node left[k].node).op=26)=true:=D_t h26;have dneg:decide ((k:Int)<0)=false:=D_f (by omega)
   by_cases h120:120<=w.objs.length
   ·have d120:decide ((120:Int)<=(w.objs.length:Int))=true:=D_t (by omega)
    have e:fL p w a left kid env=bG w a 4:=by unfold fL;rw[<-hR];simp only;rw[if_pos h120]
    rw[e];simp only[go_sem,kK,k2,k3,k6,e6,k7,e7,k12,e12,k13',h',d0,bM (fX hfk),d26,dneg,d120,hF4.ret]
   ·have d120:decide ((120:Int)<=(w.objs.length:Int))=false:=D_f (by omega)
    have hat:=hfit.at_;have hrng:=hfit.rng;simp only[inR,bWo]at hat hrng;have hK:Fit (eF w ⟨5,0,[],left.drop k⟩) a:=aYs hfit (by omega)
    have hN:=aDv (eF w ⟨5,0,[],left.drop k⟩) a (left.take (k+1)) kid (env++[dQ w.objs.length]) hK (by simp only[bT3];omega)
    have hM:=aGr env (dQ w.objs.length) (by omega)
    have hF:=gR w a (iD (eF w ⟨5,0,[],left.drop k⟩) a (left.take (k+1)) kid (env++[dQ w.objs.length])).e.n hfit;have e:fL p w a left kid env=if(iD (eF w ⟨5,0,[],left.drop k⟩) a (left.take (k+1)) kid (env++[dQ w.objs.length])).what=1 then bG w a (iD (eF w ⟨5,0,[],left.drop k⟩) a (left.take (k+1)) kid (env++[dQ w.objs.length])).e.n else iD (eF w ⟨5,0,[],left.drop k⟩) a (left.take (k+1)) kid (env++[dQ w.objs.length]):=by
     unfold fL;rw[<-hR];simp only;rw[if_neg h120]
    rw[e];generalize hD:iD (eF w ⟨5,0,[],left.drop k⟩) a (left.take (k+1)) kid (env++[dQ w.objs.length])=D at hN hF⊢
    try simp only[aA.cs,Val.is]at hN
    rw[show((eF w ⟨5,0,[],left.drop k⟩).objs.map aP.enc)=w.objs.map aP.enc++[aP.enc ⟨5,0,[],left.drop k⟩]from by simp[eF]]at hN
    simp only[eF,bTe,aP.enc]at hN;have hde:(left.drop k).isEmpty=false:=aM3 (by simp only[bVi];omega)
    have hdl:(left.drop k).length<=16777216:=by simp only[bVi];omega
    have hkl:k<=left.length:=by omega
    have hkl1:k+1<=left.length:=by omega
    have hol:w.objs.length+1<=16777216:=by omega
    have hwr:IntKind.i64.wrap (((w.objs.length+1:Nat):Int)-1)=(w.objs.length:Int):=by rw[aV (by omega)];omega
    have hwk1:IntKind.i64.wrap ((k:Int)+1)=((k+1:Nat):Int):=by rw[aV (by omega)];omega
    obtain⟨c7,c12,c14⟩:=kc;simp only[go_sem,kK,k3,k6,e6,k7,e7,k12,e12,k13',h',d0,bM (fX hfk),d26,dneg,d120,c14]
    refine(aGz w (by omega) (by omega) hfit.len (aCw _ _ w)).mono ?_
    rintro x en1 cnt1 ⟨⟨g5,g8,vU,vI,rfl,e5,l5,m5,e8,l8,m8,mU,mI⟩,old,up⟩
    have q7:=old 7 0 (by simp[aC];omega)
    have q12:=old 12 0 (by simp[aC];omega)
    have q14:=old 14 0 (by simp[aC])
    try simp only[go_sem,e7,e12]at q7 q12 q14
    have eU:=True.intro;have eI:=True.intro;have t2:((w.tasks.map (Val.int .i64)).take w.tasks.length)=w.tasks.map (.int .i64):=bTh (by simp)
    have t3:((w.outs.map bO.enc).take w.outs.length)=w.outs.map bO.enc:=bTh (by simp)
    have t4:((w.ins.map (Val.int .i64)).take w.ins.length)=w.ins.map (.int .i64):=bTh (by simp)
    obtain⟨g15,hg15⟩: ∃g,g=cnt1 0 15:=⟨_,rfl⟩
    simp only[go_sem,q7]
    refine aH ?_
    simp only[go_sem,k3,k7,k13',e5,aMd,jV,hkl,<-bVw,bW,eP,jR,wN,mA,jC,hde,hdl,hol,bIc,bSy,bSx,bTh,wM,oD,kA,bS0,if_false];have n14: ∀{g:Nat},g<cnt1 0 14->True:=fun _=>trivial
    by_cases hw:D.what=1
    ·have dw:decide (D.what=1)=true:=D_t hw;rw[if_pos hw];rcases mU with⟨rfl,hu⟩|⟨gU,rfl,eU,lU,hu⟩<;>rcases mI with⟨rfl,hi⟩|⟨gI,rfl,eI,lI,hi⟩
     all_goals
      try rw[hu]at hN
      try rw[hi]at hN
      have nI:=True.intro
      try(have nI: ¬0=gI:=by(rintro rfl;rw[q14]at eI;cases eI))
      refine aH ?_
      simp only[go_sem,kK,k2,k3,k4,k5,k7,k13',e8,eU,eI,t2,t3,t4,wG,hkl1,hwk1,<-bUd,bSy,bTg,bVn,bSx,bTh,hwr,(aM4 _).ret,hM.ret,hN.ret,<-hg15,kA,bS0,if_false];simp only[go_sem,kK,k2,k12,q12,q14,nI,dw,hF.ret]
    ·have dw:decide (D.what=1)=false:=D_f hw;rw[if_neg hw];rcases mU with⟨rfl,hu⟩|⟨gU,rfl,eU,lU,hu⟩<;>rcases mI with⟨rfl,hi⟩|⟨gI,rfl,eI,lI,hi⟩
     all_goals
      try rw[hu]at hN
      try rw[hi]at hN
      have nI:=True.intro
      try(have nI: ¬0=gI:=by(rintro rfl;rw[q14]at eI;cases eI))
      refine aH ?_
      simp only[go_sem,kK,k2,k3,k4,k5,k7,k13',e8,eU,eI,t2,t3,t4,wG,hkl1,hwk1,<-bUd,bSy,bTg,bVn,bSx,bTh,hwr,(aM4 _).ret,hM.ret,hN.ret,<-hg15,kA,bS0,if_false];simp only[go_sem,k12,q12,dw]
  ·rw[if_neg h26]at hR;have d26:decide ((p.node left[k].node).op=26)=false:=D_f h26;simp only[go_sem,kK,k3,k6,e6,k13',h',d0,bM (fX hfk),d26,hwk]
   refine⟨k,⟨_,_,_,rfl,?_⟩,Nat.lt_succ_self _⟩
   simp only[go_sem,k2,k3,k4,k5,k6,e6,k7,e7,k12,e12];exact⟨kc,by omega,hR⟩
structure bJ2 (p:aD) (w:aA) (a:Int) (left:List aB) (f:aE) (fr:Nat->Val) (en:En) (cnt:Nat->Nat->Nat) (o:aP) (oa ob:Val):Prop where
 form:o.form=6
 n:o.n=0
 pa:aEi oa (.fz (o.vals.map aE.enc))
 pb:aEi ob (.fz (o.frames.map aB.enc))
 is:eR p w a left f=aBs w a left o
 k2:fr 2= .i a
 k3:fr 3= .fz (left.map aB.enc)
 k6:fr 6= .ptr ⟨0,6,0⟩ 0
 e6:en ⟨0,6,0⟩=some (.box [.fz (w.objs.map aP.enc),.fz (w.tasks.map (.int .i64)),.fz (w.outs.map bO.enc),.fz (w.ins.map (.int .i64)),.i w.used] false)
 k10:fr 10= .ptr ⟨0,10,0⟩ 0
 e10:en ⟨0,10,0⟩=some (.box [.cl [],.cl [],.cl [],.cl [],.i 0,.i 0,.i 0,.i 0,.i 0,.i 0,.i 0] false)
 k11:fr 11= .ptr ⟨0,11,0⟩ 0
 e11:en ⟨0,11,0⟩=some (.box [.i 6,.i 0,oa,ob] false)
 c6:cnt 0 6=1
 c10:cnt 0 10=1
def bGk (p:aD)(w:aA)(a:Int)(left:List aB)(f:aE)(st:St):Prop:= ∃o oa ob,bJ2 p w a left f st.fr st.en st.cnt o oa ob
set_option maxHeartbeats 1600000 in
theorem aXq (hp:eQ p)(h:cP p w0 S w)(ha:inR a 0 ((w.tasks.length:Int)-1)=true){f:aE}(hf:VOk p S w f):
  PC L 132 [.agg p.cs,.agg w.cs,.i a,.fz (left.map aB.enc),.agg [.i f.kind,.i f.n]] (.agg [.fz ((eR p w a left f).w.objs.map aP.enc),.fz ((eR p w a left f).w.tasks.map (.int .i64)),.fz ((eR p w a left f).w.outs.map bO.enc),.fz ((eR p w a left f).w.ins.map (.int .i64)),.i (eR p w a left f).w.used,.i (eR p w a left f).what,.i (eR p w a left f).e.task,.i (eR p w a left f).e.act,.i (eR p w a left f).e.n,.i (eR p w a left f).e.v.kind,.i (eR p w a left f).e.v.n]):=by
 have hfit:=wV h ha;have hO:=qA w f 5 (gH hf);have hF4:=gR w a 4 hfit;have hF2:=gR w a 2 hfit;have hB:=aVl hp h hf (rV (p:=p) (S:=S) (w:=w))
 refine pcA func132 ?_
 simp only[go_sem,aE1,Go.Abs.start]
 refine aDp (bGk p w a left f) ?_ ?_
 ·by_cases h5:cG w f 5=true
  ·rw[wT,if_pos h5,h5]at hO;simp only[go_sem,kK,hO.ret]
   refine aH ?_
   simp only[go_sem,nX.ret,rH,lZ,kA,bS0,if_false];exact⟨⟨6,0,[bT],(w.obj f.n).frames⟩,.cl [.agg [.i bT.kind,.i bT.n]],.fz ((w.obj f.n).frames.map aB.enc),(by refine⟨rfl,rfl,aG0 _,tO _,by unfold eR;rw[if_pos h5],?_,?_,?_,?_,?_,?_,?_,?_,by simp[aC],by simp[aC]⟩<;>simp only[go_sem])⟩
  ·rw[bT9]at h5;rw[h5]at hO;cases hb:eW p w f bT with
   |none=>
    have e:eR p w a left f=bG w a 2:=by unfold eR;rw[if_neg (by rw[h5];decide),hb]
    rw[hb]at hB;rw[e];simp only[go_sem,kK,hO.ret]
    refine aH ?_
    simp only[go_sem,kK,nX.ret,hB.ret,bU7,kA,bS0,if_false];simp only[go_sem,hF2.ret]
   |some b=>
    have hv:yQ p w f bT=b:=by rw[yQ,hb];rfl
    rw[hb,hv]at hB;obtain⟨b1,b2,b3⟩:=aFc hp h hf rV hb
    by_cases h30:30<b.env.length
    ·have d30:decide ((30:Int)<(b.env.length:Int))=true:=D_t (by omega)
     have e:eR p w a left f=bG w a 4:=by unfold eR;rw[if_neg (by rw[h5];decide),hb];simp only;rw[if_pos h30]
     rw[e];simp only[go_sem,kK,hO.ret]
     refine aH ?_
     simp only[go_sem,kK,nX.ret,hB.ret,bUx,kA,bS0,if_false];simp only[go_sem,kK,d30,hF4.ret]
    ·have d30:decide ((30:Int)<(b.env.length:Int))=false:=D_f (by omega)
     have e:eR p w a left f=aBs w a left ⟨6,0,[],[b]⟩:=by unfold eR;rw[if_neg (by rw[h5];decide),hb];simp only;rw[if_neg h30]
     simp only[go_sem,kK,hO.ret]
     refine aH ?_
     simp only[go_sem,kK,nX.ret,hB.ret,bUx,kA,bS0,if_false];simp only[go_sem,d30,rH,lZ];exact⟨⟨6,0,[],[b]⟩,.cl [],.cl [.agg [.i b.node,.fz (b.env.map aE.enc),.fz (b.vals.map aE.enc)]],(by refine⟨rfl,rfl,aG0 _,aG0 _,e,?_,?_,?_,?_,?_,?_,?_,?_,by simp[aC],by simp[aC]⟩<;>simp only[go_sem])⟩
 ·rintro fr en cnt ⟨o,oa,ob,hs⟩
  obtain⟨of_,on,pa,pb,is,k2,k3,k6,e6,k10,e10,k11,e11,c6,c10⟩:=hs;dsimp only at k2 k3 k6 e6 k10 e10 k11 e11 c6 c10;have hF:=aVm w a left o (tO _) pa pb hfit (en:=en) (cnt:=cnt);rw[of_,on]at hF;rw[is];simp only[go_sem,kK,k2,k3,k6,e6,k11,e11]
  refine hF.mono ?_
  rintro x en1 cnt1 (⟨h120,rfl,old,up⟩|⟨h120,hO1⟩)
  ·have q10:=old 10 0 (by omega)
   rw[e10]at q10;obtain⟨g16,hg16⟩: ∃g,g=cnt1 0 16:=⟨_,rfl⟩
   have e:aBs w a left o=dL (bG w a 4) a 19 0 bT:=by
    unfold aBs iW;simp only[if_pos h120];rw[if_pos (show(bG w a 4).what=1 from rfl)]
   rw[e];have hE:=nH (bG w a 4) a 19 0 bT;have dw:decide ((bG w a 4).what=1)=true:=rfl;simp only[go_sem,kK,<-hg16,dw]
   refine aH ?_
   simp only[go_sem,k2,k10,q10,nX.ret,hE.ret,kA,bS0,if_false]
  ·have q10:=hO1.old 10 0 (by omega)
   rw[e10]at q10;obtain⟨g16,hg16⟩: ∃g,g=cnt1 0 16:=⟨_,rfl⟩
   obtain⟨g71,hg71⟩: ∃g,g=cnt1 0 71:=⟨_,rfl⟩
   have e:aBs w a left o=dL ⟨rR (cC (eF w o) a left (dQ w.objs.length)).w,0,eM⟩ a 19 0 bT:=by
    unfold aBs iW;simp only[if_neg (show¬120<=w.objs.length by omega)];rw[if_neg (by simp[cC])];rfl
   rw[e];have hE:=nH ⟨rR (cC (eF w o) a left (dQ w.objs.length)).w,0,eM⟩ a 19 0 bT
   try simp only[]at hE
   have hle:(cC (eF w o) a left (dQ w.objs.length)).w.objs.length=w.objs.length+1:=by simp only[cC,rU,nZ]
   have hlt:(cC (eF w o) a left (dQ w.objs.length)).w.tasks.length=w.tasks.length:=rfl;have hfl:=hfit.len;generalize hW:(cC (eF w o) a left (dQ w.objs.length)).w=W at hO1 hE hle hlt⊢;obtain⟨⟨g5,g8,vU,vI,rfl,e5,l5,m5,e8,l8,m8,mU,mI⟩,old,up⟩:=hO1;have hwr:IntKind.i64.wrap ((W.objs.length:Int)-1)=(W.objs.length:Int)-1:=aV (by omega)
   have hl16:W.tasks.length+1<=16777216:=by omega
   have t1:((W.objs.map aP.enc).take W.objs.length)=W.objs.map aP.enc:=bTh (by simp)
   have t3:((W.outs.map bO.enc).take W.outs.length)=W.outs.map bO.enc:=bTh (by simp)
   have t4:((W.ins.map (Val.int .i64)).take W.ins.length)=W.ins.map (.int .i64):=bTh (by simp)
   simp only[rR,eM,iV,bT0,bTv,bTe]at hE;have eU:=True.intro;have eI:=True.intro;rcases mU with⟨rfl,hu⟩|⟨gU,rfl,eU,lU,hu⟩<;>rcases mI with⟨rfl,hi⟩|⟨gI,rfl,eI,lI,hi⟩
   all_goals
    try rw[hu]at hE
    try rw[hi]at hE
    simp only[go_sem,kK,<-hg16,<-hg71,e8,kB,hwr,bW,eP,wN,mA,bDu,hl16,bSy,bSx]
    refine aH ?_
    simp only[go_sem,k2,k10,q10,e5,eU,eI,t1,t3,t4,bSy,bTg,bVn,bTh,bSx,nX.ret,hE.ret,kA,bS0,if_false];rfl
theorem aNr (h:eS p n=true):1<=n.op/\ n.op<=28:=by
 have:=oR h;unfold fP at this
 repeat' split at this
 all_goals omega
theorem aNs {q:Pat}{cons:List dC}(h:nV cons q=true):qB q<=1000:=by
 simp only[nV,bSw,bWo]at h;have:=aVn q 12 (by omega) h.1
 omega
theorem aYu (h:inR i 0 ((l.length:Int)-1)=true):mH 2 en (.fz (l.map aE.enc)) (.i i)=some {v:= .fp [.i (aF l i.toNat).kind,.i (aF l i.toNat).n] 0}:=aEa (f:=aE.enc) (size:=2) iV h fun _=>rfl
theorem aYv (h:inR i 0 ((n.kids.length:Int)-1)=true):mH 1 en (.fz (n.kids.map (.int .i64))) (.i i)=some {v:= .fp [.i (pK n i)] 0}:=yK h
theorem aSn (h:0<n.kids.length):mH 1 en (.fz (n.kids.map (.int .i64))) (.i 0)=some {v:= .fp [.i (pK n 0)] 0}:=yK (i:=0) (by simp only[inR,bWo];omega)
theorem bGl (h:1<n.kids.length):mH 1 en (.fz (n.kids.map (.int .i64))) (.i 1)=some {v:= .fp [.i (pK n 1)] 0}:=yK (i:=1) (by simp only[inR,bWo];omega)
structure D0 (p:aD) (w0:aA) (S:Nat->Prop) (w:aA) (a:Int) (left:List aB) (f:aB) (n:aL) (k:Int):Prop where
 hp:eQ p
 hsp:aU p=true
 h:cP p w0 S w
 ha:inR a 0 ((w.tasks.length:Int)-1)=true
 hl:LOk p S w left
 hf:FOk p S w f
 hn:p.node f.node=n
 hfull:(f.vals.length:Int)=n.asks
 hop:n.op=k
theorem D0.all {k:Int}(d:D0 p w0 S w a left f n k):eQ p/\ aU p=true/\ cP p w0 S w/\ inR a 0 ((w.tasks.length:Int)-1)=true/\ LOk p S w left/\ FOk p S w f/\ p.node f.node=n/\ (f.vals.length:Int)=n.asks/\ n.op=k/\ Fit w a/\ inR f.node 0 ((p.nodes.length:Int)-1)=true/\ eS p n=true/\ (n.kids.length:Int)=fP n.op n.pats.length (pX p n)/\ left.length<=40/\ (f.env.length:Int)<=30:=by
 obtain⟨hp,hsp,h,ha,hl,hf,hn,hfull,hop⟩:=d;have hni:=fX hf;have hok:=hp.nodes _ (jE hni);rw[hn]at hok;have hfo:=hf.ok;simp only[dN,bC,bSw,bWo]at hfo;exact⟨hp,hsp,h,ha,hl,hf,hn,hfull,hop,wV h ha,hni,hok,oR hok,hl.len,hfo.1.2.1⟩
abbrev PD (p:aD)(w:aA)(a:Int)(left:List aB)(f:aB)(r:Did):Prop:=PC L 84 [.agg p.cs,.agg w.cs,.i a,.fz (left.map aB.enc),.agg [.i f.node,.fz (f.env.map aE.enc),.fz (f.vals.map aE.enc)]] (.agg [.fz (r.w.objs.map aP.enc),.fz (r.w.tasks.map (.int .i64)),.fz (r.w.outs.map bO.enc),.fz (r.w.ins.map (.int .i64)),.i r.w.used,.i r.what,.i r.e.task,.i r.e.act,.i r.e.n,.i r.e.v.kind,.i r.e.v.n])
noncomputable def c84 :{c//L 84=some c}:=cA func84
theorem bD1 (d:D0 p w0 S w a left f n 1):PD p w a left f (bV p w a left f n):=by
 obtain⟨hp,hsp,h,ha,hl,hf,hn,hfull,hop,hfit,hni,hok,hkd,hlen,hfo⟩:=d.all;have e:bV p w a left f n=cC w a left (nP n.n):=by unfold bV;simp[hop]
 rw[e];have hB:=kD w a left (nP n.n) hfit
 refine cD c84.2 rfl rfl ?_
 simp only[go_sem,kK,c84]
 refine aH ?_
 simp only[go_sem,kK,hop,hn,bM hni,kA,bS0,if_false]
 refine aH ?_
 simp only[go_sem,(aFb _).ret,hB.ret,kA,bS0,if_false]
theorem bD2 (d:D0 p w0 S w a left f n 2):PD p w a left f (bV p w a left f n):=by
 obtain⟨hp,hsp,h,ha,hl,hf,hn,hfull,hop,hfit,hni,hok,hkd,hlen,hfo⟩:=d.all;have e:bV p w a left f n=cC w a left (nW (decide (n.n=1))):=by unfold bV;simp[hop]
 rw[e];have hB:=kD w a left (nW (decide (n.n=1))) hfit
 refine cD c84.2 rfl rfl ?_
 simp only[go_sem,kK,c84]
 refine aH ?_
 simp only[go_sem,kK,hop,hn,bM hni,kA,bS0,if_false]
 refine aH ?_
 simp only[go_sem,(aK2 _).ret,hB.ret,kA,bS0,if_false]
theorem bD3 (d:D0 p w0 S w a left f n 3):PD p w a left f (bV p w a left f n):=by
 obtain⟨hp,hsp,h,ha,hl,hf,hn,hfull,hop,hfit,hni,hok,hkd,hlen,hfo⟩:=d.all;have e:bV p w a left f n=cC w a left bT:=by unfold bV;simp[hop]
 rw[e];have hB:=kD w a left bT hfit
 refine cD c84.2 rfl rfl ?_
 simp only[go_sem,kK,c84]
 refine aH ?_
 simp only[go_sem,kK,hop,hn,bM hni,kA,bS0,if_false]
 refine aH ?_
 simp only[go_sem,nX.ret,hB.ret,kA,bS0,if_false]
theorem bD4 (d:D0 p w0 S w a left f n 4):PD p w a left f (bV p w a left f n):=by
 obtain⟨hp,hsp,h,ha,hl,hf,hn,hfull,hop,hfit,hni,hok,hkd,hlen,hfo⟩:=d.all;have e:bV p w a left f n=if n.n<0 then cC w a left ⟨4,-1-n.n⟩else if(f.env.length:Int)<=n.n then bG w a 2 else cC w a left (aF f.env n.n.toNat):=by unfold bV;simp[hop]
 rw[e];have hF:=gR w a 2 hfit;have hnum:oV p n=true:=by simp only[eS,bSw]at hok;exact hok.1.1.1
 simp only[oV,hop]at hnum;simp[inR]at hnum;have hwn:IntKind.i64.wrap (-1-n.n)= -1-n.n:=aV (by have:=hp.main;simp only[inR,bWo]at this;have hsl:=hsp;simp only[aU,bSw,bWo]at hsl;omega)
 by_cases hneg:n.n<0
 ·have d0:decide (n.n<0)=true:=D_t hneg;rw[if_pos hneg];have hB:=kD w a left ⟨4,-1-n.n⟩ hfit
  refine cD c84.2 rfl rfl ?_
  simp only[go_sem,kK,c84]
  refine aH ?_
  simp only[go_sem,kK,hop,hn,bM hni,d0,hwn,hB.ret,kA,bS0,if_false]
 ·have d0:decide (n.n<0)=false:=D_f hneg;rw[if_neg hneg]
  by_cases hge:(f.env.length:Int)<=n.n
  ·have d1:decide ((f.env.length:Int)<=n.n)=true:=D_t hge;rw[if_pos hge]
   refine cD c84.2 rfl rfl ?_
   simp only[go_sem,kK,c84]
   refine aH ?_
   simp only[go_sem,kK,hop,hn,bM hni,d0,d1,hF.ret,kA,bS0,if_false]
  ·have d1:decide ((f.env.length:Int)<=n.n)=false:=D_f hge;rw[if_neg hge];have hB:=kD w a left (aF f.env n.n.toNat) hfit;have hi:=aEa (f:=aE.enc) (size:=2) (k:= .i64) (l:=f.env) (i:=n.n) iV (by simp only[inR,bWo];omega) (fun _=>rfl) (en:=fun _=>none)
   refine cD c84.2 rfl rfl ?_
   simp only[go_sem,kK,c84]
   refine aH ?_
   simp only[go_sem,kK,hop,hn,bM hni,d0,d1,aYu (show inR n.n 0 ((f.env.length:Int)-1)=true by simp only[inR,bWo];omega),hB.ret,kA,bS0,if_false]
theorem bD5 (d:D0 p w0 S w a left f n 5):PD p w a left f (bV p w a left f n):=by
 obtain⟨hp,hsp,h,ha,hl,hf,hn,hfull,hop,hfit,hni,hok,hkd,hlen,hfo⟩:=d.all;have e:bV p w a left f n=iW w a left ⟨2,f.node,f.env,[]⟩:=by unfold bV;simp[hop]
 rw[e];have hM:=aK5 w a left ⟨2,f.node,f.env,[]⟩ hfit;simp only[bTe]at hM
 refine cD c84.2 rfl rfl ?_
 simp only[go_sem,kK,c84]
 refine aH ?_
 simp only[go_sem,kK,hop,hn,bM hni,hM.ret,kA,bS0,if_false]
theorem bD6 (d:D0 p w0 S w a left f n 6):PD p w a left f (bV p w a left f n):=by
 obtain⟨hp,hsp,h,ha,hl,hf,hn,hfull,hop,hfit,hni,hok,hkd,hlen,hfo⟩:=d.all;have e:bV p w a left f n=fK p w a left (aF f.vals 0) (aF f.vals 1):=by unfold bV;simp[hop]
 rw[e];have hq:n.asks=2:=by simp[aL.asks,hop]
 have h0:0<f.vals.length:=by omega
 have h1:1<f.vals.length:=by omega
 have v0:=hf.vals (dO h0);have v1:=hf.vals (dO h1);have hA:=aXn hp h ha hl v0 v1
 refine cD c84.2 rfl rfl ?_
 simp only[go_sem,kK,c84]
 refine aH ?_
 simp only[go_sem,kK,hop,hn,bM hni,aT h0,gX h1,hA.ret,kA,bS0,if_false]
theorem bD7 (d:D0 p w0 S w a left f n 7):PD p w a left f (bV p w a left f n):=by
 obtain⟨hp,hsp,h,ha,hl,hf,hn,hfull,hop,hfit,hni,hok,hkd,hlen,hfo⟩:=d.all;have e:bV p w a left f n=iD w a left (pK n 1) (f.env++[aF f.vals 0]):=by unfold bV;simp[hop]
 rw[e];have hq:n.asks=1:=by simp[aL.asks,hop]
 have h0:0<f.vals.length:=by omega
 have hkc:(n.kids.length:Int)=2:=by rw[hkd];simp[fP,hop]
 have hk1:1<n.kids.length:=by omega
 have hM:=aGr f.env (aF f.vals 0) (by omega)
 have hN:=aDv w a left (pK n 1) (f.env++[aF f.vals 0]) hfit (by omega)
 refine cD c84.2 rfl rfl ?_
 simp only[go_sem,kK,c84]
 refine aH ?_
 simp only[go_sem,kK,hop,hn,bM hni,kA,bS0,if_false]
 refine aH ?_
 simp only[go_sem,aT h0,bGl hk1,hM.ret,hN.ret,kA,bS0,if_false]
theorem bD8 (d:D0 p w0 S w a left f n 8):PD p w a left f (bV p w a left f n):=by
 obtain⟨hp,hsp,h,ha,hl,hf,hn,hfull,hop,hfit,hni,hok,hkd,hlen,hfo⟩:=d.all;have e:bV p w a left f n=if¬(aF f.vals 0).kind=2 then bG w a 2 else iD w a left (pK n (2-(aF f.vals 0).n)) f.env:=by unfold bV;simp[hop]
 rw[e];have hF:=gR w a 2 hfit;have hq:n.asks=1:=by simp[aL.asks,hop]
 have h0:0<f.vals.length:=by omega
 have v0:=hf.vals (dO h0);have hkc:(n.kids.length:Int)=3:=by rw[hkd];simp[fP,hop]
 by_cases hk2:(aF f.vals 0).kind=2
 ·have d1:decide ((aF f.vals 0).kind=2)=true:=D_t hk2;rw[if_neg (fun h=>h hk2)]
  have hvo:=v0.ok;simp only[dR,hk2]at hvo;simp[inR]at hvo;have hw2:IntKind.i64.wrap (2-(aF f.vals 0).n)=2-(aF f.vals 0).n:=aV (by omega)
  have hN:=aDv w a left (pK n (2-(aF f.vals 0).n)) f.env hfit (by omega)
  refine cD c84.2 rfl rfl ?_
  simp only[go_sem,kK,c84]
  refine aH ?_
  simp only[go_sem,kK,hop,hn,bM hni,aT h0,d1,hw2,aYv (show inR (2-(aF f.vals 0).n) 0 ((n.kids.length:Int)-1)=true by simp only[inR,bWo];omega),hN.ret,kA,bS0,if_false]
 ·have d1:decide ((aF f.vals 0).kind=2)=false:=D_f hk2;rw[if_pos hk2]
  refine cD c84.2 rfl rfl ?_
  simp only[go_sem,kK,c84]
  refine aH ?_
  simp only[go_sem,kK,hop,hn,bM hni,aT h0,d1,hF.ret,kA,bS0,if_false]
theorem bD9 (d:D0 p w0 S w a left f n 9):PD p w a left f (bV p w a left f n):=by
 obtain⟨hp,hsp,h,ha,hl,hf,hn,hfull,hop,hfit,hni,hok,hkd,hlen,hfo⟩:=d.all;have e:bV p w a left f n=cN w a left 9 (aF f.vals 0) (aF f.vals 1):=by unfold bV;simp[hop]
 rw[e];have hq:n.asks=2:=by simp[aL.asks,hop]
 have h0:0<f.vals.length:=by omega
 have h1:1<f.vals.length:=by omega
 have v0:=hf.vals (dO h0);have v1:=hf.vals (dO h1);have hA:=wX (left:=left) (op:=9) h ha v0 v1 (by omega)
 refine cD c84.2 rfl rfl ?_
 simp only[go_sem,kK,c84]
 refine aH ?_
 simp only[go_sem,kK,hop,hn,bM hni,aT h0,gX h1,hA.ret,kA,bS0,if_false]
theorem bAo (d:D0 p w0 S w a left f n 10):PD p w a left f (bV p w a left f n):=by
 obtain⟨hp,hsp,h,ha,hl,hf,hn,hfull,hop,hfit,hni,hok,hkd,hlen,hfo⟩:=d.all;have e:bV p w a left f n=cN w a left 10 (aF f.vals 0) (aF f.vals 1):=by unfold bV;simp[hop]
 rw[e];have hq:n.asks=2:=by simp[aL.asks,hop]
 have h0:0<f.vals.length:=by omega
 have h1:1<f.vals.length:=by omega
 have v0:=hf.vals (dO h0);have v1:=hf.vals (dO h1);have hA:=wX (left:=left) (op:=10) h ha v0 v1 (by omega)
 refine cD c84.2 rfl rfl ?_
 simp only[go_sem,kK,c84]
 refine aH ?_
 simp only[go_sem,kK,hop,hn,bM hni,aT h0,gX h1,hA.ret,kA,bS0,if_false]
theorem bAp (d:D0 p w0 S w a left f n 11):PD p w a left f (bV p w a left f n):=by
 obtain⟨hp,hsp,h,ha,hl,hf,hn,hfull,hop,hfit,hni,hok,hkd,hlen,hfo⟩:=d.all;have e:bV p w a left f n=cN w a left 11 (aF f.vals 0) (aF f.vals 1):=by unfold bV;simp[hop]
 rw[e];have hq:n.asks=2:=by simp[aL.asks,hop]
 have h0:0<f.vals.length:=by omega
 have h1:1<f.vals.length:=by omega
 have v0:=hf.vals (dO h0);have v1:=hf.vals (dO h1);have hA:=wX (left:=left) (op:=11) h ha v0 v1 (by omega)
 refine cD c84.2 rfl rfl ?_
 simp only[go_sem,kK,c84]
 refine aH ?_
 simp only[go_sem,kK,hop,hn,bM hni,aT h0,gX h1,hA.ret,kA,bS0,if_false]
theorem bAq (d:D0 p w0 S w a left f n 12):PD p w a left f (bV p w a left f n):=by
 obtain⟨hp,hsp,h,ha,hl,hf,hn,hfull,hop,hfit,hni,hok,hkd,hlen,hfo⟩:=d.all;have e:bV p w a left f n=cN w a left 12 (aF f.vals 0) (aF f.vals 1):=by unfold bV;simp[hop]
 rw[e];have hq:n.asks=2:=by simp[aL.asks,hop]
 have h0:0<f.vals.length:=by omega
 have h1:1<f.vals.length:=by omega
 have v0:=hf.vals (dO h0);have v1:=hf.vals (dO h1);have hA:=wX (left:=left) (op:=12) h ha v0 v1 (by omega)
 refine cD c84.2 rfl rfl ?_
 simp only[go_sem,kK,c84]
 refine aH ?_
 simp only[go_sem,kK,hop,hn,bM hni,aT h0,gX h1,hA.ret,kA,bS0,if_false]
theorem bAr (d:D0 p w0 S w a left f n 13):PD p w a left f (bV p w a left f n):=by
 obtain⟨hp,hsp,h,ha,hl,hf,hn,hfull,hop,hfit,hni,hok,hkd,hlen,hfo⟩:=d.all;have e:bV p w a left f n=cN w a left 13 (aF f.vals 0) (aF f.vals 1):=by unfold bV;simp[hop]
 rw[e];have hq:n.asks=2:=by simp[aL.asks,hop]
 have h0:0<f.vals.length:=by omega
 have h1:1<f.vals.length:=by omega
 have v0:=hf.vals (dO h0);have v1:=hf.vals (dO h1);have hA:=wX (left:=left) (op:=13) h ha v0 v1 (by omega)
 refine cD c84.2 rfl rfl ?_
 simp only[go_sem,kK,c84]
 refine aH ?_
 simp only[go_sem,kK,hop,hn,bM hni,aT h0,gX h1,hA.ret,kA,bS0,if_false]
theorem bAs (d:D0 p w0 S w a left f n 14):PD p w a left f (bV p w a left f n):=by
 obtain⟨hp,hsp,h,ha,hl,hf,hn,hfull,hop,hfit,hni,hok,hkd,hlen,hfo⟩:=d.all;have e:bV p w a left f n=iW w a left ⟨1,n.n,f.vals,[]⟩:=by unfold bV;simp[hop]
 rw[e];have hM:=aK5 w a left ⟨1,n.n,f.vals,[]⟩ hfit;simp only[bTe]at hM
 refine cD c84.2 rfl rfl ?_
 simp only[go_sem,kK,c84]
 refine aH ?_
 simp only[go_sem,kK,hop,hn,bM hni,hM.ret,kA,bS0,if_false]
theorem bAt (d:D0 p w0 S w a left f n 15):PD p w a left f (bV p w a left f n):=by
 obtain⟨hp,hsp,h,ha,hl,hf,hn,hfull,hop,hfit,hni,hok,hkd,hlen,hfo⟩:=d.all;have e:bV p w a left f n=kX w a left n f.env (aF f.vals 0):=by unfold bV;simp[hop]
 rw[e];have hq:n.asks=1:=by simp[aL.asks,hop]
 have h0:0<f.vals.length:=by omega
 have v0:=hf.vals (dO h0);have hkc:(n.kids.length:Int)=1+n.pats.length:=by rw[hkd];simp[fP,hop]
 have hsn:gQ n=true:=by rw[<-hn];simp only[aU,bSw,bS5]at hsp;exact hsp.2 _ (jE hni)
 simp only[gQ,bSw,bWo]at hsn;have hpf: ∀q∈n.pats,qB q<=1000:=fun q hq=>by simp only[eS,bSw,bS5]at hok;exact aNs (hok.1.2 q hq)
 have hA:=aXo h ha hl n f.env v0 (by omega) (by omega) hpf (by omega)
 rw[hop]at hA
 refine cD c84.2 rfl rfl ?_
 simp only[go_sem,kK,c84]
 refine aH ?_
 simp only[go_sem,kK,hop,hn,bM hni,aT h0,hA.ret,kA,bS0,if_false]
theorem bAu (d:D0 p w0 S w a left f n 26):PD p w a left f (bV p w a left f n):=by
 obtain⟨hp,hsp,h,ha,hl,hf,hn,hfull,hop,hfit,hni,hok,hkd,hlen,hfo⟩:=d.all;have e:bV p w a left f n=cC w a left (aF f.vals 0):=by unfold bV;simp[hop]
 rw[e];have hq:n.asks=1:=by simp[aL.asks,hop]
 have h0:0<f.vals.length:=by omega
 have hB:=kD w a left (aF f.vals 0) hfit
 refine cD c84.2 rfl rfl ?_
 simp only[go_sem,kK,c84]
 refine aH ?_
 simp only[go_sem,kK,hop,hn,bM hni,aT h0,hB.ret,kA,bS0,if_false]
theorem bAv (d:D0 p w0 S w a left f n 27):PD p w a left f (bV p w a left f n):=by
 obtain⟨hp,hsp,h,ha,hl,hf,hn,hfull,hop,hfit,hni,hok,hkd,hlen,hfo⟩:=d.all;have e:bV p w a left f n=fL p w a left (pK n 0) f.env:=by unfold bV;simp[hop]
 rw[e];have hkc:(n.kids.length:Int)=1:=by rw[hkd];simp[fP,hop]
 have hk0:0<n.kids.length:=by omega
 have hA:=aXp h ha hl (kid:=pK n 0) (env:=f.env) (by omega)
 refine cD c84.2 rfl rfl ?_
 simp only[go_sem,kK,c84]
 refine aH ?_
 simp only[go_sem,kK,hop,hn,bM hni,aSn hk0,hA.ret,kA,bS0,if_false]
theorem bAw (d:D0 p w0 S w a left f n 16):PD p w a left f (bV p w a left f n):=by
 obtain⟨hp,hsp,h,ha,hl,hf,hn,hfull,hop,hfit,hni,hok,hkd,hlen,hfo⟩:=d.all;have e:bV p w a left f n=eZ w a left 16 f.vals:=by unfold bV;simp[hop]
 rw[e];have hq:n.asks=1:=by simp[aL.asks,hop]
 have h0:0<f.vals.length:=by omega
 have hA:=aIr (left:=left) (op:=16) h ha (fun v hv=>hf.vals hv) h0 (by omega)
 refine cD c84.2 rfl rfl ?_
 simp only[go_sem,kK,c84]
 refine aH ?_
 simp only[go_sem,kK,hop,hn,bM hni,hA.ret,kA,bS0,if_false]
theorem bAx (d:D0 p w0 S w a left f n 17):PD p w a left f (bV p w a left f n):=by
 obtain⟨hp,hsp,h,ha,hl,hf,hn,hfull,hop,hfit,hni,hok,hkd,hlen,hfo⟩:=d.all;have e:bV p w a left f n=eZ w a left 17 f.vals:=by unfold bV;simp[hop]
 rw[e];have hq:n.asks=1:=by simp[aL.asks,hop]
 have h0:0<f.vals.length:=by omega
 have hA:=aIr (left:=left) (op:=17) h ha (fun v hv=>hf.vals hv) h0 (by omega)
 refine cD c84.2 rfl rfl ?_
 simp only[go_sem,kK,c84]
 refine aH ?_
 simp only[go_sem,kK,hop,hn,bM hni,hA.ret,kA,bS0,if_false]
theorem bAy (d:D0 p w0 S w a left f n 18):PD p w a left f (bV p w a left f n):=by
 obtain⟨hp,hsp,h,ha,hl,hf,hn,hfull,hop,hfit,hni,hok,hkd,hlen,hfo⟩:=d.all;have e:bV p w a left f n=eZ w a left 18 f.vals:=by unfold bV;simp[hop]
 rw[e];have hq:n.asks=2:=by simp[aL.asks,hop]
 have h0:0<f.vals.length:=by omega
 have hA:=aIr (left:=left) (op:=18) h ha (fun v hv=>hf.vals hv) h0 (by omega)
 refine cD c84.2 rfl rfl ?_
 simp only[go_sem,kK,c84]
 refine aH ?_
 simp only[go_sem,kK,hop,hn,bM hni,hA.ret,kA,bS0,if_false]
theorem bAz (d:D0 p w0 S w a left f n 19):PD p w a left f (bV p w a left f n):=by
 obtain⟨hp,hsp,h,ha,hl,hf,hn,hfull,hop,hfit,hni,hok,hkd,hlen,hfo⟩:=d.all;have e:bV p w a left f n=eR p w a left (aF f.vals 0):=by unfold bV;simp[hop]
 rw[e];have hq:n.asks=1:=by simp[aL.asks,hop]
 have h0:0<f.vals.length:=by omega
 have v0:=hf.vals (dO h0);have hA:=aXq (left:=left) hp h ha v0
 refine cD c84.2 rfl rfl ?_
 simp only[go_sem,kK,c84]
 refine aH ?_
 simp only[go_sem,kK,hop,hn,bM hni,aT h0,hA.ret,kA,bS0,if_false]
theorem bA0 (d:D0 p w0 S w a left f n 20):PD p w a left f (bV p w a left f n):=by
 obtain⟨hp,hsp,h,ha,hl,hf,hn,hfull,hop,hfit,hni,hok,hkd,hlen,hfo⟩:=d.all;have e:bV p w a left f n=gV w a left (aF f.vals 0):=by unfold bV;simp[hop]
 rw[e];have hq:n.asks=1:=by simp[aL.asks,hop]
 have h0:0<f.vals.length:=by omega
 have v0:=hf.vals (dO h0);have hA:=bAn (left:=left) h ha v0
 refine cD c84.2 rfl rfl ?_
 simp only[go_sem,kK,c84]
 refine aH ?_
 simp only[go_sem,kK,hop,hn,bM hni,aT h0,hA.ret,kA,bS0,if_false]
theorem bA1 (d:D0 p w0 S w a left f n 21):PD p w a left f (bV p w a left f n):=by
 obtain⟨hp,hsp,h,ha,hl,hf,hn,hfull,hop,hfit,hni,hok,hkd,hlen,hfo⟩:=d.all;have e:bV p w a left f n=dL (iW w a left ⟨4,0,[],[]⟩) a 21 0 bT:=by unfold bV;simp[hop]
 rw[e];have hM:=aK5 w a left ⟨4,0,[],[]⟩ hfit;have hE:=nH (iW w a left ⟨4,0,[],[]⟩) a 21 0 bT;simp only[bTe]at hM
 refine cD c84.2 rfl rfl ?_
 simp only[go_sem,kK,c84]
 refine aH ?_
 simp only[go_sem,kK,hop,hn,bM hni,kA,bS0,if_false]
 refine aH ?_
 simp only[go_sem,hM.ret,nX.ret,hE.ret,kA,bS0,if_false]
theorem bA2 (d:D0 p w0 S w a left f n 22):PD p w a left f (bV p w a left f n):=by
 obtain⟨hp,hsp,h,ha,hl,hf,hn,hfull,hop,hfit,hni,hok,hkd,hlen,hfo⟩:=d.all;have e:bV p w a left f n=cE w a left 22 f.vals:=by unfold bV;simp[hop]
 rw[e];have hq:n.asks=2:=by simp[aL.asks,hop]
 have h0:0<f.vals.length:=by omega
 have hA:=aHa (left:=left) (op:=22) h ha (fun v hv=>hf.vals hv) h0 (by omega)
 refine cD c84.2 rfl rfl ?_
 simp only[go_sem,kK,c84]
 refine aH ?_
 simp only[go_sem,kK,hop,hn,bM hni,hA.ret,kA,bS0,if_false]
theorem bA3 (d:D0 p w0 S w a left f n 23):PD p w a left f (bV p w a left f n):=by
 obtain⟨hp,hsp,h,ha,hl,hf,hn,hfull,hop,hfit,hni,hok,hkd,hlen,hfo⟩:=d.all;have e:bV p w a left f n=cE w a left 23 f.vals:=by unfold bV;simp[hop]
 rw[e];have hq:n.asks=1:=by simp[aL.asks,hop]
 have h0:0<f.vals.length:=by omega
 have hA:=aHa (left:=left) (op:=23) h ha (fun v hv=>hf.vals hv) h0 (by omega)
 refine cD c84.2 rfl rfl ?_
 simp only[go_sem,kK,c84]
 refine aH ?_
 simp only[go_sem,kK,hop,hn,bM hni,hA.ret,kA,bS0,if_false]
theorem bA4 (d:D0 p w0 S w a left f n 24):PD p w a left f (bV p w a left f n):=by
 obtain⟨hp,hsp,h,ha,hl,hf,hn,hfull,hop,hfit,hni,hok,hkd,hlen,hfo⟩:=d.all;have e:bV p w a left f n=dM w a left 24 n.n f.vals:=by unfold bV;simp[hop]
 rw[e];have hq:n.asks=1:=by simp[aL.asks,hop]
 have h0:0<f.vals.length:=by omega
 have hA:=aNq (left:=left) h ha n (fun v hv=>hf.vals hv) (.inr ⟨hop,h0⟩)
 rw[hop]at hA
 refine cD c84.2 rfl rfl ?_
 simp only[go_sem,kK,c84]
 refine aH ?_
 simp only[go_sem,kK,hop,hn,bM hni,hA.ret,kA,bS0,if_false]
theorem bA5 (d:D0 p w0 S w a left f n 25):PD p w a left f (bV p w a left f n):=by
 obtain⟨hp,hsp,h,ha,hl,hf,hn,hfull,hop,hfit,hni,hok,hkd,hlen,hfo⟩:=d.all;have e:bV p w a left f n=dM w a left 25 n.n f.vals:=by unfold bV;simp[hop]
 rw[e];have hA:=aNq (left:=left) h ha n (fun v hv=>hf.vals hv) (.inl hop)
 rw[hop]at hA
 refine cD c84.2 rfl rfl ?_
 simp only[go_sem,kK,c84]
 refine aH ?_
 simp only[go_sem,kK,hop,hn,bM hni,hA.ret,kA,bS0,if_false]
theorem bA6 (d:D0 p w0 S w a left f n 28):PD p w a left f (bV p w a left f n):=by
 obtain⟨hp,hsp,h,ha,hl,hf,hn,hfull,hop,hfit,hni,hok,hkd,hlen,hfo⟩:=d.all;have e:bV p w a left f n=dL (cC w a left bT) a 28 0 bT:=by unfold bV;simp[hop]
 rw[e];have hB:=kD w a left bT hfit;have hE:=nH (cC w a left bT) a 28 0 bT
 refine cD c84.2 rfl rfl ?_
 simp only[go_sem,kK,c84]
 refine aH ?_
 simp only[go_sem,kK,hop,hn,bM hni,kA,bS0,if_false]
 refine aH ?_
 simp only[go_sem,nX.ret,hB.ret,hE.ret,kA,bS0,if_false]
theorem bGm (hp:eQ p)(hsp:aU p=true)(h:cP p w0 S w)(ha:inR a 0 ((w.tasks.length:Int)-1)=true)(hl:LOk p S w left)(hf:FOk p S w f)(hfull:(f.vals.length:Int)=(p.node f.node).asks):
  PC L 84 [.agg p.cs,.agg w.cs,.i a,.fz (left.map aB.enc),.agg [.i f.node,.fz (f.env.map aE.enc),.fz (f.vals.map aE.enc)]] (.agg [.fz ((qL p w a left f).w.objs.map aP.enc),.fz ((qL p w a left f).w.tasks.map (.int .i64)),.fz ((qL p w a left f).w.outs.map bO.enc),.fz ((qL p w a left f).w.ins.map (.int .i64)),.i (qL p w a left f).w.used,.i (qL p w a left f).what,.i (qL p w a left f).e.task,.i (qL p w a left f).e.act,.i (qL p w a left f).e.n,.i (qL p w a left f).e.v.kind,.i (qL p w a left f).e.v.n]):=by
 obtain⟨o1,o2⟩:=aNr (hp.nodes _ (jE (fX hf)));have ho:(p.node f.node).op=1 \/(p.node f.node).op=2 \/(p.node f.node).op=3 \/(p.node f.node).op=4 \/(p.node f.node).op=5 \/(p.node f.node).op=6 \/(p.node f.node).op=7 \/(p.node f.node).op=8 \/(p.node f.node).op=9 \/(p.node f.node).op=10 \/(p.node f.node).op=11 \/(p.node f.node).op=12 \/(p.node f.node).op=13 \/(p.node f.node).op=14 \/(p.node f.node).op=15 \/(p.node f.node).op=16 \/(p.node f.node).op=17 \/(p.node f.node).op=18 \/(p.node f.node).op=19 \/(p.node f.node).op=20 \/(p.node f.node).op=21 \/(p.node f.node).op=22 \/(p.node f.node).op=23 \/(p.node f.node).op=24 \/(p.node f.node).op=25 \/(p.node f.node).op=26 \/(p.node f.node).op=27 \/(p.node f.node).op=28:=by omega
 unfold qL;rcases ho with ho|ho|ho|ho|ho|ho|ho|ho|ho|ho|ho|ho|ho|ho|ho|ho|ho|ho|ho|ho|ho|ho|ho|ho|ho|ho|ho|ho
 ·exact bD1 ⟨hp,hsp,h,ha,hl,hf,rfl,hfull,ho⟩
 ·exact bD2 ⟨hp,hsp,h,ha,hl,hf,rfl,hfull,ho⟩
 ·exact bD3 ⟨hp,hsp,h,ha,hl,hf,rfl,hfull,ho⟩
 ·exact bD4 ⟨hp,hsp,h,ha,hl,hf,rfl,hfull,ho⟩
 ·exact bD5 ⟨hp,hsp,h,ha,hl,hf,rfl,hfull,ho⟩
 ·exact bD6 ⟨hp,hsp,h,ha,hl,hf,rfl,hfull,ho⟩
 ·exact bD7 ⟨hp,hsp,h,ha,hl,hf,rfl,hfull,ho⟩
 ·exact bD8 ⟨hp,hsp,h,ha,hl,hf,rfl,hfull,ho⟩
 ·exact bD9 ⟨hp,hsp,h,ha,hl,hf,rfl,hfull,ho⟩
 ·exact bAo ⟨hp,hsp,h,ha,hl,hf,rfl,hfull,ho⟩
 ·exact bAp ⟨hp,hsp,h,ha,hl,hf,rfl,hfull,ho⟩
 ·exact bAq ⟨hp,hsp,h,ha,hl,hf,rfl,hfull,ho⟩
 ·exact bAr ⟨hp,hsp,h,ha,hl,hf,rfl,hfull,ho⟩
 ·exact bAs ⟨hp,hsp,h,ha,hl,hf,rfl,hfull,ho⟩
 ·exact bAt ⟨hp,hsp,h,ha,hl,hf,rfl,hfull,ho⟩
 ·exact bAw ⟨hp,hsp,h,ha,hl,hf,rfl,hfull,ho⟩
 ·exact bAx ⟨hp,hsp,h,ha,hl,hf,rfl,hfull,ho⟩
 ·exact bAy ⟨hp,hsp,h,ha,hl,hf,rfl,hfull,ho⟩
 ·exact bAz ⟨hp,hsp,h,ha,hl,hf,rfl,hfull,ho⟩
 ·exact bA0 ⟨hp,hsp,h,ha,hl,hf,rfl,hfull,ho⟩
 ·exact bA1 ⟨hp,hsp,h,ha,hl,hf,rfl,hfull,ho⟩
 ·exact bA2 ⟨hp,hsp,h,ha,hl,hf,rfl,hfull,ho⟩
 ·exact bA3 ⟨hp,hsp,h,ha,hl,hf,rfl,hfull,ho⟩
 ·exact bA4 ⟨hp,hsp,h,ha,hl,hf,rfl,hfull,ho⟩
 ·exact bA5 ⟨hp,hsp,h,ha,hl,hf,rfl,hfull,ho⟩
 ·exact bAu ⟨hp,hsp,h,ha,hl,hf,rfl,hfull,ho⟩
 ·exact bAv ⟨hp,hsp,h,ha,hl,hf,rfl,hfull,ho⟩
 ·exact bA6 ⟨hp,hsp,h,ha,hl,hf,rfl,hfull,ho⟩
variable {V:Val}{g:Nat}
section
theorem aNt (h:TS kt kr en cnt p w a left f n back bv)(hp:eQ p)(hF:cP p w0 S w)(hu:VOk p S w u)(hb:eW p w u v=some b)(hc:b.env.length<=30):
  WIn L (.fn 309 [] []) [.ptr kt 0,.agg [.i u.kind,.i u.n],.agg [.i v.kind,.i v.n]] en cnt fun r en' cnt'=>(∃ev,iY ev (b.env.map aE.enc)/\ b.vals=[]/\ r= .tup [.agg [.i b.node,ev,.cl []],.bool true])/\ (∃bv',TS kt kr en' cnt' p w a left f n back bv')/\ eC kt kr en cnt en' cnt':=by
 have H:=h.pre;have ht:=h.t;have hr:=h.r
 refine jB func309 ?_
 unfold eW at hb
 by_cases h4:u.kind=4
 ·rw[if_pos h4]at hb;simp only[bSv]at hb;subst hb;have d4:decide (u.kind=4)=true:=D_t h4;have hfn:inR u.n 0 ((p.funs.length:Int)-1)=true:=by
   have:=hu.ok;simp only[dR,h4]at this
   simpa using this
  simp only[go_sem,kK,d4]
  refine aH ?_
  simp only[go_sem,ht,hr,H,kB,yK hfn,kA,kF];exact⟨⟨_,.inr rfl,rfl⟩,h.stay (fun k hk=>by simp only[hk.set]) (by(repeat refine upS ?_ (by omega));exact aO _)⟩
 ·rw[if_neg h4]at hb;have d4:decide (u.kind=4)=false:=D_f h4
  split at hb
  case isFalse=>cases hb
  rename_i h2;simp only[bSv]at hb;subst hb;obtain⟨a1,a2,a3,a4⟩:=fM hF hu h2;have hk:=a2.ok;simp only[dX,a3]at hk
  simp at hk
  obtain⟨_,⟨b1,b2⟩,b3⟩:=hk;have hkk:=oR (hp.nodes _ (jE b1));rw[b2]at hkk;simp[fP]at hkk;have hk0:inR 0 0 (((p.node (w.obj u.n).n).kids.length:Int)-1)=true:=by simp only[inR,bWo];omega
  simp only[bTg,bS8,bTd]at hc;have hW:PC L 311 [.fz ((w.obj u.n).vals.map aE.enc),.fz [.agg [.i v.kind,.i v.n]]] (.fz (((w.obj u.n).vals++[v]).map aE.enc)):=aGx (w.obj u.n).vals [v] (by simpa using hc)
  simp only[go_sem,kK,d4];obtain⟨⟨bv1,h1⟩,k1⟩:=h.stay (cnt':=aC (aC (aC cnt 0 4 (cnt 0 4+1)) 0 5 (cnt 0 5+1)) 0 6 (cnt 0 6+1)) (en':=((en.set ⟨0,4,cnt 0 4⟩ (some (.box [.i u.kind,.i u.n] false))).set ⟨0,5,cnt 0 5⟩ (some (.box [.i v.kind,.i v.n] false))).set ⟨0,6,cnt 0 6⟩ (some (.box [.i 0,.cl [],.cl []] false))) (fun k hk=>by simp only[hk.set]) (by(repeat refine upS ?_ (by omega));exact aO _)
  refine(sP h1 (gH hu) 2).mono ?_
  rintro r e1 c1 ⟨⟨x,rfl,hx⟩,⟨bv2,h2'⟩,k2⟩
  rcases hx with⟨_,hx⟩|⟨rfl,_⟩
  ·rw[h2]at hx;cases hx
  obtain⟨p5,q5⟩:=k2.loc (d:=5) (g:=cnt 0 5) (by simp only[go_sem];omega) h.okt.ne.symm h.okr.ne.symm
  obtain⟨p6,q6⟩:=k2.loc (d:=6) (g:=cnt 0 6) (by simp only[go_sem];omega) h.okt.ne.symm h.okr.ne.symm
  simp only[go_sem]at p5 p6;have ht2:=h2'.t;have hr2:=h2'.r;have z1:=h2'.okt.set;have z2:=h2'.okr.set;simp only[go_sem,kK,h2]
  refine jY ?_
  simp only[go_sem,ht2,hr2,z1,z2,p5,p6,q5.set,q6.set,bM b1,aSn (n:=p.node (w.obj u.n).n) (by omega),hW.ret,kA,kF]
  exact⟨⟨_,.inl rfl,rfl⟩,h.fin h2' (k1.trans k2) (fun k hk hj=>by simp only[hk.set,hj.set]) (by(repeat refine upS ?_ (by omega));exact aO _)⟩
theorem aJ3 (h:TS kt kr en cnt p w a left f n back bv)(hu:VOk p S w u)(hb:eW p w u v=none):
  WIn L (.fn 309 [] []) [.ptr kt 0,.agg [.i u.kind,.i u.n],.agg [.i v.kind,.i v.n]] en cnt fun r en' cnt'=>(∃x,r= .tup [.agg [.i 0,.cl [],.cl []],.bool x]/\ x=false)/\ (∃bv',TS kt kr en' cnt' p w a left f n back bv')/\ eC kt kr en cnt en' cnt':=by
 have H:=h.pre
 refine jB func309 ?_
 unfold eW at hb
 by_cases h4:u.kind=4
 ·rw[if_pos h4]at hb;cases hb
 rw[if_neg h4]at hb;have d4:decide (u.kind=4)=false:=D_f h4
 split at hb
 case isTrue=>cases hb
 rename_i h2;rw[bT9]at h2;simp only[go_sem,kK,d4];obtain⟨⟨bv1,h1⟩,k1⟩:=h.stay (cnt':=aC (aC (aC cnt 0 4 (cnt 0 4+1)) 0 5 (cnt 0 5+1)) 0 6 (cnt 0 6+1)) (en':=((en.set ⟨0,4,cnt 0 4⟩ (some (.box [.i u.kind,.i u.n] false))).set ⟨0,5,cnt 0 5⟩ (some (.box [.i v.kind,.i v.n] false))).set ⟨0,6,cnt 0 6⟩ (some (.box [.i 0,.cl [],.cl []] false))) (fun k hk=>by simp only[hk.set]) (by(repeat refine upS ?_ (by omega));exact aO _)
 refine(sP h1 (gH hu) 2).mono ?_
 rintro r e1 c1 ⟨⟨x,rfl,hx⟩,⟨bv2,h2'⟩,k2⟩
 rcases hx with⟨rfl,_⟩|⟨_,hx⟩
 case inr=>rw[h2]at hx;cases hx
 obtain⟨p6,q6⟩:=k2.loc (d:=6) (g:=cnt 0 6) (by simp only[go_sem];omega) h.okt.ne.symm h.okr.ne.symm
 simp only[go_sem]at p6;simp only[go_sem,kK,h2,p6,q6.set];exact⟨⟨false,rfl,rfl⟩,h.fin h2' (k1.trans k2) (fun k hk hj=>by simp only[hk.set,hj.set]) (by(repeat refine upS ?_ (by omega));exact aO _)⟩
theorem aNu (h:TS kt kr en cnt p w a left f n back bv)(hp:eQ p)(hF:cP p w0 S w)(hu:VOk p S w u)(hb:eW p w u v=some b)(hc:30<b.env.length):
  xI L 309 [.ptr kt 0,.agg [.i u.kind,.i u.n],.agg [.i v.kind,.i v.n]] en cnt (pY kt kr en cnt p 4):=by
 have H:=h.pre
 refine lK func309 ?_
 unfold eW at hb
 by_cases h4:u.kind=4
 ·rw[if_pos h4]at hb;simp only[bSv]at hb;subst hb
  simp at hc
 rw[if_neg h4]at hb;have d4:decide (u.kind=4)=false:=D_f h4
 split at hb
 case isFalse=>cases hb
 rename_i h2;simp only[bSv]at hb;subst hb;obtain⟨a1,a2,a3,a4⟩:=fM hF hu h2;have hk:=a2.ok;simp only[dX,a3]at hk
 simp at hk
 obtain⟨_,⟨b1,b2⟩,b3⟩:=hk;have hlen:=aFd a2.ok;have hkk:=oR (hp.nodes _ (jE b1));rw[b2]at hkk;simp[fP]at hkk;simp only[bTg,bS8,bTd]at hc;have hW:PX L 311 [.fz ((w.obj u.n).vals.map aE.enc),.fz [.agg [.i v.kind,.i v.n]]] (aGs 4):=aK3 (w.obj u.n).vals [v] (by simpa using hc) (by simp only[bS8,bTd];omega)
 simp only[go_sem,kK,d4];obtain⟨⟨bv1,h1⟩,k1⟩:=h.stay (cnt':=aC (aC (aC cnt 0 4 (cnt 0 4+1)) 0 5 (cnt 0 5+1)) 0 6 (cnt 0 6+1)) (en':=((en.set ⟨0,4,cnt 0 4⟩ (some (.box [.i u.kind,.i u.n] false))).set ⟨0,5,cnt 0 5⟩ (some (.box [.i v.kind,.i v.n] false))).set ⟨0,6,cnt 0 6⟩ (some (.box [.i 0,.cl [],.cl []] false))) (fun k hk=>by simp only[hk.set]) (by(repeat refine upS ?_ (by omega));exact aO _)
 refine(sP h1 (gH hu) 2).mono ?_
 rintro r e1 c1 ⟨⟨x,rfl,hx⟩,⟨bv2,h2'⟩,k2⟩
 rcases hx with⟨_,hx⟩|⟨rfl,_⟩
 ·rw[h2]at hx;cases hx
 obtain⟨p5,q5⟩:=k2.loc (d:=5) (g:=cnt 0 5) (by simp only[go_sem];omega) h.okt.ne.symm h.okr.ne.symm
 simp only[go_sem]at p5;have ht2:=h2'.t;have hr2:=h2'.r;have z1:=h2'.okt.set;have z2:=h2'.okr.set;simp only[go_sem,kK,h2]
 refine mN 19 rfl rfl ?_
 simp only[go_sem,bS3,bS2,ht2,hr2,z1,z2,p5,q5.set,bM b1,aSn (n:=p.node (w.obj u.n).n) (by omega),hW.ret,bUi,bUh,tE,kA,kF]
 exact⟨rfl,h.fell h2' (k1.trans k2) (fun k hk hj=>by simp only[hj.set]) (by(repeat refine upS ?_ (by omega));exact aO _)⟩
def aQk :Option fB->Val
 |none=>aR9
 |some e=>aJy e
def sE (fn:Nat)(kt kr:Key)(en:En)(cnt:Nat->Nat->Nat)(p:aD)(w:aA)(a:Int)(left:List aB)(f:aB)(n:aL):OpR->Prop
 | .go ev w' left' back=>WIn L (.fn fn [] []) [.ptr kt 0] en cnt fun r en' cnt'=>r=aQk ev/\ (∃bv',TS kt kr en' cnt' p w' a left' f n back bv')/\ eC kt kr en cnt en' cnt'
 | .wait=>WIn L (.fn fn [] []) [.ptr kt 0] en cnt fun r en' cnt'=>r=aYm/\ (∃bv',TS kt kr en' cnt' p w a left f n [] bv')/\ eC kt kr en cnt en' cnt'
 | .fail s=>xI L fn [.ptr kt 0] en cnt (pY kt kr en cnt p s)
structure Pre (p:aD) (w0:aA) (S:Nat->Prop) (w:aA) (a:Int) (left:List aB) (f:aB) (n:aL):Prop where
 hp:eQ p
 hsp:aU p=true
 hF:cP p w0 S w
 ha:inR a 0 ((w.tasks.length:Int)-1)=true
 hl:LOk p S w left
 hf:FOk p S w f
 hn:p.node f.node=n
 full:(f.vals.length:Int)=n.asks
theorem Pre.env30 (h:Pre p w0 S w a left f n):f.env.length<=30:=by
 have:=h.hf.ok;simp only[dN,bC,bSw,bWo]at this;omega
theorem Pre.objs (h:Pre p w0 S w a left f n):w.objs.length<=120:=(cH.1 h.hF.ok).1
theorem Pre.left40 (h:Pre p w0 S w a left f n):left.length<=40:=by have:=h.hl.len;omega
theorem Pre.kids (h:Pre p w0 S w a left f n):(n.kids.length:Int)=fP n.op n.pats.length (pX p n):=by
 have hok:=h.hp.nodes _ (jE (fX h.hf));rw[h.hn]at hok;exact oR hok
theorem Pre.node (h:Pre p w0 S w a left f n):eS p n=true:=by
 have hok:=h.hp.nodes _ (jE (fX h.hf));rw[h.hn]at hok;exact hok
theorem Pre.val (h:Pre p w0 S w a left f n){i:Nat}(hi:i<f.vals.length):VOk p S w (aF f.vals i):=by
 refine h.hf.vals ?_
 simp only[aF,bSz,bTy hi,bTq];exact bS7 hi
theorem bJ3 (h:TS kt kr en cnt p w a left f n [] bv)(hop:n.op=1):sE 247 kt kr en cnt p w a left f n (opR p w a left f n):=by
 have e:opR p w a left f n=jD w left (nP n.n):=by unfold opR;rw[hop];rfl
 rw[e];have H:=h.pre;have ht:=h.t
 refine jB func247 ?_
 simp only[go_sem,kK,ht,hop,(vA _).ret]
 refine(jL h (nP n.n)).mono ?_
 rintro r e1 c1 ⟨rfl,t1,k1⟩
 exact⟨rfl,t1,k1⟩
theorem bJ4 (P0:Pre p w0 S w a left f n)(h:TS kt kr en cnt p w a left f n [] bv)(hop:n.op=7):sE 251 kt kr en cnt p w a left f n (opR p w a left f n):=by
 have e:opR p w a left f n=iX w left (pK n 1) (f.env++[aF f.vals 0]):=by unfold opR;rw[hop];rfl
 rw[e];have hfull:=P0.full;simp[aL.asks,hop]at hfull;have hk:=P0.kids;simp[fP,hop]at hk;have hv0:0<f.vals.length:=by omega
 have h30:=P0.env30;have h40:=P0.left40;have H:=h.pre;have ht:=h.t;unfold iX
 by_cases hc:30<(f.env++[aF f.vals 0]).length
 ·rw[if_pos hc];simp only[bTg,bS8,bTd]at hc;have hW:PX L 311 [.fz (f.env.map aE.enc),.fz [.agg [.i (aF f.vals 0).kind,.i (aF f.vals 0).n]]] (aGs 4):=aK3 f.env [aF f.vals 0] (by simpa using hc) (by simp only[bS8,bTd];omega)
  refine lK func251 ?_
  simp only[go_sem,kK]
  refine mN 14 rfl rfl ?_
  simp only[go_sem,bS3,bS2,ht,aT hv0,hW.ret,bUi,bUh,tE,kA,kF];exact⟨rfl,h.fell0 (fun _ _=>rfl) (aO _)⟩
 ·rw[if_neg hc];simp only[bTg,bS8,bTd]at hc;have hW:PC L 311 [.fz (f.env.map aE.enc),.fz [.agg [.i (aF f.vals 0).kind,.i (aF f.vals 0).n]]] (.fz ((f.env++[aF f.vals 0]).map aE.enc)):=aGx f.env [aF f.vals 0] (by simp only[bS8,bTd];omega)
  unfold oY
  by_cases hc2:40<(left++[(⟨pK n 1,f.env++[aF f.vals 0],[]⟩:aB)]).length
  ·rw[if_pos hc2];simp only[bTg,bS8,bTd]at hc2
   refine lK func251 ?_
   simp only[go_sem,kK]
   refine mN 15 rfl rfl ?_
   simp only[go_sem,bS3,bS2,ht,aT hv0,hW.ret,bUi,bUh,tE,kA,kF];exact⟨rfl,zT h (i:=1) (env:=f.env++[aF f.vals 0]) (by omega) (.inl rfl) (by omega)⟩
  ·rw[if_neg hc2];simp only[bTg,bS8,bTd]at hc2
   refine jB func251 ?_
   simp only[go_sem,kK]
   refine jY ?_
   simp only[go_sem,ht,aT hv0,hW.ret,kA,kF];exact zS h (i:=1) (env:=f.env++[aF f.vals 0]) (by omega) (.inl rfl) (by omega)
theorem bJ5 (h:TS kt kr en cnt p w a left f n [] bv)(hop:n.op=2):sE 247 kt kr en cnt p w a left f n (opR p w a left f n):=by
 have e:opR p w a left f n=jD w left (nW (decide (n.n=1))):=by unfold opR;rw[hop];rfl
 rw[e];have H:=h.pre;have ht:=h.t
 refine jB func247 ?_
 simp only[go_sem,kK,ht,hop,(aGt _).ret];exact jL h _
theorem bJ6 (h:TS kt kr en cnt p w a left f n [] bv)(hop:n.op=3):sE 247 kt kr en cnt p w a left f n (opR p w a left f n):=by
 have e:opR p w a left f n=jD w left bT:=by unfold opR;rw[hop];rfl
 rw[e];have H:=h.pre;have ht:=h.t
 refine jB func247 ?_
 simp only[go_sem,kK,ht,hop,lA.ret];exact jL h _
theorem bJ7 (P0:Pre p w0 S w a left f n)(h:TS kt kr en cnt p w a left f n [] bv)(hop:n.op=4):sE 248 kt kr en cnt p w a left f n (opR p w a left f n):=by
 have e:opR p w a left f n=(if n.n<0 then jD w left ⟨4,-1-n.n⟩else if(f.env.length:Int)<=n.n then .fail 2 else jD w left (aF f.env n.n.toNat)):=by unfold opR;rw[hop];rfl
 rw[e];have H:=h.pre;have ht:=h.t
 by_cases h0:n.n<0
 ·rw[if_pos h0];have d0:decide (n.n<0)=true:=D_t h0;have hw:IntKind.i64.wrap (-1-n.n)= -1-n.n:=by
   have hok:=P0.node;have hnum:oV p n=true:=by simp only[eS,bSw]at hok;exact hok.1.1.1
   simp only[oV,hop]at hnum;simp[inR]at hnum;exact aV (by have hsl:=P0.hsp;simp only[aU,bSw,bWo]at hsl;omega)
  refine jB func248 ?_
  simp only[go_sem,kK,ht,d0,hw];exact jL h ⟨4,-1-n.n⟩
 ·rw[if_neg h0];have d0:decide (n.n<0)=false:=D_f h0
  by_cases h1:(f.env.length:Int)<=n.n
  ·rw[if_pos h1];have d1:decide (n.n<(f.env.length:Int))=false:=D_f (by omega)
   refine lK func248 ?_
   simp only[go_sem,kK,ht,d0]
   refine mN 12 rfl rfl ?_
   simp only[go_sem,bS3,bS2,ht,bSy,d1,(kZ _).ret,bUi,bUh,tE];exact⟨rfl,h.fell0 (fun _ _=>rfl) (aO _)⟩
  ·rw[if_neg h1];have d1:decide (n.n<(f.env.length:Int))=true:=D_t (by omega)
   have hi:inR n.n 0 ((f.env.length:Int)-1)=true:=by simp only[inR,bWo];omega
   refine jB func248 ?_
   simp only[go_sem,kK,ht,d0]
   refine jY ?_
   simp only[go_sem,ht,bSy,d1,(iL _).ret,aYu hi,kF];exact jL h _
theorem bGn (P0:Pre p w0 S w a left f n)(h:TS kt kr en cnt p w a left f n [] bv)(hop:n.op=26):sE 268 kt kr en cnt p w a left f n (opR p w a left f n):=by
 have e:opR p w a left f n=jD w left (aF f.vals 0):=by unfold opR;rw[hop];rfl
 rw[e];have hfull:=P0.full;simp[aL.asks,hop]at hfull;have H:=h.pre;have ht:=h.t
 refine jB func268 ?_
 simp only[go_sem,kK,ht,aT (l:=f.vals) (by omega)]
 exact jL h _
theorem bGo (h:TS kt kr en cnt p w a left f n [] bv)(hop:n.op=28):sE 270 kt kr en cnt p w a left f n (opR p w a left f n):=by
 have e:opR p w a left f n=kY w a left 28 0 bT bT:=by unfold opR;rw[hop];rfl
 rw[e];have H:=h.pre
 refine jB func270 ?_
 simp only[go_sem,kK,lA.ret]
 refine(rS h bT bT).mono ?_
 rintro r e1 c1 ⟨rfl,t1,k1⟩
 refine⟨?_,t1,k1⟩
 rw[hop];rfl
theorem bJ8 (P0:Pre p w0 S w a left f n)(h:TS kt kr en cnt p w a left f n [] bv)(hop:n.op=5):sE 249 kt kr en cnt p w a left f n (opR p w a left f n):=by
 have e:opR p w a left f n=iE w ⟨2,f.node,f.env,[]⟩ fun w' v=>jD w' left v:=by unfold opR;rw[hop];rfl
 rw[e];have h120:=P0.objs;have H:=h.pre;have ht:=h.t;unfold iE
 by_cases hc:120<=w.objs.length
 ·rw[if_pos hc]
  refine lK func249 ?_
  simp only[go_sem,kK]
  refine mN 13 rfl rfl ?_
  simp only[go_sem,bS3,bS2,bUi,bUh,tE,ht];exact⟨rfl,pZ h (o:=⟨2,f.node,f.env,[]⟩) hc (by omega)⟩
 ·rw[if_neg hc]
  refine jB func249 ?_
  simp only[go_sem,kK]
  refine jY ?_
  simp only[go_sem,ht]
  refine(sO h (o:=⟨2,f.node,f.env,[]⟩) (.inl rfl) (.inr rfl) (by omega)).mono ?_
  rintro v e1 c1 ⟨rfl,⟨bv1,t1⟩,k1⟩
  refine(jL t1 (dQ w.objs.length)).mono ?_
  rintro v e2 c2 ⟨rfl,t2,k2⟩
  exact⟨rfl,t2,k1.trans k2⟩
theorem bGp (P0:Pre p w0 S w a left f n)(h:TS kt kr en cnt p w a left f n [] bv)(hop:n.op=14):sE 256 kt kr en cnt p w a left f n (opR p w a left f n):=by
 have e:opR p w a left f n=iE w ⟨1,n.n,f.vals,[]⟩ fun w' v=>jD w' left v:=by unfold opR;rw[hop];rfl
 rw[e];have h120:=P0.objs;have H:=h.pre;have ht:=h.t;unfold iE
 by_cases hc:120<=w.objs.length
 ·rw[if_pos hc]
  refine lK func256 ?_
  simp only[go_sem,kK]
  refine mN 13 rfl rfl ?_
  simp only[go_sem,bS3,bS2,bUi,bUh,tE,ht];exact⟨rfl,pZ h (o:=⟨1,n.n,f.vals,[]⟩) hc (by omega)⟩
 ·rw[if_neg hc]
  refine jB func256 ?_
  simp only[go_sem,kK]
  refine jY ?_
  simp only[go_sem,ht]
  refine(sO h (o:=⟨1,n.n,f.vals,[]⟩) (.inl rfl) (.inr rfl) (by omega)).mono ?_
  rintro v e1 c1 ⟨rfl,⟨bv1,t1⟩,k1⟩
  refine(jL t1 (dQ w.objs.length)).mono ?_
  rintro v e2 c2 ⟨rfl,t2,k2⟩
  exact⟨rfl,t2,k1.trans k2⟩
theorem bJ9 (P0:Pre p w0 S w a left f n)(h:TS kt kr en cnt p w a left f n [] bv)(hop:n.op=8):sE 252 kt kr en cnt p w a left f n (opR p w a left f n):=by
 have e:opR p w a left f n=(if¬(aF f.vals 0).kind=2 then .fail 2 else iX w left (pK n (2-(aF f.vals 0).n)) f.env):=by unfold opR;rw[hop];rfl
 rw[e];have hfull:=P0.full;simp[aL.asks,hop]at hfull;have hk:=P0.kids;simp[fP,hop]at hk;have hv0:0<f.vals.length:=by omega
 have h30:=P0.env30;have h40:=P0.left40;have H:=h.pre;have ht:=h.t
 by_cases h2:(aF f.vals 0).kind=2
 ·rw[if_neg (fun h=>h h2)]
  have d2:decide ((aF f.vals 0).kind=2)=true:=D_t h2;have hvk:=(P0.val hv0).ok;simp only[dR,h2]at hvk;simp[inR]at hvk;obtain⟨j,hj⟩: ∃j:Nat,2-(aF f.vals 0).n=(j:Int):=⟨(2-(aF f.vals 0).n).toNat,by omega⟩
  have hw:IntKind.i64.wrap (2-(aF f.vals 0).n)=(j:Int):=by rw[hj];exact aV (by omega)
  have hkn:pK n (2-(aF f.vals 0).n)=n.kids.getD j 0:=by rw[hj];rfl
  unfold iX;rw[if_neg (by omega),hkn]
  unfold oY
  by_cases hc2:40<(left++[(⟨n.kids.getD j 0,f.env,[]⟩:aB)]).length
  ·rw[if_pos hc2];simp only[bTg,bS8,bTd]at hc2
   refine lK func252 ?_
   simp only[go_sem,kK]
   refine bS ?_
   simp only[go_sem,ht,aT hv0,d2,(iL _).ret]
   refine mN 15 rfl rfl ?_
   simp only[go_sem,bS3,bS2,bUi,bUh,tE,ht,aT hv0,hw];exact⟨rfl,zT h (i:=j) (env:=f.env) (by omega) (.inl rfl) (by omega)⟩
  ·rw[if_neg hc2];simp only[bTg,bS8,bTd]at hc2
   refine jB func252 ?_
   simp only[go_sem,kK]
   refine bS ?_
   simp only[go_sem,ht,aT hv0,d2,(iL _).ret]
   refine jY ?_
   simp only[go_sem,ht,aT hv0,hw];exact zS h (i:=j) (env:=f.env) (by omega) (.inl rfl) (by omega)
 ·rw[if_pos h2];have d2:decide ((aF f.vals 0).kind=2)=false:=D_f h2
  refine lK func252 ?_
  simp only[go_sem,kK]
  refine cR 9 rfl ?_
  simp only[go_sem,bS3,bS2,ht,aT hv0,d2,(kZ _).ret];exact h.fell0 (fun _ _=>rfl) (aO _)
theorem bGq (P0:Pre p w0 S w a left f n)(h:TS kt kr en cnt p w a left f n [] bv)(hop:n.op=12):sE 254 kt kr en cnt p w a left f n (opR p w a left f n):=by
 have e:opR p w a left f n=(if¬(aF f.vals 0).kind=1 \/ ¬(aF f.vals 1).kind=1 then .fail 2 else jD w left (nW (decide ((aF f.vals 0).n<(aF f.vals 1).n)))):=by unfold opR;rw[hop];rfl
 rw[e];have hfull:=P0.full;simp[aL.asks,hop]at hfull;have H:=h.pre
 by_cases h12: ¬(aF f.vals 0).kind=1 \/ ¬(aF f.vals 1).kind=1
 ·rw[if_pos h12]
  refine lK func254 ?_
  simp only[go_sem,kK]
  refine cR 1 rfl ?_
  simp only[go_sem,bS3,bS2];exact aVb h (by omega) h12
 ·rw[if_neg h12];have k1:(aF f.vals 0).kind=1:=Decidable.byContradiction fun hh=>h12 (.inl hh)
  have k2:(aF f.vals 1).kind=1:=Decidable.byContradiction fun hh=>h12 (.inr hh)
  refine jB func254 ?_
  simp only[go_sem,kK]
  refine bS ?_
  simp only[go_sem]
  refine(aVa h (by omega) k1 k2).mono ?_
  rintro v e1 c1 ⟨rfl,rfl,rfl⟩
  simp only[go_sem,(aGt _).ret];exact jL h _
theorem aNv (P0:Pre p w0 S w a left f n)(h:TS kt kr en cnt p w a left f n [] bv)(hop:n.op=9 \/n.op=10 \/n.op=11):sE 253 kt kr en cnt p w a left f n (opR p w a left f n):=by
 have e:opR p w a left f n=(if¬(aF f.vals 0).kind=1 \/ ¬(aF f.vals 1).kind=1 then .fail 2
  else if inR (sH n.op (aF f.vals 0).n (aF f.vals 1).n) (-1000000000) 1000000000=true then jD w left (nP (sH n.op (aF f.vals 0).n (aF f.vals 1).n))else .fail 4):=by
  unfold opR;rcases hop with h|h|h<;>rw[h]<;>rfl
 rw[e];have hfull:f.vals.length=2:=by
  have:=P0.full;rcases hop with h|h|h<;>simp[aL.asks,h]at this<;>omega
 have H:=h.pre;have ht:=h.t
 by_cases h12: ¬(aF f.vals 0).kind=1 \/ ¬(aF f.vals 1).kind=1
 ·rw[if_pos h12]
  refine lK func253 ?_
  simp only[go_sem,kK]
  refine cR 1 rfl ?_
  simp only[go_sem,bS3,bS2];exact aVb h (by omega) h12
 ·rw[if_neg h12];have k1:(aF f.vals 0).kind=1:=Decidable.byContradiction fun hh=>h12 (.inl hh)
  have k2:(aF f.vals 1).kind=1:=Decidable.byContradiction fun hh=>h12 (.inr hh)
  have v1:=(P0.val (show 0<f.vals.length by omega)).ok
  have v2:=(P0.val (show 1<f.vals.length by omega)).ok
  simp only[dR,k1,k2]at v1 v2;simp[inR]at v1 v2;have hI:=aVa h (by omega) k1 k2
  generalize (aF f.vals 0).n=x at v1 hI⊢;generalize (aF f.vals 1).n=y at v2 hI⊢;have w1:IntKind.i64.wrap (x+y)=x+y:=aV (by omega)
  have w2:IntKind.i64.wrap (x-y)=x-y:=aV (by omega)
  have hm: -1000000000000000000<=x*y/\ x*y<=1000000000000000000:=by
   have:=Int.natAbs_mul x y;have a1:x.natAbs<=1000000000:=by omega
   have a2:y.natAbs<=1000000000:=by omega
   have:=Nat.mul_le_mul a1 a2;omega
  have w3:IntKind.i64.wrap (x*y)=x*y:=aV (by omega)
  by_cases hr2:inR (sH n.op x y) (-1000000000) 1000000000=true
  ·rw[if_pos hr2]
   refine jB func253 ?_
   simp only[go_sem,kK]
   refine bS ?_
   simp only[go_sem]
   refine hI.mono ?_
   rintro v e1 c1 ⟨rfl,rfl,rfl⟩
   rcases hop with ho|ho|ho
   ·rw[ho,show sH 9 x y=x+y from rfl]at hr2⊢
    simp only[go_sem,kK,ht,ho,w1]
    refine bS ?_
    simp only[go_sem,(gE _).ret,hr2,(iL _).ret,(vA _).ret];exact jL h (nP (x+y))
   ·rw[ho,show sH 10 x y=x-y from rfl]at hr2⊢
    simp only[go_sem,kK,ht,ho,w1,w2]
    refine bS ?_
    simp only[go_sem,(gE _).ret,hr2,(iL _).ret,(vA _).ret];exact jL h (nP (x-y))
   ·rw[ho,show sH 11 x y=x*y from rfl]at hr2⊢
    simp only[go_sem,kK,ht,ho,w1,w3]
    refine bS ?_
    simp only[go_sem,(gE _).ret,hr2,(iL _).ret,(vA _).ret];exact jL h (nP (x*y))
  ·rw[if_neg hr2];rw[bT9]at hr2
   refine lK func253 ?_
   simp only[go_sem,kK]
   refine bS ?_
   simp only[go_sem]
   refine hI.mono ?_
   rintro v e1 c1 ⟨rfl,rfl,rfl⟩
   rcases hop with ho|ho|ho
   ·rw[ho,show sH 9 x y=x+y from rfl]at hr2
    simp only[go_sem,kK,ht,ho,w1]
    refine cR 2 rfl ?_
    simp only[go_sem,bS3,bS2,(gE _).ret,hr2,(kZ _).ret];exact h.fell0 (fun _ _=>rfl) (aO _)
   ·rw[ho,show sH 10 x y=x-y from rfl]at hr2
    simp only[go_sem,kK,ht,ho,w1,w2]
    refine cR 2 rfl ?_
    simp only[go_sem,bS3,bS2,(gE _).ret,hr2,(kZ _).ret];exact h.fell0 (fun _ _=>rfl) (aO _)
   ·rw[ho,show sH 11 x y=x*y from rfl]at hr2
    simp only[go_sem,kK,ht,ho,w1,w3]
    refine cR 2 rfl ?_
    simp only[go_sem,bS3,bS2,(gE _).ret,hr2,(kZ _).ret];exact h.fell0 (fun _ _=>rfl) (aO _)
theorem aEl {kids:List Int}{env:List aE}{l:List Pat}(hk:k<l.length):dY w left kids env u k (l.drop k)=(match fW w l[k] u with|some r=>iX w left (kids.getD (1+k) 0) (env++r)|none=>dY w left kids env u (k+1) (l.drop (k+1))):=by
 rw[bT2 hk,dY];cases fW w l[k] u<;>rfl
theorem aEm {kids:List Int}{env:List aE}{u:aE}: ∀(l:List Pat) (i:Nat),dY w left kids env u i l≠ .wait
 |[],i=>by simp[dY]
 |q::l,i=>by
  rw[dY];split
  ·unfold iX oY;split
   ·simp
   ·split<;>simp
  ·exact aEm l _
theorem bGr (P0:Pre p w0 S w a left f n)(h:TS kt kr en cnt p w a left f n [] bv)(hop:n.op=15):sE 257 kt kr en cnt p w a left f n (opR p w a left f n):=by
 have e:opR p w a left f n=dY w left n.kids f.env (aF f.vals 0) 0 n.pats:=by unfold opR;rw[hop];rfl
 rw[e];have hfull:=P0.full;simp[aL.asks,hop]at hfull;have hv0:0<f.vals.length:=by omega
 have hu:=P0.val hv0;have hkd:=P0.kids;simp[fP,hop]at hkd;have hok:=P0.node;have hpf: ∀q∈n.pats,tG p.cons q=true/\ qB q<=1000:=fun q hq=>by
  simp only[eS,bSw,bS5]at hok;have:=hok.1.2 q hq;exact⟨by simp only[nV,bSw]at this;exact this.2,aNs this⟩
 have hfew:n.kids.length<=1000:=by
  have hsp:=P0.hsp;have hsn:gQ n=true:=by rw[<-P0.hn];simp only[aU,bSw,bS5]at hsp;exact hsp.2 _ (jE (fX P0.hf))
  simp only[gQ,bSw,bWo]at hsn;omega
 have h30:=P0.env30;have h40:=P0.left40;have H:=h.pre;have ht:=h.t;cases hR0:dY w left n.kids f.env (aF f.vals 0) 0 n.pats with
 |wait=>exact absurd hR0 (aEm _ _)
 |fail s=>
  refine lK func257 ?_
  simp only[go_sem,kK,ht]
  refine bK n.pats.length (fun k st=> ∃fr en2 cnt2,st=⟨fr,en2,cnt2⟩/\ fr 0= .ptr kt 0/\ fr 10= .fz (n.pats.map Pat.enc)/\ fr 11= .i n.pats.length/\ fr 12= .i k/\ (∃bv2,TS kt kr en2 cnt2 p w a left f n [] bv2)/\ eC kt kr en cnt en2 cnt2/\ dY w left n.kids f.env (aF f.vals 0) k (n.pats.drop k)=dY w left n.kids f.env (aF f.vals 0) 0 n.pats) 0 (bS4 _) (by refine⟨_,_,_,rfl,?_,?_,?_,?_,⟨bv,h⟩,eC.refl _ _ _ _,by rw[bU2]⟩<;>simp only[go_sem]) ?_
  rintro k st hk ⟨fr,en2,cnt2,rfl,k0,k10,k11,k12,⟨bv2,t2⟩,K2,hR⟩
  simp only[go_sem,kK,k11,k12]
  refine aG (fun hq2=>?_) (fun hq2=>?_)
  ·have h':k<n.pats.length:=D_o hq2;have ht2:=t2.t;have y1:=t2.okt.set;have y2:=t2.okr.set;rw[aEl h']at hR;simp only[go_sem,kK,k0,k10,k12,h',ht2,y1,aT hv0];have hpk:=hpf _ (bS7 h');have u3: ∀t,cnt2 0 t<=aC (aC cnt2 0 4 (cnt2 0 4+1)) 0 5 (cnt2 0 5+1) 0 t:=(by(repeat refine upS ?_ (by omega));exact aO _)
   obtain⟨⟨bv3,t3⟩,k3⟩:=t2.stay (cnt':=aC (aC cnt2 0 4 (cnt2 0 4+1)) 0 5 (cnt2 0 5+1)) (en':=((en2.set ⟨0,4,cnt2 0 4⟩ (some (.box [.i 0,.i 0,.str ⟨#[]⟩,.cl []] false))).set ⟨0,4,cnt2 0 4⟩ (some (.box [.i n.pats[k].form,.i n.pats[k].n,.str n.pats[k].text,.fz (n.pats[k].parts.map Pat.enc)] false))).set ⟨0,5,cnt2 0 5⟩ (some (.box [.cl []] false))) (fun k hk=>by simp only[hk.set]) u3
   refine(aVo P0.hF p.cons n.pats[k] hpk.1 hpk.2 (aF f.vals 0) hu (kl:=⟨0,5,cnt2 0 5⟩) (ko:=none) (xs:=[]) t3 ⟨⟨rfl,by simp[aC]⟩,.inl ⟨rfl,rfl,cM⟩⟩ (by have:=hpk.2;simp only[bTd];omega)).mono ?_
   rintro r e5 c5 ⟨rfl,F5⟩
   obtain⟨bv5,t5⟩:=F5.ts;have K5:eC kt kr en cnt e5 c5:=K2.trans ⟨fun x hx y1 y2=>by rw[F5.old x (hx.up u3) y1 y2 hx.ne (by simp),hx.set,hx.set,hx.set],fun t=>bS9 (u3 t) (F5.up t)⟩
   cases hx:fW w n.pats[k] (aF f.vals 0)with
   |none=>
    rw[hx]at hR;simp only[go_sem,bU7,k12,aR h' (show Few n.pats.length by unfold Few;omega)]
    refine⟨_,_,_,rfl,?_⟩
    simp only[go_sem,k0,k10,k11];exact⟨⟨bv5,t5⟩,K5,hR⟩
   |some l=>
    rw[hx]at hR
    simp only at hR
    rw[hR0]at hR;obtain⟨ko5,⟨_,hv5⟩,hk5⟩:=F5.acc l hx;rw[bT4]at hv5;have ht5:=t5.t;simp only[go_sem,kK,bUx];have hwk:IntKind.i64.wrap ((k:Int)+1)=((k+1:Nat):Int):=by rw[aV (by omega)];omega
    unfold iX at hR
    by_cases hc:30<(f.env++l).length
    ·rw[if_pos hc,OpR.fail.injEq]at hR;subst hR;have hll:=aDy _ hx;have hW:=aK3 f.env l (by simpa using hc) (by have:=hpk.2;omega)
     rcases hv5 with⟨_,z2,z3⟩|⟨t,g,b,_,z2,z3,z4⟩
     ·subst z2;simp at hc;omega
     ·refine mN 9 rfl rfl ?_
      simp only[go_sem,bS3,bS2,bUi,bUh,tE,k0,ht5,z4,z3,hW.ret,hwk,bSy,bU2,bTh,bSx,bTw,kF];exact⟨rfl,pY.then K5 (t5.fell0 (fun _ _=>rfl) (aO _))⟩
    ·rw[if_neg hc]at hR;simp only[bTg]at hc;unfold oY at hR;have hW:=aGx f.env l (by omega)
     by_cases hc2:40<(left++[(⟨n.kids.getD (1+k) 0,f.env++l,[]⟩:aB)]).length
     ·rw[if_pos hc2,OpR.fail.injEq]at hR;subst hR;simp only[bTg,bS8,bTd]at hc2;have hG:=zT t5 (i:=k+1) (env:=f.env++l) (by omega) (.inl rfl) (by omega)
      rcases hv5 with⟨_,z2,z3⟩|⟨t,g,b,z1,z2,z3,z4⟩
      ·subst z2;rw[bT1]at hW hG;simp only[bTe]at hW
       refine mN 10 rfl rfl ?_
       simp only[go_sem,bS3,bS2,bUi,bUh,tE,k0,ht5,z3,hW.ret,hwk,kF];exact⟨rfl,hG.mono fun _ _ _=>pY.then K5⟩
      ·have hr5:=t5.r;have bt:(⟨0,t,g⟩:Key)≠kt:=by rintro rfl;rw[ht5]at z3;cases z3
       have br:(⟨0,t,g⟩:Key)≠kr:=by rintro rfl;rw[hr5]at z3;cases z3
       have t6:TS kt kr (e5.set ⟨0,t,g⟩ (some (.blk 2 (l.map aE.enc) true))) c5 p w a left f n [] bv5:=t5.to (aK bt.symm) (aK br.symm) (aO _);have K6:eC kt kr en cnt (e5.set ⟨0,t,g⟩ (some (.blk 2 (l.map aE.enc) true))) c5:=⟨fun x hxo y1 y2=>by
        have hne:x≠⟨0,t,g⟩:=by
         rintro rfl
         rcases hk5 with hk5|hk5
         ·rw[z1]at hk5;cases hk5
         ·exact hk5 _ z1 (hxo.up fun t=>bS9 (K2.up t) (u3 t))
        rw[aK hne];exact K5.old x hxo y1 y2,K5.up⟩
       have hG:=zT t6 (i:=k+1) (env:=f.env++l) (by omega) (.inl rfl) (by omega)
       refine mN 10 rfl rfl ?_
       simp only[go_sem,bS3,bS2,bUi,bUh,tE,k0,ht5,z4,z3,hW.ret,hwk,bSy,bU2,bTh,bSx,bTw,kF];exact⟨rfl,hG.mono fun _ _ _=>pY.then K6⟩
     ·rw[if_neg hc2]at hR;cases hR
  ·have:k=n.pats.length:=by simp at hq2;omega
   subst this;rw[bUo,dY]at hR;rw[hR0,OpR.fail.injEq]at hR;subst hR;simp only[go_sem]
   refine cR 2 rfl ?_
   simp only[go_sem,bS3,bS2];exact⟨rfl,rfl,K2,t2.rb⟩
 |go ev w' left' back'=>
  refine jB func257 ?_
  simp only[go_sem,kK,ht]
  refine bK n.pats.length (fun k st=> ∃fr en2 cnt2,st=⟨fr,en2,cnt2⟩/\ fr 0= .ptr kt 0/\ fr 10= .fz (n.pats.map Pat.enc)/\ fr 11= .i n.pats.length/\ fr 12= .i k/\ (∃bv2,TS kt kr en2 cnt2 p w a left f n [] bv2)/\ eC kt kr en cnt en2 cnt2/\ dY w left n.kids f.env (aF f.vals 0) k (n.pats.drop k)=dY w left n.kids f.env (aF f.vals 0) 0 n.pats) 0 (bS4 _) (by refine⟨_,_,_,rfl,?_,?_,?_,?_,⟨bv,h⟩,eC.refl _ _ _ _,by rw[bU2]⟩<;>simp only[go_sem]) ?_
  rintro k st hk ⟨fr,en2,cnt2,rfl,k0,k10,k11,k12,⟨bv2,t2⟩,K2,hR⟩
  simp only[go_sem,kK,k11,k12]
  refine aG (fun hq2=>?_) (fun hq2=>?_)
  ·have h':k<n.pats.length:=D_o hq2;have ht2:=t2.t;have y1:=t2.okt.set;have y2:=t2.okr.set;rw[aEl h']at hR;simp only[go_sem,kK,k0,k10,k12,h',ht2,y1,aT hv0];have hpk:=hpf _ (bS7 h');have u3: ∀t,cnt2 0 t<=aC (aC cnt2 0 4 (cnt2 0 4+1)) 0 5 (cnt2 0 5+1) 0 t:=(by(repeat refine upS ?_ (by omega));exact aO _)
   obtain⟨⟨bv3,t3⟩,k3⟩:=t2.stay (cnt':=aC (aC cnt2 0 4 (cnt2 0 4+1)) 0 5 (cnt2 0 5+1)) (en':=((en2.set ⟨0,4,cnt2 0 4⟩ (some (.box [.i 0,.i 0,.str ⟨#[]⟩,.cl []] false))).set ⟨0,4,cnt2 0 4⟩ (some (.box [.i n.pats[k].form,.i n.pats[k].n,.str n.pats[k].text,.fz (n.pats[k].parts.map Pat.enc)] false))).set ⟨0,5,cnt2 0 5⟩ (some (.box [.cl []] false))) (fun k hk=>by simp only[hk.set]) u3
   refine(aVo P0.hF p.cons n.pats[k] hpk.1 hpk.2 (aF f.vals 0) hu (kl:=⟨0,5,cnt2 0 5⟩) (ko:=none) (xs:=[]) t3 ⟨⟨rfl,by simp[aC]⟩,.inl ⟨rfl,rfl,cM⟩⟩ (by have:=hpk.2;simp only[bTd];omega)).mono ?_
   rintro r e5 c5 ⟨rfl,F5⟩
   obtain⟨bv5,t5⟩:=F5.ts;have K5:eC kt kr en cnt e5 c5:=K2.trans ⟨fun x hx y1 y2=>by rw[F5.old x (hx.up u3) y1 y2 hx.ne (by simp),hx.set,hx.set,hx.set],fun t=>bS9 (u3 t) (F5.up t)⟩
   cases hx:fW w n.pats[k] (aF f.vals 0)with
   |none=>
    rw[hx]at hR;simp only[go_sem,bU7,k12,aR h' (show Few n.pats.length by unfold Few;omega)]
    refine⟨_,_,_,rfl,?_⟩
    simp only[go_sem,k0,k10,k11];exact⟨⟨bv5,t5⟩,K5,hR⟩
   |some l=>
    rw[hx]at hR
    simp only at hR
    rw[hR0]at hR;obtain⟨ko5,⟨_,hv5⟩,hk5⟩:=F5.acc l hx;rw[bT4]at hv5;have ht5:=t5.t;simp only[go_sem,kK,bUx];have hwk:IntKind.i64.wrap ((k:Int)+1)=((k+1:Nat):Int):=by rw[aV (by omega)];omega
    unfold iX at hR
    by_cases hc:30<(f.env++l).length
    ·rw[if_pos hc]at hR;cases hR
    ·rw[if_neg hc]at hR;simp only[bTg]at hc;unfold oY at hR;have hW:=aGx f.env l (by omega)
     by_cases hc2:40<(left++[(⟨n.kids.getD (1+k) 0,f.env++l,[]⟩:aB)]).length
     ·rw[if_pos hc2]at hR;cases hR
     ·rw[if_neg hc2,OpR.go.injEq]at hR;obtain⟨rfl,rfl,rfl,rfl⟩:=hR;simp only[bTg,bS8,bTd]at hc2;have hG:=zS t5 (i:=k+1) (env:=f.env++l) (by omega) (.inl rfl) (by omega)
      rcases hv5 with⟨_,z2,z3⟩|⟨t,g,b,z1,z2,z3,z4⟩
      ·subst z2;rw[bT1]at hW hG;simp only[bTe]at hW
       refine jY ?_
       simp only[go_sem,k0,ht5,z3,hW.ret,hwk,kF]
       refine hG.mono ?_
       rintro v e7 c7 ⟨rfl,t7,k7⟩
       try simp only[go_sem,kK]
       exact⟨rfl,by rw[Nat.add_comm 1 k];exact t7,K5.trans k7⟩
      ·have hr5:=t5.r;have bt:(⟨0,t,g⟩:Key)≠kt:=by rintro rfl;rw[ht5]at z3;cases z3
       have br:(⟨0,t,g⟩:Key)≠kr:=by rintro rfl;rw[hr5]at z3;cases z3
       have t6:TS kt kr (e5.set ⟨0,t,g⟩ (some (.blk 2 (l.map aE.enc) true))) c5 p w a left f n [] bv5:=t5.to (aK bt.symm) (aK br.symm) (aO _);have K6:eC kt kr en cnt (e5.set ⟨0,t,g⟩ (some (.blk 2 (l.map aE.enc) true))) c5:=⟨fun x hxo y1 y2=>by
        have hne:x≠⟨0,t,g⟩:=by
         rintro rfl
         rcases hk5 with hk5|hk5
         ·rw[z1]at hk5;cases hk5
         ·exact hk5 _ z1 (hxo.up fun t=>bS9 (K2.up t) (u3 t))
        rw[aK hne];exact K5.old x hxo y1 y2,K5.up⟩
       have hG:=zS t6 (i:=k+1) (env:=f.env++l) (by omega) (.inl rfl) (by omega)
       refine jY ?_
       simp only[go_sem,k0,ht5,z4,z3,hW.ret,hwk,bSy,bU2,bTh,bSx,bTw,kF]
       refine hG.mono ?_
       rintro v e7 c7 ⟨rfl,t7,k7⟩
       try simp only[go_sem,kK]
       exact⟨rfl,by rw[Nat.add_comm 1 k];exact t7,K6.trans k7⟩
  ·have:k=n.pats.length:=by simp at hq2;omega
   subst this;rw[bUo,dY]at hR;rw[hR0]at hR;cases hR
theorem wY (xs:List Val)(h1:dA 3 xs=true)(hl:xs.length<=16777216):PC L 210 [.fz xs] (uA 3 xs):=by
 cases xs with
 |nil=>
  have hL:=at_ func210
  conv at hL=>rhs;reduce
  refine aL8 hL rfl rfl (.inl rfl) (rC ?_) (rC ?_)
  ·simp only[go_sem,kK,yP];rfl
  ·simp only[go_sem,kK,yP]
   refine tL (b:=false) (by simp only[go_sem]) (by simp only[go_sem]) ?_
   simp only[go_sem];rfl
 |cons x xs=>
  refine pcA func210 ?_
  simp only[go_sem,kK,aGo]
  refine rN (by simp only[go_sem]) (by simp only[go_sem]) h1 hl ?_
  simp only[go_sem];rfl
theorem aFf (h:TS kt kr en cnt p w a left f n back bv){o:aP}{t:Nat}{b:Bool}(hb:en ⟨0,t,g⟩=some (.blk 3 (o.frames.map aB.enc) b))(hg:g<cnt 0 t)(hV:iY V (o.vals.map aE.enc))(hc:w.objs.length<120):
  WIn L (.fn 308 [] []) [.ptr kt 0,.agg [.i o.form,.i o.n,V,.bl ⟨0,t,g⟩ 0 o.frames.length]] en cnt fun r en' cnt'=>r= .agg [.i (dQ w.objs.length).kind,.i (dQ w.objs.length).n]/\ (∃bv',TS kt kr en' cnt' p (eF w o) a left f n back bv')/\
   (∀k,Old k cnt->k≠kt->k≠kr->k≠⟨0,t,g⟩->en' k=en k)/\ ∀t,cnt 0 t<=cnt' 0 t:=by
 have s1:=h.okt.set;have s2:=h.okr.set;have n1:=h.okt.new;have n2:=h.okr.new;have hn:=h.ne;have ht:=h.t;have hr:=h.r;have m1:=h.okt.eqF;have m2:=h.okr.eqF;have o1:=h.okt.eqF';have o2:=h.okr.eqF';have x1: ∀(en:En) (e:Option Ent),En.set en kt e kr=en kr:=fun _ _=>aK hn;have x2: ∀(en:En) (e:Option Ent),En.set en kr e kt=en kt:=fun _ _=>aK hn.symm
 have d:decide ((w.objs.length:Int)<120)=true:=D_t (by omega)
 have hl:w.objs.length+1<=16777216:=by omega
 have hw:IntKind.i64.wrap (((w.objs.length+1:Nat):Int)-1)=(w.objs.length:Int):=by rw[aV (by omega)];omega
 have hA:w.objs.map aP.enc++[.agg [.i o.form,.i o.n,.fz (o.vals.map aE.enc),.fz (o.frames.map aB.enc)]]=(eF w o).objs.map aP.enc:=by simp[eF,aP.enc]
 have hAl:w.objs.length+1=((eF w o).objs.map aP.enc).length:=by simp[eF]
 have hT:List.take o.frames.length (o.frames.map aB.enc)=o.frames.map aB.enc:=by rw[bTh (by simp)]
 have hob:Old ⟨0,t,g⟩ cnt:=⟨rfl,hg⟩;have b1:=hob.set;have b0:=hob.new;have bF:=hob.eqF;have bF':=hob.eqF';have q1:(⟨0,t,g⟩:Key)≠kr:=by rintro rfl;rw[hr]at hb;cases hb
 have q2:(⟨0,t,g⟩:Key)≠kt:=by rintro rfl;rw[ht]at hb;cases hb
 have b2: ∀(en:En) (e:Option Ent),En.set en kr e ⟨0,t,g⟩=en ⟨0,t,g⟩:=fun _ _=>aK q1
 have b4: ∀(en:En) (e:Option Ent),En.set en ⟨0,t,g⟩ e kr=en kr:=fun _ _=>aK q1.symm
 have b5: ∀(en:En) (e:Option Ent),En.set en ⟨0,t,g⟩ e kt=en kt:=fun _ _=>aK q2.symm
 have hL:=at_ func308
 conv at hL=>rhs;reduce
 refine sU hL rfl rfl ?_
 simp only[go_sem,kK]
 refine bS ?_
 simp only[go_sem,ht,hr,s1,s2,bSy,d,(iL _).ret]
 refine aH ?_
 rcases hV with rfl|rfl<;>
 (simp only[go_sem,ht,hr,s1,s2,n2,m1,x2,kB,b0,b1,b4,b5,hb,bSy,(aJw _).ret,bW,eP,wQ,aA3,aYn,hl,tN,hw,hA,bSx,W.apply,Ent.freeze,hT,kA,kF]
  have hu: ∀t,cnt 0 t<=aC (aC (aC cnt 0 3 (cnt 0 3+1)) 0 4 (cnt 0 4+1)) 0 31 (cnt 0 31+1) 0 t:=(by(repeat refine upS ?_ (by omega));exact aO _)
  rw[aXk (K1:=[⟨0,31,cnt 0 31⟩]) (K2:=[]) (K3:=[]) (K4:=[]) (os:=(eF w o).objs.map aP.enc) (by simp only[s1,b5,x2];exact ht) (by simp only[s2,cM];rfl) (uP (by simp only[go_sem,n2];rfl) hAl) rfl rfl rfl (by simp[o2])]
  refine⟨rfl,⟨bv,h.okt.up hu,h.okr.up hu,hn,h.ob,?_,cM⟩,fun k hk k1 k2 k3=>?_,hu⟩
  ·rw[x2,xX h.okt (aDu 31)];simp only[s1,b5,x2];exact ht
  ·rw[aK k2,xX hk (aDu 31),hk.set,aK k2,hk.set,aK k3,hk.set,hk.set])
theorem yR (hk:k<=xs.length):kU false size en (.fz xs) none (some (.i (k:Int))) none=some {v:= .fz (xs.take k)}:=by
 simp[kU,uX hk,wF]
theorem aSo (h1:dA size xs=true)(hk:k<=xs.length):kU false size en (.fz xs) (some (.i (k:Int))) none none=some {v:= .fz (xs.drop k)}:=by
 simp[kU,uX hk,wF,h1]
theorem aNw : ∀{j k:Nat},gG p left j=k+1->k<j/\ (p.node (left.getD k default).node).op=26
 |0,k,h=>by cases h
 |j+1,k,h=>by
  rw[qD]at h
  split at h
  ·rename_i h2
   obtain rfl:j=k:=by omega
   exact⟨by omega,h2⟩
  ·have:=aNw h;exact⟨by omega,this.2⟩
noncomputable def aO6 :{c//L 269=some c}:=cA func269
theorem bGs (P0:Pre p w0 S w a left f n)(h:TS kt kr en cnt p w a left f n [] bv)(hop:n.op=27):sE 269 kt kr en cnt p w a left f n (opR p w a left f n):=by
 have e:opR p w a left f n=(match gG p left left.length with
  |0=> .fail 3
  |k+1=>iE w ⟨5,0,[],left.drop k⟩ fun w' v=>iX w' (left.take (k+1)) (pK n 0) (f.env++[v])):=by unfold opR;rw[hop];rfl
 rw[e];have hk:=P0.kids;simp[fP,hop]at hk;have h30:=P0.env30;have h40:=P0.left40;have h120:=P0.objs;have H:=h.pre;have ht:=h.t;have hr:=h.r;have hwl:IntKind.i64.wrap ((left.length:Int)-1)=(left.length:Int)-1:=aV (by omega)
 cases hR:gG p left left.length with
 |zero=>
  simp only
  refine jK aO6.2 rfl rfl ?_
  simp only[go_sem,kK,aO6,ht,bSy,hwl]
  refine Go.Abs.wp_loop (fun(k:Nat) st=> ∃fr,st=⟨fr,en,cnt⟩/\ fr 0= .ptr kt 0/\ fr 3= .i ((k:Int)-1)/\ k<=left.length/\ gG p left k=gG p left left.length) (fun k=>k) left.length ⟨_,rfl,by simp only[go_sem],by simp only[go_sem],bSx _,rfl⟩ ?_
  rintro k st ⟨fr,rfl,k0,k3,hkl,hRk⟩
  rw[hR]at hRk;cases k with
  |zero=>
   have k3':fr 3= .i (-1):=by simpa using k3
   simp only[go_sem,kK,k3']
   refine cR 2 rfl ?_
   simp only[go_sem,bS3,bS2,k3',(kZ _).ret];exact h.fell0 (fun _ _=>rfl) (aO _)
  |succ k=>
   have k3':fr 3= .i (k:Int):=by rw[k3];congr 1;omega
   have h':k<left.length:=by omega
   have d0:decide ((0:Int)<=(k:Int))=true:=D_t (by omega)
   have hfk:=P0.hl.ok _ (bS7 h');have hgd:left.getD k default=left[k]:=by simp[bSz,h']
   have hwk:IntKind.i64.wrap ((k:Int)-1)=(k:Int)-1:=aV (by omega)
   rw[qD,hgd]at hRk
   split at hRk
   ·cases hRk
   rename_i h26;have d26:decide ((p.node left[k].node).op=26)=false:=D_f h26;simp only[go_sem,kK,k0,k3',ht,hr,h',d0,bM (fX hfk),d26,hwk];exact⟨k,⟨_,rfl,by simp only[go_sem,k0],by simp only[go_sem],by omega,by rw[hR];exact hRk⟩,by omega⟩
 |succ k=>
  simp only
  obtain⟨hk1,hk2⟩:=aNw hR;have hne:(left.drop k).map aB.enc≠[]:=by
   intro he;have h0:=congrArg List.length he
   simp at h0
   omega
  have hC:=wY ((left.drop k).map aB.enc) (jV _) (by simp;omega)
  rw[qK hne,bVw]at hC;have hsl:=fun en=>aSo (size:=3) (xs:=left.map aB.enc) (en:=en) (k:=k) (jV _) (by rw[bSy];omega)
  have hsh:=fun en=>yR (size:=3) (xs:=left.map aB.enc) (en:=en) (k:=k+1) (by rw[bSy];omega)
  have hl5:(List.drop k (left.map aB.enc)).length=(left.drop k).length:=by simp
  have hwk1:IntKind.i64.wrap ((k:Int)+1)=((k+1:Nat):Int):=by rw[aV (by omega)];omega
  obtain⟨⟨bv1,h1⟩,kk1⟩:=h.stay (cnt':=aC cnt 0 47 (cnt 0 47+1)) (en':=en.set ⟨0,47,cnt 0 47⟩ (some (.blk 3 (List.drop k (left.map aB.enc)) false))) (fun k hk=>by simp only[hk.set]) (by(repeat refine upS ?_ (by omega));exact aO _)
  unfold iE
  by_cases h20:120<=w.objs.length
  ·rw[if_pos h20]
   refine jK aO6.2 rfl rfl ?_
   simp only[go_sem,kK,aO6,ht,bSy,hwl]
   refine Go.Abs.wp_loop (fun(k:Nat) st=> ∃fr,st=⟨fr,en,cnt⟩/\ fr 0= .ptr kt 0/\ fr 3= .i ((k:Int)-1)/\ k<=left.length/\ gG p left k=gG p left left.length) (fun k=>k) left.length ⟨_,rfl,by simp only[go_sem],by simp only[go_sem],bSx _,rfl⟩ ?_
   rintro j st ⟨fr,rfl,k0,k3,hjl,hRj⟩
   cases j with
   |zero=>rw[hR]at hRj;cases hRj
   |succ j=>
    have k3':fr 3= .i (j:Int):=by rw[k3];congr 1;omega
    have h':j<left.length:=by omega
    have d0:decide ((0:Int)<=(j:Int))=true:=D_t (by omega)
    have hfk:=P0.hl.ok _ (bS7 h');have hgd:left.getD j default=left[j]:=by simp[bSz,h']
    have hwk:IntKind.i64.wrap ((j:Int)-1)=(j:Int)-1:=aV (by omega)
    rw[qD,hgd]at hRj
    by_cases h26:(p.node left[j].node).op=26
    ·rw[if_pos h26,hR]at hRj
     obtain rfl:j=k:=by omega
     have d26:decide ((p.node left[j].node).op=26)=true:=D_t h26;simp only[go_sem,kK,k0,k3',ht,hr,h',d0,bM (fX hfk),d26]
     refine bS ?_
     simp only[go_sem,k3',d0,(iL _).ret]
     refine cR 9 rfl ?_
     simp only[go_sem,bS3,bS2,kB,k0,k3',ht,hsl,hC.ret,hl5,bTq];exact(pZ h1 (o:=⟨5,0,[],left.drop j⟩) (by omega) (by omega)).mono fun _ _ _=>pY.then kk1
    ·rw[if_neg h26]at hRj;have d26:decide ((p.node left[j].node).op=26)=false:=D_f h26;simp only[go_sem,kK,k0,k3',ht,hr,h',d0,bM (fX hfk),d26,hwk];exact⟨j,⟨_,rfl,by simp only[go_sem,k0],by simp only[go_sem],by omega,hRj⟩,by omega⟩
  ·rw[if_neg h20];unfold iX;show sE _ _ _ _ _ _ _ _ _ _ _ (if 30<(f.env++[dQ w.objs.length]).length then OpR.fail 4 else oY (eF w ⟨5,0,[],left.drop k⟩) (left.take (k+1)) [⟨pK n 0,f.env++[dQ w.objs.length],[]⟩])
   by_cases hc:30<(f.env++[dQ w.objs.length]).length
   ·rw[if_pos hc];simp only[bTg,bS8,bTd]at hc;have hW:PX L 311 [.fz (f.env.map aE.enc),.fz [.agg [.i (dQ w.objs.length).kind,.i (dQ w.objs.length).n]]] (aGs 4):=aK3 f.env [dQ w.objs.length] (by simpa using hc) (by simp only[bS8,bTd];omega)
    refine jK aO6.2 rfl rfl ?_
    simp only[go_sem,kK,aO6,ht,bSy,hwl]
    refine Go.Abs.wp_loop (fun(k:Nat) st=> ∃fr,st=⟨fr,en,cnt⟩/\ fr 0= .ptr kt 0/\ fr 3= .i ((k:Int)-1)/\ k<=left.length/\ gG p left k=gG p left left.length) (fun k=>k) left.length ⟨_,rfl,by simp only[go_sem],by simp only[go_sem],bSx _,rfl⟩ ?_
    rintro j st ⟨fr,rfl,k0,k3,hjl,hRj⟩
    cases j with
    |zero=>rw[hR]at hRj;cases hRj
    |succ j=>
     have k3':fr 3= .i (j:Int):=by rw[k3];congr 1;omega
     have h':j<left.length:=by omega
     have d0:decide ((0:Int)<=(j:Int))=true:=D_t (by omega)
     have hfk:=P0.hl.ok _ (bS7 h');have hgd:left.getD j default=left[j]:=by simp[bSz,h']
     have hwk:IntKind.i64.wrap ((j:Int)-1)=(j:Int)-1:=aV (by omega)
     rw[qD,hgd]at hRj
     by_cases h26:(p.node left[j].node).op=26
     ·rw[if_pos h26,hR]at hRj
      obtain rfl:j=k:=by omega
      have d26:decide ((p.node left[j].node).op=26)=true:=D_t h26;simp only[go_sem,kK,k0,k3',ht,hr,h',d0,bM (fX hfk),d26]
      refine bS ?_
      simp only[go_sem,k3',d0,(iL _).ret]
      refine bS ?_
      simp only[go_sem,kB,k0,k3',ht,hsl,hC.ret,hl5,bTq]
      refine(aFf h1 (o:=⟨5,0,[],left.drop j⟩) (t:=47) (g:=cnt 0 47) (b:=false) (by rw[cM,bVw]) (by simp[aC]) (.inr rfl) (by omega)).mono ?_
      rintro v e2 c2 ⟨rfl,⟨bv2,t2⟩,old2,up2⟩
      have ht2:=t2.t;have hr2:=t2.r;have y1:=t2.okt.set;have y2:=t2.okr.set;have y3:=t2.okt.eqF;have y4:=t2.okt.eqF';have y7:=t2.okt.new;simp only[go_sem,k0];simp only[go_sem,k3',ht2,y1,hwk1,hsh];have t3:TS kt kr (((e2.set ⟨0,4,c2 0 4⟩ (some (.box [.i 0,.i 0] false))).set ⟨0,4,c2 0 4⟩ (some (.box [.i (dQ w.objs.length).kind,.i (dQ w.objs.length).n] false))).set kt (some (.box [.ptr kr 0,.i a,.fz ((left.map aB.enc).take (j+1)),.i f.node,.fz (f.env.map aE.enc),.fz (f.vals.map aE.enc),.i n.op,.i n.n,.is n.kids,.fz (n.pats.map Pat.enc),bv2] false))) (aC c2 0 4 (c2 0 4+1)) p (eF w ⟨5,0,[],left.drop j⟩) a (left.take (j+1)) f n [] bv2:=
       ⟨t2.okt.up (by(repeat refine upS ?_ (by omega));exact aO _),t2.okr.up (by(repeat refine upS ?_ (by omega));exact aO _),t2.ne,t2.ob,by rw[cM,bUd],by rw[aK t2.ne,y2,y2];exact hr2⟩
      have hu3: ∀t,cnt 0 t<=c2 0 t:=fun t=>bS9 (((by(repeat refine upS ?_ (by omega));exact aO _): ∀t,cnt 0 t<=aC cnt 0 47 (cnt 0 47+1) 0 t) t) (up2 t)
      have k3:eC kt kr en cnt (((e2.set ⟨0,4,c2 0 4⟩ (some (.box [.i 0,.i 0] false))).set ⟨0,4,c2 0 4⟩ (some (.box [.i (dQ w.objs.length).kind,.i (dQ w.objs.length).n] false))).set kt (some (.box [.ptr kr 0,.i a,.fz ((left.map aB.enc).take (j+1)),.i f.node,.fz (f.env.map aE.enc),.fz (f.vals.map aE.enc),.i n.op,.i n.n,.is n.kids,.fz (n.pats.map Pat.enc),bv2] false))) (aC c2 0 4 (c2 0 4+1)):=
       ⟨fun k hk q1 q2=>by rw[aK q1,(hk.up hu3).set,(hk.up hu3).set,old2 k (hk.up (by(repeat refine upS ?_ (by omega));exact aO _)) q1 q2 hk.ne,hk.set],fun t=>bS9 (hu3 t) (((by(repeat refine upS ?_ (by omega));exact aO _): ∀t,c2 0 t<=aC c2 0 4 (c2 0 4+1) 0 t) t)⟩
      refine mN 8 rfl rfl ?_
      simp only[go_sem,bS3,bS2,bUi,bUh,tE,k0,y7,hW.ret,kA,kF];exact⟨rfl,pY.then k3 (t3.fell0 (fun _ _=>rfl) (aO _))⟩
     ·rw[if_neg h26]at hRj;have d26:decide ((p.node left[j].node).op=26)=false:=D_f h26;simp only[go_sem,kK,k0,k3',ht,hr,h',d0,bM (fX hfk),d26,hwk];exact⟨j,⟨_,rfl,by simp only[go_sem,k0],by simp only[go_sem],by omega,hRj⟩,by omega⟩
   ·rw[if_neg hc];simp only[bTg,bS8,bTd]at hc;have hW:PC L 311 [.fz (f.env.map aE.enc),.fz [.agg [.i (dQ w.objs.length).kind,.i (dQ w.objs.length).n]]] (.fz ((f.env++[dQ w.objs.length]).map aE.enc)):=aGx f.env [dQ w.objs.length] (by simp only[bS8,bTd];omega)
    unfold oY
    by_cases hc2:40<(left.take (k+1)++[(⟨pK n 0,f.env++[dQ w.objs.length],[]⟩:aB)]).length
    ·rw[if_pos hc2];simp only[bTg,bS8,bTd,bT3]at hc2
     refine jK aO6.2 rfl rfl ?_
     simp only[go_sem,kK,aO6,ht,bSy,hwl]
     refine Go.Abs.wp_loop (fun(k:Nat) st=> ∃fr,st=⟨fr,en,cnt⟩/\ fr 0= .ptr kt 0/\ fr 3= .i ((k:Int)-1)/\ k<=left.length/\ gG p left k=gG p left left.length) (fun k=>k) left.length ⟨_,rfl,by simp only[go_sem],by simp only[go_sem],bSx _,rfl⟩ ?_
     rintro j st ⟨fr,rfl,k0,k3,hjl,hRj⟩
     cases j with
     |zero=>rw[hR]at hRj;cases hRj
     |succ j=>
      have k3':fr 3= .i (j:Int):=by rw[k3];congr 1;omega
      have h':j<left.length:=by omega
      have d0:decide ((0:Int)<=(j:Int))=true:=D_t (by omega)
      have hfk:=P0.hl.ok _ (bS7 h');have hgd:left.getD j default=left[j]:=by simp[bSz,h']
      have hwk:IntKind.i64.wrap ((j:Int)-1)=(j:Int)-1:=aV (by omega)
      rw[qD,hgd]at hRj
      by_cases h26:(p.node left[j].node).op=26
      ·rw[if_pos h26,hR]at hRj
       obtain rfl:j=k:=by omega
       have d26:decide ((p.node left[j].node).op=26)=true:=D_t h26;simp only[go_sem,kK,k0,k3',ht,hr,h',d0,bM (fX hfk),d26]
       refine bS ?_
       simp only[go_sem,k3',d0,(iL _).ret]
       refine bS ?_
       simp only[go_sem,kB,k0,k3',ht,hsl,hC.ret,hl5,bTq]
       refine(aFf h1 (o:=⟨5,0,[],left.drop j⟩) (t:=47) (g:=cnt 0 47) (b:=false) (by rw[cM,bVw]) (by simp[aC]) (.inr rfl) (by omega)).mono ?_
       rintro v e2 c2 ⟨rfl,⟨bv2,t2⟩,old2,up2⟩
       have ht2:=t2.t;have hr2:=t2.r;have y1:=t2.okt.set;have y2:=t2.okr.set;have y3:=t2.okt.eqF;have y4:=t2.okt.eqF';have y7:=t2.okt.new;simp only[go_sem,k0];simp only[go_sem,k3',ht2,y1,hwk1,hsh];have t3:TS kt kr (((e2.set ⟨0,4,c2 0 4⟩ (some (.box [.i 0,.i 0] false))).set ⟨0,4,c2 0 4⟩ (some (.box [.i (dQ w.objs.length).kind,.i (dQ w.objs.length).n] false))).set kt (some (.box [.ptr kr 0,.i a,.fz ((left.map aB.enc).take (j+1)),.i f.node,.fz (f.env.map aE.enc),.fz (f.vals.map aE.enc),.i n.op,.i n.n,.is n.kids,.fz (n.pats.map Pat.enc),bv2] false))) (aC c2 0 4 (c2 0 4+1)) p (eF w ⟨5,0,[],left.drop j⟩) a (left.take (j+1)) f n [] bv2:=
        ⟨t2.okt.up (by(repeat refine upS ?_ (by omega));exact aO _),t2.okr.up (by(repeat refine upS ?_ (by omega));exact aO _),t2.ne,t2.ob,by rw[cM,bUd],by rw[aK t2.ne,y2,y2];exact hr2⟩
       have hu3: ∀t,cnt 0 t<=c2 0 t:=fun t=>bS9 (((by(repeat refine upS ?_ (by omega));exact aO _): ∀t,cnt 0 t<=aC cnt 0 47 (cnt 0 47+1) 0 t) t) (up2 t)
       have k3:eC kt kr en cnt (((e2.set ⟨0,4,c2 0 4⟩ (some (.box [.i 0,.i 0] false))).set ⟨0,4,c2 0 4⟩ (some (.box [.i (dQ w.objs.length).kind,.i (dQ w.objs.length).n] false))).set kt (some (.box [.ptr kr 0,.i a,.fz ((left.map aB.enc).take (j+1)),.i f.node,.fz (f.env.map aE.enc),.fz (f.vals.map aE.enc),.i n.op,.i n.n,.is n.kids,.fz (n.pats.map Pat.enc),bv2] false))) (aC c2 0 4 (c2 0 4+1)):=
        ⟨fun k hk q1 q2=>by rw[aK q1,(hk.up hu3).set,(hk.up hu3).set,old2 k (hk.up (by(repeat refine upS ?_ (by omega));exact aO _)) q1 q2 hk.ne,hk.set],fun t=>bS9 (hu3 t) (((by(repeat refine upS ?_ (by omega));exact aO _): ∀t,c2 0 t<=aC c2 0 4 (c2 0 4+1) 0 t) t)⟩
       refine mN 9 rfl rfl ?_
       simp only[go_sem,bS3,bS2,bUi,bUh,tE,k0,y7,hW.ret,kA,kF];exact⟨rfl,(zT t3 (i:=0) (env:=f.env++[dQ w.objs.length]) (by omega) (.inl rfl) (by rw[bT3];omega)).mono fun _ _ _=>pY.then k3⟩
      ·rw[if_neg h26]at hRj;have d26:decide ((p.node left[j].node).op=26)=false:=D_f h26;simp only[go_sem,kK,k0,k3',ht,hr,h',d0,bM (fX hfk),d26,hwk];exact⟨j,⟨_,rfl,by simp only[go_sem,k0],by simp only[go_sem],by omega,hRj⟩,by omega⟩
    ·rw[if_neg hc2];simp only[bTg,bS8,bTd,bT3]at hc2
     refine dP aO6.2 rfl rfl ?_
     simp only[go_sem,kK,aO6,ht,bSy,hwl]
     refine Go.Abs.wp_loop (fun(k:Nat) st=> ∃fr,st=⟨fr,en,cnt⟩/\ fr 0= .ptr kt 0/\ fr 3= .i ((k:Int)-1)/\ k<=left.length/\ gG p left k=gG p left left.length) (fun k=>k) left.length ⟨_,rfl,by simp only[go_sem],by simp only[go_sem],bSx _,rfl⟩ ?_
     rintro j st ⟨fr,rfl,k0,k3,hjl,hRj⟩
     cases j with
     |zero=>rw[hR]at hRj;cases hRj
     |succ j=>
      have k3':fr 3= .i (j:Int):=by rw[k3];congr 1;omega
      have h':j<left.length:=by omega
      have d0:decide ((0:Int)<=(j:Int))=true:=D_t (by omega)
      have hfk:=P0.hl.ok _ (bS7 h');have hgd:left.getD j default=left[j]:=by simp[bSz,h']
      have hwk:IntKind.i64.wrap ((j:Int)-1)=(j:Int)-1:=aV (by omega)
      rw[qD,hgd]at hRj
      by_cases h26:(p.node left[j].node).op=26
      ·rw[if_pos h26,hR]at hRj
       obtain rfl:j=k:=by omega
       have d26:decide ((p.node left[j].node).op=26)=true:=D_t h26;simp only[go_sem,kK,k0,k3',ht,hr,h',d0,bM (fX hfk),d26]
       refine bS ?_
       simp only[go_sem,k3',d0,(iL _).ret]
       refine bS ?_
       simp only[go_sem,kB,k0,k3',ht,hsl,hC.ret,hl5,bTq]
       refine(aFf h1 (o:=⟨5,0,[],left.drop j⟩) (t:=47) (g:=cnt 0 47) (b:=false) (by rw[cM,bVw]) (by simp[aC]) (.inr rfl) (by omega)).mono ?_
       rintro v e2 c2 ⟨rfl,⟨bv2,t2⟩,old2,up2⟩
       have ht2:=t2.t;have hr2:=t2.r;have y1:=t2.okt.set;have y2:=t2.okr.set;have y3:=t2.okt.eqF;have y4:=t2.okt.eqF';have y7:=t2.okt.new;simp only[go_sem,k0];simp only[go_sem,k3',ht2,y1,hwk1,hsh];have t3:TS kt kr (((e2.set ⟨0,4,c2 0 4⟩ (some (.box [.i 0,.i 0] false))).set ⟨0,4,c2 0 4⟩ (some (.box [.i (dQ w.objs.length).kind,.i (dQ w.objs.length).n] false))).set kt (some (.box [.ptr kr 0,.i a,.fz ((left.map aB.enc).take (j+1)),.i f.node,.fz (f.env.map aE.enc),.fz (f.vals.map aE.enc),.i n.op,.i n.n,.is n.kids,.fz (n.pats.map Pat.enc),bv2] false))) (aC c2 0 4 (c2 0 4+1)) p (eF w ⟨5,0,[],left.drop j⟩) a (left.take (j+1)) f n [] bv2:=
        ⟨t2.okt.up (by(repeat refine upS ?_ (by omega));exact aO _),t2.okr.up (by(repeat refine upS ?_ (by omega));exact aO _),t2.ne,t2.ob,by rw[cM,bUd],by rw[aK t2.ne,y2,y2];exact hr2⟩
       have hu3: ∀t,cnt 0 t<=c2 0 t:=fun t=>bS9 (((by(repeat refine upS ?_ (by omega));exact aO _): ∀t,cnt 0 t<=aC cnt 0 47 (cnt 0 47+1) 0 t) t) (up2 t)
       have k3:eC kt kr en cnt (((e2.set ⟨0,4,c2 0 4⟩ (some (.box [.i 0,.i 0] false))).set ⟨0,4,c2 0 4⟩ (some (.box [.i (dQ w.objs.length).kind,.i (dQ w.objs.length).n] false))).set kt (some (.box [.ptr kr 0,.i a,.fz ((left.map aB.enc).take (j+1)),.i f.node,.fz (f.env.map aE.enc),.fz (f.vals.map aE.enc),.i n.op,.i n.n,.is n.kids,.fz (n.pats.map Pat.enc),bv2] false))) (aC c2 0 4 (c2 0 4+1)):=
        ⟨fun k hk q1 q2=>by rw[aK q1,(hk.up hu3).set,(hk.up hu3).set,old2 k (hk.up (by(repeat refine upS ?_ (by omega));exact aO _)) q1 q2 hk.ne,hk.set],fun t=>bS9 (hu3 t) (((by(repeat refine upS ?_ (by omega));exact aO _): ∀t,c2 0 t<=aC c2 0 4 (c2 0 4+1) 0 t) t)⟩
       refine jY ?_
       simp only[go_sem,k0,y7,hW.ret,kA,kF]
       refine(zS t3 (i:=0) (env:=f.env++[dQ w.objs.length]) (by omega) (.inl rfl) (by rw[bT3];omega)).mono ?_
       rintro v e5 c5 ⟨rfl,t5,k5⟩
       exact⟨rfl,t5,k3.trans k5⟩
      ·rw[if_neg h26]at hRj;have d26:decide ((p.node left[j].node).op=26)=false:=D_f h26;simp only[go_sem,kK,k0,k3',ht,hr,h',d0,bM (fX hfk),d26,hwk];exact⟨j,⟨_,rfl,by simp only[go_sem,k0],by simp only[go_sem],by omega,hRj⟩,by omega⟩
theorem aNx (hb:eW p w u v=some b):b.vals=[]:=by
 unfold eW at hb
 split at hb
 ·simp only[bSv]at hb;subst hb;rfl
 ·split at hb
  ·simp only[bSv]at hb;subst hb;rfl
  ·cases hb
theorem lJ {an:List (List Nat)}{A:Nat}{k:Key}{rs:List Res}(j:Nat){v:Val}{m:En×(Nat->Nat->Nat)}{u:Key->Bool}(hj:rs[j]?=some {v:=v,mem:=some m,unch:=u})(hu:u k=true)(h:pS an A k (rs.set j tE)=true):pS an A k rs=true:=by
 unfold pS at h⊢;rw[bUs]at h
 refine bS5.2 fun i hi=>?_
 have:=bS5.1 h i hi
 by_cases hij:j=i
 ·subst hij;rw[hj];simp only[aQx,hu,bUz]
 ·rw[bWc hij]at this;exact this
noncomputable def aKp :{c//L 250=some c}:=cA func250
theorem bKa (P0:Pre p w0 S w a left f n)(h:TS kt kr en cnt p w a left f n [] bv)(hop:n.op=6):sE 250 kt kr en cnt p w a left f n (opR p w a left f n):=by
 have e:opR p w a left f n=(match eW p w (aF f.vals 0) (aF f.vals 1)with
  |some b=>iX w left b.node b.env
  |none=>if cG w (aF f.vals 0) 5=true then(if 40<(left++(w.obj (aF f.vals 0).n).frames).length then .fail 4 else .go none w (left++(w.obj (aF f.vals 0).n).frames) [aF f.vals 1])else .fail 2):=by unfold opR;rw[hop];rfl
 rw[e];have hfull:=P0.full;simp[aL.asks,hop]at hfull;have hv0:0<f.vals.length:=by omega
 have hv1:1<f.vals.length:=by omega
 have hu:=P0.val hv0;have h40:=P0.left40;have H:=h.pre;have ht:=h.t;obtain⟨⟨bv1,h1⟩,k1⟩:=h.stay (cnt':=aC cnt 0 3 (cnt 0 3+1)) (en':=en.set ⟨0,3,cnt 0 3⟩ (some (.box [.i 0,.cl [],.cl []] false))) (fun k hk=>by simp only[hk.set]) (by(repeat refine upS ?_ (by omega));exact aO _)
 cases hb:eW p w (aF f.vals 0) (aF f.vals 1)with
 |some b=>
  simp only
  have hbv:=aNx hb;unfold iX
  by_cases hc:30<b.env.length
  ·rw[if_pos hc]
   refine jK aKp.2 rfl rfl ?_
   simp only[go_sem,kK,aKp]
   refine aUe rfl 15 rfl rfl ?_
   simp only[go_sem,bS3,bS2,bUi,bUh,tE,bU1,bU0,ht,H,aT hv0,gX hv1,kA,kF];exact⟨rfl,(aNu h1 P0.hp P0.hF hu hb hc).mono fun _ _ _=>pY.then k1⟩
  ·rw[if_neg hc];have hC:=aNt h1 P0.hp P0.hF hu hb (by omega)
   unfold oY
   by_cases hc2:40<(left++[(⟨b.node,b.env,[]⟩:aB)]).length
   ·rw[if_pos hc2];simp only[bTg,bS8,bTd]at hc2
    refine jK aKp.2 rfl rfl ?_
    simp only[go_sem,kK,aKp]
    refine pH rfl ?_
    simp only[go_sem,bU1,bU0,ht,H,aT hv0,gX hv1,kA]
    refine hC.mono ?_
    rintro v e1 c1 ⟨⟨ev,hev,_,rfl⟩,⟨bv2,t2⟩,k2⟩
    obtain⟨p3,q3⟩:=k2.loc (d:=3) (g:=cnt 0 3) (by simp only[go_sem];omega) h.okt.ne.symm h.okr.ne.symm
    simp only[go_sem]at p3;simp only[go_sem,kK,p3,kA,kF]
    refine⟨rfl,lJ 15 rfl (by simp only[p3,cM];rfl) rfl,?_⟩
    obtain⟨⟨bv3,t3⟩,k3⟩:=h.fin t2 (k1.trans k2) (cnt2:=c1) (en2:=e1.set ⟨0,3,cnt 0 3⟩ (some (.box [.i b.node,ev,.cl []] false))) (fun k hk _=>by simp only[hk.set]) (aO _)
    refine cR 3 rfl ?_
    rcases hev with rfl|rfl<;>
    (simp only[go_sem,bS3,bS2,bUi,bUh]
     exact(aNa t3 (l:=[⟨b.node,b.env,[]⟩]) (.inr rfl) (by simp only[bS8,bTd];omega) (by simp only[bS8,bTd];omega)).mono fun _ _ _=>pY.then k3)
   ·rw[if_neg hc2];simp only[bTg,bS8,bTd]at hc2
    refine dP aKp.2 rfl rfl ?_
    simp only[go_sem,kK,aKp]
    refine pH rfl ?_
    simp only[go_sem,bU1,bU0,ht,H,aT hv0,gX hv1,kA]
    refine hC.mono ?_
    rintro v e1 c1 ⟨⟨ev,hev,_,rfl⟩,⟨bv2,t2⟩,k2⟩
    obtain⟨p3,q3⟩:=k2.loc (d:=3) (g:=cnt 0 3) (by simp only[go_sem];omega) h.okt.ne.symm h.okr.ne.symm
    simp only[go_sem]at p3;simp only[go_sem,kK,p3,kA,kF]
    refine⟨rfl,lJ 15 rfl (by simp only[p3,cM];rfl) rfl,?_⟩
    obtain⟨⟨bv3,t3⟩,k3⟩:=h.fin t2 (k1.trans k2) (cnt2:=c1) (en2:=e1.set ⟨0,3,cnt 0 3⟩ (some (.box [.i b.node,ev,.cl []] false))) (fun k hk _=>by simp only[hk.set]) (aO _)
    refine bS ?_
    rcases hev with rfl|rfl<;>
    (simp only[go_sem]
     refine(aGw t3 (l:=[⟨b.node,b.env,[]⟩]) (.inr rfl) (by simp only[bS8,bTd];omega)).mono ?_
     rintro v e4 c4 ⟨_,t4,k4⟩
     exact⟨rfl,t4,k3.trans k4⟩)
 |none=>
  simp only
  have hC:=aJ3 h1 hu hb
  by_cases hI:cG w (aF f.vals 0) 5=true
  ·rw[if_pos hI];have hW:=fun e1 c1 bv2 (t2:TS kt kr e1 c1 p w a left f n [] bv2)=>wR t2 (gH hu) 5 hI
   obtain⟨a1,a2,a3,a4⟩:=fM P0.hF hu hI;have hfl:=(aG3 P0.hsp (aDw a2.ok).2).1;generalize w.obj (aF f.vals 0).n=o at a2 a3 hW hfl⊢
   by_cases hc2:40<(left++o.frames).length
   ·rw[if_pos hc2];simp only[bTg]at hc2
    refine jK aKp.2 rfl rfl ?_
    simp only[go_sem,kK,aKp]
    refine pH rfl ?_
    simp only[go_sem,bU1,bU0,ht,H,aT hv0,gX hv1,kA]
    refine hC.mono ?_
    rintro v e1 c1 ⟨⟨xx,rfl,rfl⟩,⟨bv2,t2⟩,k2⟩
    obtain⟨p3,q3⟩:=k2.loc (d:=3) (g:=cnt 0 3) (by simp only[go_sem];omega) h.okt.ne.symm h.okr.ne.symm
    simp only[go_sem]at p3;simp only[go_sem,kK,p3,kA,kF]
    refine⟨rfl,lJ 15 rfl (by simp only[p3,cM];rfl) rfl,?_⟩
    obtain⟨⟨bv3,t3⟩,k3⟩:=h.fin t2 (k1.trans k2) (cnt2:=c1) (en2:=e1.set ⟨0,3,cnt 0 3⟩ (some (.box [.i 0,.cl [],.cl []] false))) (fun k hk _=>by simp only[hk.set]) (aO _)
    have ht2:=t2.t
    refine bS ?_
    simp only[go_sem,H,ht2,aT hv0]
    refine(hW _ _ _ t3).mono ?_
    rintro v e4 c4 ⟨rfl,⟨bv4,t4⟩,k4⟩
    simp only[go_sem]
    refine cR 3 rfl ?_
    simp only[go_sem,bS3,bS2];obtain⟨⟨bv5,t5⟩,k5⟩:=t3.fin t4 k4 (cnt2:=aC c4 0 5 (c4 0 5+1)) (en2:=(e4.set ⟨0,5,c4 0 5⟩ (some (.box [.i 0,.i 0,.cl [],.cl []] false))).set ⟨0,5,c4 0 5⟩ (some (.box [.i o.form,.i o.n,.fz (o.vals.map aE.enc),.fz (o.frames.map aB.enc)] false))) (fun k hk hj=>by simp only[hj.set]) (by(repeat refine upS ?_ (by omega));exact aO _)
    exact(aNa t5 (l:=o.frames) (.inl rfl) (by omega) (by omega)).mono fun _ _ _=>pY.then (k3.trans k5)
   ·rw[if_neg hc2];simp only[bTg]at hc2
    refine dP aKp.2 rfl rfl ?_
    simp only[go_sem,kK,aKp]
    refine pH rfl ?_
    simp only[go_sem,bU1,bU0,ht,H,aT hv0,gX hv1,kA]
    refine hC.mono ?_
    rintro v e1 c1 ⟨⟨xx,rfl,rfl⟩,⟨bv2,t2⟩,k2⟩
    obtain⟨p3,q3⟩:=k2.loc (d:=3) (g:=cnt 0 3) (by simp only[go_sem];omega) h.okt.ne.symm h.okr.ne.symm
    simp only[go_sem]at p3;simp only[go_sem,kK,p3,kA,kF]
    refine⟨rfl,lJ 15 rfl (by simp only[p3,cM];rfl) rfl,?_⟩
    obtain⟨⟨bv3,t3⟩,k3⟩:=h.fin t2 (k1.trans k2) (cnt2:=c1) (en2:=e1.set ⟨0,3,cnt 0 3⟩ (some (.box [.i 0,.cl [],.cl []] false))) (fun k hk _=>by simp only[hk.set]) (aO _)
    have ht2:=t2.t
    refine bS ?_
    simp only[go_sem,H,ht2,aT hv0]
    refine(hW _ _ _ t3).mono ?_
    rintro v e4 c4 ⟨rfl,⟨bv4,t4⟩,k4⟩
    simp only[go_sem];obtain⟨⟨bv5,t5⟩,k5⟩:=t3.fin t4 k4 (cnt2:=aC c4 0 5 (c4 0 5+1)) (en2:=(e4.set ⟨0,5,c4 0 5⟩ (some (.box [.i 0,.i 0,.cl [],.cl []] false))).set ⟨0,5,c4 0 5⟩ (some (.box [.i o.form,.i o.n,.fz (o.vals.map aE.enc),.fz (o.frames.map aB.enc)] false))) (fun k hk hj=>by simp only[hj.set]) (by(repeat refine upS ?_ (by omega));exact aO _)
    refine bS ?_
    simp only[go_sem]
    refine(aGw t5 (l:=o.frames) (.inl rfl) (by omega)).mono ?_
    rintro v e6 c6 ⟨_,⟨bv6,t6⟩,k6⟩
    have ht6:=t6.t;simp only[go_sem,ht6,gX hv1]
    refine(jL t6 (aF f.vals 1)).mono ?_
    rintro r e7 c7 ⟨rfl,t7,k7⟩
    exact⟨rfl,t7,((k3.trans k5).trans k6).trans k7⟩
  ·rw[if_neg hI];rw[bT9]at hI
   refine jK aKp.2 rfl rfl ?_
   simp only[go_sem,kK,aKp]
   refine pH rfl ?_
   simp only[go_sem,bU1,bU0,ht,H,aT hv0,gX hv1,kA]
   refine hC.mono ?_
   rintro v e1 c1 ⟨⟨xx,rfl,rfl⟩,⟨bv2,t2⟩,k2⟩
   obtain⟨p3,q3⟩:=k2.loc (d:=3) (g:=cnt 0 3) (by simp only[go_sem];omega) h.okt.ne.symm h.okr.ne.symm
   simp only[go_sem]at p3;simp only[go_sem,kK,p3,kA,kF]
   refine⟨rfl,lJ 15 rfl (by simp only[p3,cM];rfl) rfl,?_⟩
   obtain⟨⟨bv3,t3⟩,k3⟩:=h.fin t2 (k1.trans k2) (cnt2:=c1) (en2:=e1.set ⟨0,3,cnt 0 3⟩ (some (.box [.i 0,.cl [],.cl []] false))) (fun k hk _=>by simp only[hk.set]) (aO _)
   have ht2:=t2.t
   refine cR 8 rfl ?_
   simp only[go_sem,bS3,bS2,H,ht2,aT hv0];exact(wS t3 (gH hu) 5 hI).mono fun _ _ _=>pY.then k3
end
theorem tP (ha:inR a 0 ((w.tasks.length:Int)-1)=true):mH 1 en (.fz (w.tasks.map (.int .i64))) (.i a)=some {v:= .fp [.i (aX w a)] 0}:=yK ha
noncomputable def c30 :{c//L 30=some c}:=cA func30
set_option maxHeartbeats 1600000 in
theorem aHb (hp:eQ p)(hsp:aU p=true)(h:cP p w0 S w)(ha:inR a 0 ((w.tasks.length:Int)-1)=true):
  PC L 30 [.agg p.cs,.agg w.cs,.i a] (.agg [.fz ((aM p w a).w.objs.map aP.enc),.fz ((aM p w a).w.tasks.map (.int .i64)),.fz ((aM p w a).w.outs.map bO.enc),.fz ((aM p w a).w.ins.map (.int .i64)),.i (aM p w a).w.used,.i (aM p w a).what,.i (aM p w a).e.task,.i (aM p w a).e.act,.i (aM p w a).e.n,.i (aM p w a).e.v.kind,.i (aM p w a).e.v.n]):=by
 have hfit:=wV h ha;obtain⟨t1,t2,t3⟩:=h.task ha;have hO:=h.obj t1 t3;have hset:=fun o=>aYp w a o hfit
 have honto:=fun left node env hl=>aDv w a left node env hfit hl
 unfold aM
 simp only
 have hio:=fun en=>aAt (w:=w) (k:= .i64) (en:=en) t1
 generalize ho:w.obj (aX w a)=o at hO t2 hio⊢;have hk:=hO.ok;rw[dX,if_pos t2,kI]at hk
 by_cases n0:o.n=0
 ·have d0:decide (o.n=0)=true:=D_t n0;rw[if_neg (fun h=>h n0)]
  rw[if_pos n0]at hk;simp only[bY,bSw,bWo,bS5,bC]at hk;obtain⟨⟨⟨⟨k1,k2⟩,k3,k4⟩,k5⟩,k6⟩:=hk;have hF: ∀f∈o.frames,FOk p S w f:=fun f hf=>hO.frames hf
  have hwt:IntKind.i64.wrap ((o.frames.length:Int)-1)=(o.frames.length:Int)-1:=aV (by omega)
  by_cases hv1:o.vals.length=1
  ·have dv:decide (o.vals.length=1)=true:=D_t hv1;have dv':decide ((o.vals.length:Int)=1)=true:=D_t (by omega)
   rw[if_pos hv1]
   by_cases hf0:o.frames.length=0
   ·rw[if_pos hf0];have hS:=hset ⟨6,1,[aF o.vals 0],[]⟩;simp only[bTv,bTe,aNp]at hS;have df:decide ((o.frames.length:Int)-1<0)=true:=D_t (by omega)
    refine cD c30.2 rfl rfl ?_
    simp only[go_sem,kK,c30]
    refine aH ?_
    simp only[go_sem,kK,tP ha,hio,kA,bS0,if_false];simp only[go_sem,kK,d0,dv',hwt,aT (l:=o.vals) (by omega),df]
    refine aH ?_
    simp only[go_sem,tP ha,rH,lZ,hS.ret,(aIm _).ret,kA,bS0,if_false]
   ·rw[if_neg hf0];obtain⟨m,hm⟩: ∃m,o.frames.length=m+1:=⟨o.frames.length-1,by omega⟩
    have hmn:m<o.frames.length:=by omega
    have df:decide ((m:Int)<0)=false:=D_f (by omega)
    have hwt:IntKind.i64.wrap ((o.frames.length:Int)-1)=(m:Int):=by rw[hwt];omega
    have hgd:o.frames.getD (o.frames.length-1) dJ=o.frames[m]:=by
     rw[show o.frames.length-1=m by omega];simp[bSz,hmn]
    have hgz:(o.frames.map aB.enc)[m]?=some (aB.enc o.frames[m]):=by simp[hmn]
    have hlF:aCu o.frames (aF o.vals 0)=o.frames.set m ⟨o.frames[m].node,o.frames[m].env,o.frames[m].vals++[aF o.vals 0]⟩:=by
     unfold aCu;rw[hgd,show o.frames.length-1=m by omega]
    rw[hlF];have hS:=hset ⟨6,0,[],o.frames.set m ⟨o.frames[m].node,o.frames[m].env,o.frames[m].vals++[aF o.vals 0]⟩⟩;simp only[bVe,bTe,aB.enc]at hS;have hfm:=(hF _ (bS7 hmn)).ok;have hal:=aSi hsp (fX (hF _ (bS7 hmn)));simp only[dN,bC,bSw,bWo]at hfm;have hM:=aGr o.frames[m].vals (aF o.vals 0) (by omega)
    have hfe:o.frames.isEmpty=false:=aM3 (by omega)
    have hf16:o.frames.length<=16777216:=by omega
    have hmi:((m:Int)<(o.frames.length:Int)):=by omega
    refine cD c30.2 rfl rfl ?_
    simp only[go_sem,kK,c30]
    refine aH ?_
    simp only[go_sem,kK,tP ha,hio,kA,bS0,if_false];simp only[go_sem,kK,d0,dv',hwt,aT (l:=o.vals) (by omega),df,bW,eP,jR,jC,hfe,hf16,jV,hgz,hmi,tP ha,hM.ret,fG,bVm,bTt,bSy,bUs,bSx,bTh,wM,oD,hS.ret,eM,iV]
  ·have dv':decide ((o.vals.length:Int)=1)=false:=D_f (by omega)
   rw[if_neg hv1];have hz:o.vals.length=0:=by omega
   obtain⟨m,hm⟩: ∃m,o.frames.length=m+1:=⟨o.frames.length-1,by omega⟩
   have hmn:m<o.frames.length:=by omega
   have hwt:IntKind.i64.wrap ((o.frames.length:Int)-1)=(m:Int):=by rw[hwt];omega
   have hgd:o.frames.getD (o.frames.length-1) dJ=o.frames[m]:=by
    rw[show o.frames.length-1=m by omega];simp[bSz,hmn]
   rw[hgd];have hfo:=hF _ (bS7 hmn);have hni:=fX hfo;have hok:=hp.nodes _ (jE hni);have hak:=aIp hok
   by_cases hop:(o.frames[m].vals.length:Int)<(p.node o.frames[m].node).asks
   ·have dop:decide ((o.frames[m].vals.length:Int)<(p.node o.frames[m].node).asks)=true:=D_t hop;rw[if_pos hop];have hN:=honto o.frames (pK (p.node o.frames[m].node) o.frames[m].vals.length) o.frames[m].env (by omega)
    refine cD c30.2 rfl rfl ?_
    simp only[go_sem,kK,c30]
    refine aH ?_
    simp only[go_sem,kK,tP ha,hio,kA,bS0,if_false];simp only[go_sem,kK,d0,dv',hwt,hmn,bM hni,(xS _).ret,dop,aYv (show inR (o.frames[m].vals.length:Int) 0 (((p.node o.frames[m].node).kids.length:Int)-1)=true by simp only[inR,bWo];omega),hN.ret]
   ·have dop:decide ((o.frames[m].vals.length:Int)<(p.node o.frames[m].node).asks)=false:=D_f hop;rw[if_neg hop];have hfull:(o.frames[m].vals.length:Int)=(p.node o.frames[m].node).asks:=by
     have:=hfo.ok;simp only[dN,bC,bSw,bWo]at this;omega
    have hl:LOk p S w (o.frames.take (o.frames.length-1)):=⟨by simp only[bT3];omega,fun f hf=>hF f (bVf hf),fun f hf=>k6 f (by rw[hz,bUk];exact hf)⟩
    have hD:=bGm hp hsp h ha hl hfo hfull;rw[show o.frames.length-1=m by omega]at hD⊢
    have hml:m<=o.frames.length:=by omega
    refine cD c30.2 rfl rfl ?_
    simp only[go_sem,kK,c30]
    refine aH ?_
    simp only[go_sem,kK,tP ha,hio,kA,bS0,if_false];simp only[go_sem,kK,d0,dv',hwt,hmn,bM hni,(xS _).ret,dop]
    refine aH ?_
    cases h0:(o.frames.take m).isEmpty with
    |true=>
     have h0':o.frames.take m=[]:=by simpa using h0
     rw[h0']at hD⊢;simp only[bTe]at hD;simp only[go_sem,wG,hml,<-bUd,h0',bTe,bSy,bW,eP,oE,hD.ret,kA,bS0,if_false]
    |false=>
     have h16:(o.frames.take m).length<=16777216:=by simp only[bT3];omega
     generalize hgm:o.frames.take m=dl at*;simp only[go_sem,wG,hml,<-bUd,hgm,bSy,bW,eP,jR,jC,h0,h16,jV,bSx,bTh,hD.ret,kA,bS0,if_false]
 ·have d0:decide (o.n=0)=false:=D_f n0;rw[if_pos n0]
  refine cD c30.2 rfl rfl ?_
  simp only[go_sem,kK,c30]
  refine aH ?_
  simp only[go_sem,kK,tP ha,hio,kA,bS0,if_false];simp only[go_sem,kK,d0,mZ,eM,iV]
def bIe (agg:Bool)(off m:Nat):Val->Option Res
 | .agg cs=>if off+m<=cs.length then(jH agg ((cs.drop off).take m)).map fun v=>{v}else none
 |_=>none
variable {agg:Bool}{off:Nat}
section
variable {d:Nat}{get:Opd->Val}
theorem aNy {x:Opd}:dG d g en get (.fld agg off m x)=bIe agg off m (get x):=(rfl)
theorem aHc {cs:List Val}:bIe agg off m (.agg cs)=if off+m<=cs.length then(jH agg ((cs.drop off).take m)).map fun v=>{v}else none:=(rfl)
end
theorem sQ (h:cP p w0 S w):w.tasks.length<=120:=by
 obtain⟨a1,a2,a3,a4,a5,a6,a7⟩:=cH.1 h.ok;have:=wU a5;omega
theorem aFg {p:aD}: ∀(n:Nat) {a:Nat} {w:aA} {s:Nat},(eE p n a w s).2.2=true->(eE p n a w s).2.1<=max s 5000
 |0,_,_,s,_=>by simp only[eE];omega
 |n+1,a,w,s,h=>by
  obtain⟨h1,h2⟩:=aCz (p:=p) (a:=a) (5000-s) w;unfold eE at h⊢;split
  ·rename_i ha;rw[if_pos ha]at h;split
   ·rename_i hb;rw[if_pos hb]at h;have:=aFg n h;have:=h2 hb;omega
   ·rename_i hb;rw[if_neg hb]at h;cases h
  ·simp only;omega
section
theorem aQl {e4:En}{c4:Nat->Nat->Nat}{w1:aA}{bv4:Val}(t4:TS kt kr e4 c4 p w1 a left f n [] bv4){x:Nat}(hx:((w1.objs.length:Int)-1)=(x:Int))(hop:n.op=19){A1 A2:Option Ent}{b:Bool}:
  WIn L (.fn 314 [] []) [.ptr kt 0,.agg [.i (dQ (x:Int)).kind,.i (dQ (x:Int)).n],.agg [.i bT.kind,.i bT.n]]
   ((((e4.set ⟨0,6,c4 0 6⟩ A1).set ⟨0,6,c4 0 6⟩ A2).set ⟨0,58,c4 0 58⟩ (some (.blk 1 (w1.tasks.map (.int .i64)++[.i (dQ (x:Int)).n]) b))).set kr
    (some (.box [.fz (p.nodes.map aL.enc),.is p.funs,.i p.main,.fz (p.cons.map dC.enc),.fz (w1.objs.map aP.enc),.bl ⟨0,58,c4 0 58⟩ 0 (w1.tasks.length+1),.fz (w1.outs.map bO.enc),.is w1.ins,.i w1.used] false)))
   (aC (aC c4 0 6 (c4 0 6+1)) 0 58 (c4 0 58+1)) fun v en' cnt'=>match pB (.ptr kt 0) [[0]] en' with
    |some en'=>v=aQk (some ⟨a,19,0,nG bT⟩)/\ (∃bv',TS kt kr en' cnt' p (rR w1) a left f n [dQ (x:Int)] bv')/\ eC kt kr e4 c4 en' cnt'
    |none=>False:=by
 have ht:=t4.t;have hr:=t4.r;have s1:=t4.okt.set;have s2:=t4.okr.set;have n1:=t4.okt.new;have n2:=t4.okr.new;have hn:=t4.ne;have x1: ∀(en:En) (e:Option Ent),En.set en kt e kr=en kr:=fun _ _=>aK hn
 have x2: ∀(en:En) (e:Option Ent),En.set en kr e kt=en kt:=fun _ _=>aK hn.symm
 have hu: ∀t,c4 0 t<=aC (aC c4 0 6 (c4 0 6+1)) 0 58 (c4 0 58+1) 0 t:=(by(repeat refine upS ?_ (by omega));exact aO _)
 refine(aQa (f:=f) (n:=n) (by simp only[s1,x2];exact ht) (t4.okt.up hu) (dQ (x:Int)) bT).mono ?_
 rintro v e1 c1 ⟨rfl,tb,old,up⟩
 have h0:TS kt kr (e4.set kt (some (.box [.ptr kr 0,.i a,.fz (left.map aB.enc),.i f.node,.fz (f.env.map aE.enc),.fz (f.vals.map aE.enc),.i n.op,.i n.n,.is n.kids,.fz (n.pats.map Pat.enc),.cl [.agg [.i (dQ (x:Int)).kind,.i (dQ (x:Int)).n]]] false))) c4 p w1 a left f n [dQ (x:Int)] (.cl [.agg [.i (dQ (x:Int)).kind,.i (dQ (x:Int)).n]]):=⟨t4.okt,t4.okr,t4.ne,.inr rfl,cM,by rw[aK t4.ne];exact hr⟩
 have o58:=old ⟨0,58,c4 0 58⟩ ⟨rfl,by simp only[go_sem];omega⟩ t4.okt.ne.symm
 simp only[go_sem,n2]at o58;have okr:=old kr (t4.okr.up hu) t4.ne;simp only[go_sem]at okr;have hA:w1.tasks.map (Val.int .i64)++[.i (dQ (x:Int)).n]=(rR w1).tasks.map (.int .i64):=by simp[rR,dQ,hx]
 rw[hA]at o58;have hF:=bDt h0 (w':=rR w1) (E:=e1) (c:=c1) (by rw[tb,cM]) okr rfl (uP o58 (by simp[rR])) rfl rfl (by simp) (fun k hk k1 k2=>by rw[old k (hk.up hu) k1,aK k1,aK k2,hk.set,hk.set,hk.set]) (fun t=>bS9 (hu t) (up t))
 split at hF
 case h_2=>exact hF.elim
 rename_i E2 hE2;rw[hE2]
 refine⟨?_,hF.1,fun k hk k1 k2=>(hF.2.old k hk k1 k2).trans (aK k1),hF.2.up⟩
 rw[hop];rfl
noncomputable def aKq :{c//L 261=some c}:=cA func261
theorem bGu (P0:Pre p w0 S w a left f n)(h:TS kt kr en cnt p w a left f n [] bv)(hop:n.op=19):sE 261 kt kr en cnt p w a left f n (opR p w a left f n):=by
 have e:opR p w a left f n=(match eW p w (aF f.vals 0) bT with
  |some b=>if 30<b.env.length then .fail 4 else iE w ⟨6,0,[],[b]⟩ fun w' v=>kY (rR w') a left 19 0 v bT
  |none=>if cG w (aF f.vals 0) 5=true then iE w ⟨6,0,[bT],(w.obj (aF f.vals 0).n).frames⟩ fun w' v=>kY (rR w') a left 19 0 v bT else .fail 2):=by unfold opR;rw[hop];rfl
 rw[e];have hfull:=P0.full;simp[aL.asks,hop]at hfull;have hv0:0<f.vals.length:=by omega
 have hu:=P0.val hv0;have h120:=P0.objs;have htl:w.tasks.length+1<=16777216:=by
  have:=wU (cH.1 P0.hF.ok).2.2.2.2.1;omega
 have haT: ∀o,(eF w o).tasks=w.tasks:=fun _=>rfl
 have hd1: ∀x:Int,dA 1 [.i x]=true:=fun _=>rfl
 have H:=h.pre;have ht:=h.t;obtain⟨⟨bv1,h1⟩,k1⟩:=h.stay (cnt':=aC (aC cnt 0 3 (cnt 0 3+1)) 0 4 (cnt 0 4+1)) (en':=((en.set ⟨0,3,cnt 0 3⟩ (some (.box [.i 0,.i 0,.cl [],.cl []] false))).set ⟨0,3,cnt 0 3⟩ (some (.box [.i 6,.i 0,.cl [],.cl []] false))).set ⟨0,4,cnt 0 4⟩ (some (.box [.i 0,.cl [],.cl []] false))) (fun k hk=>by simp only[hk.set]) (by(repeat refine upS ?_ (by omega));exact aO _)
 cases hb:eW p w (aF f.vals 0) bT with
 |some b=>
  obtain⟨bn,be,bvs⟩:=b;have hbv:=aNx hb
  simp only at hbv
  subst hbv
  simp only
  by_cases hc:30<be.length
  ·rw[if_pos hc]
   refine jK aKq.2 rfl rfl ?_
   simp only[go_sem,kK,aKq]
   refine aUe rfl 9 rfl rfl ?_
   simp only[go_sem,bS3,bS2,bUi,bUh,tE,bU1,bU0,ht,H,aT hv0,lA.ret,kA,kF];exact⟨rfl,(aNu h1 P0.hp P0.hF hu hb hc).mono fun _ _ _=>pY.then k1⟩
  ·rw[if_neg hc];have hC:=aNt h1 P0.hp P0.hF hu hb (by show be.length<=30;omega)
   unfold iE
   by_cases h20:120<=w.objs.length
   ·rw[if_pos h20]
    refine jK aKq.2 rfl rfl ?_
    simp only[go_sem,kK,aKq]
    refine pH rfl ?_
    simp only[go_sem,bU1,bU0,ht,H,aT hv0,lA.ret,kA,kF]
    refine hC.mono ?_
    rintro v e1 c1 ⟨⟨ev,hev,_,rfl⟩,⟨bv2,t2⟩,k2⟩
    obtain⟨p3,q3⟩:=k2.loc (d:=3) (g:=cnt 0 3) (by simp[aC]) h.okt.ne.symm h.okr.ne.symm
    obtain⟨p4,q4⟩:=k2.loc (d:=4) (g:=cnt 0 4) (by simp[aC]) h.okt.ne.symm h.okr.ne.symm
    simp only[go_sem]at p3 p4;simp only[go_sem,kK,p4,kA,kF]
    refine⟨rfl,lJ 9 rfl (by simp only[p4,cM];rfl) rfl,?_⟩
    obtain⟨⟨bv3,t3⟩,k3⟩:=h.fin t2 (k1.trans k2) (cnt2:=c1) (en2:=(e1.set ⟨0,4,cnt 0 4⟩ (some (.box [.i bn,ev,.cl []] false))).set ⟨0,3,cnt 0 3⟩ (some (.box [.i 6,.i 0,.cl [],.cl [.agg [.i bn,.fz (be.map aE.enc),.fz []]]] false))) (fun k hk _=>by simp only[hk.set]) (aO _)
    rcases hev with rfl|rfl<;>
    (simp only[go_sem,kB,p3]
     refine cR 2 rfl ?_
     simp only[go_sem,bS3,bS2];exact(pZ t3 (o:=⟨6,0,[],[⟨bn,be,[]⟩]⟩) (by omega) (by omega)).mono fun _ _ _=>pY.then k3)
   ·rw[if_neg h20]
    refine sU aKq.2 rfl rfl ?_
    simp only[go_sem,kK,aKq]
    refine pH rfl ?_
    simp only[go_sem,bU1,bU0,ht,H,aT hv0,lA.ret,kA,kF]
    refine hC.mono ?_
    rintro v e1 c1 ⟨⟨ev,hev,_,rfl⟩,⟨bv2,t2⟩,k2⟩
    obtain⟨p3,q3⟩:=k2.loc (d:=3) (g:=cnt 0 3) (by simp[aC]) h.okt.ne.symm h.okr.ne.symm
    obtain⟨p4,q4⟩:=k2.loc (d:=4) (g:=cnt 0 4) (by simp[aC]) h.okt.ne.symm h.okr.ne.symm
    simp only[go_sem]at p3 p4;simp only[go_sem,kK,p4,kA,kF]
    refine⟨rfl,lJ 9 rfl (by simp only[p4,cM];rfl) rfl,?_⟩
    obtain⟨⟨bv3,t3⟩,k3⟩:=h.fin t2 (k1.trans k2) (cnt2:=c1) (en2:=(e1.set ⟨0,4,cnt 0 4⟩ (some (.box [.i bn,ev,.cl []] false))).set ⟨0,3,cnt 0 3⟩ (some (.box [.i 6,.i 0,.cl [],.cl [.agg [.i bn,.fz (be.map aE.enc),.fz []]]] false))) (fun k hk _=>by simp only[hk.set]) (aO _)
    rcases hev with rfl|rfl<;>
    (simp only[go_sem,kB,p3]
     refine bS ?_
     simp only[go_sem]
     refine(sO t3 (o:=⟨6,0,[],[⟨bn,be,[]⟩]⟩) (.inr rfl) (.inr rfl) (by omega)).mono ?_
     rintro v e4 c4 ⟨rfl,⟨bv4,t4⟩,k4⟩
     have ht4:=t4.t;have hr4:=t4.r;have y1:=t4.okt.set;have y2:=t4.okr.set;have y3:=t4.okt.eqF;have y4:=t4.okt.eqF';have y5:=t4.okr.eqF;have y6:=t4.okr.eqF';have y7:=t4.okt.new;have y8:=t4.okr.new;simp only[go_sem]
     refine aH ?_
     simp only[go_sem,ht4,hr4,kB,y1,y2,y3,bSy,(aJx _).ret,bW,eP,wQ,aDr,hd1,haT,htl,tN,kA,kF]
     refine aH ?_
     simp only[go_sem,y8,lA.ret,kA,kF]
     refine(aQl t4 (x:=w.objs.length) (by simp[eF]) hop).mono fun v en' cnt' hh=>?_
     split at hh
     case h_2=>exact hh.elim
     rename_i E2 hE2;rw[hE2];exact⟨hh.1,hh.2.1,(k3.trans k4).trans hh.2.2⟩)
 |none=>
  simp only
  have hC:=aJ3 h1 hu hb
  by_cases hI:cG w (aF f.vals 0) 5=true
  ·rw[if_pos hI];have hW:=fun e1 c1 bv2 (t2:TS kt kr e1 c1 p w a left f n [] bv2)=>wR t2 (gH hu) 5 hI
   generalize w.obj (aF f.vals 0).n=o at hW⊢;unfold iE
   by_cases h20:120<=w.objs.length
   ·rw[if_pos h20]
    refine jK aKq.2 rfl rfl ?_
    simp only[go_sem,kK,aKq]
    refine pH rfl ?_
    simp only[go_sem,bU1,bU0,ht,H,aT hv0,lA.ret,kA,kF]
    refine hC.mono ?_
    rintro v e1 c1 ⟨⟨xx,rfl,rfl⟩,⟨bv2,t2⟩,k2⟩
    obtain⟨p3,q3⟩:=k2.loc (d:=3) (g:=cnt 0 3) (by simp[aC]) h.okt.ne.symm h.okr.ne.symm
    obtain⟨p4,q4⟩:=k2.loc (d:=4) (g:=cnt 0 4) (by simp[aC]) h.okt.ne.symm h.okr.ne.symm
    simp only[go_sem]at p3 p4;simp only[go_sem,kK,p4,kA,kF]
    refine⟨rfl,lJ 9 rfl (by simp only[p4,cM];rfl) rfl,?_⟩
    obtain⟨⟨bv3,t3⟩,k3⟩:=h.fin t2 (k1.trans k2) (cnt2:=c1) (en2:=e1.set ⟨0,4,cnt 0 4⟩ (some (.box [.i 0,.cl [],.cl []] false))) (fun k hk _=>by simp only[hk.set]) (aO _)
    have ht2:=t2.t
    refine bS ?_
    simp only[go_sem,H,ht2,aT hv0]
    refine(hW _ _ _ t3).mono ?_
    rintro v e4 c4 ⟨rfl,⟨bv4,t4⟩,k4⟩
    obtain⟨r3,u3⟩:=k4.loc (d:=3) (g:=cnt 0 3) q3.2 h.okt.ne.symm h.okr.ne.symm;simp only[go_sem,p3]at r3;simp only[go_sem,kB,aNy,aHc,r3,lA.ret];obtain⟨⟨bv6,t6⟩,k6⟩:=h.fin t4 (k3.trans k4) (cnt2:=c4) (en2:=(e4.set ⟨0,3,cnt 0 3⟩ (some (.box [.i 6,.i 0,.cl [],.fz (o.frames.map aB.enc)] false))).set ⟨0,3,cnt 0 3⟩ (some (.box [.i 6,.i 0,.cl [.agg [.i bT.kind,.i bT.n]],.fz (o.frames.map aB.enc)] false))) (fun k hk _=>by simp only[hk.set]) (aO _)
    refine cR 2 rfl ?_
    simp only[go_sem,bS3,bS2];exact(pZ t6 (o:=⟨6,0,[bT],o.frames⟩) (by omega) (by omega)).mono fun _ _ _=>pY.then k6
   ·rw[if_neg h20]
    refine sU aKq.2 rfl rfl ?_
    simp only[go_sem,kK,aKq]
    refine pH rfl ?_
    simp only[go_sem,bU1,bU0,ht,H,aT hv0,lA.ret,kA,kF]
    refine hC.mono ?_
    rintro v e1 c1 ⟨⟨xx,rfl,rfl⟩,⟨bv2,t2⟩,k2⟩
    obtain⟨p3,q3⟩:=k2.loc (d:=3) (g:=cnt 0 3) (by simp[aC]) h.okt.ne.symm h.okr.ne.symm
    obtain⟨p4,q4⟩:=k2.loc (d:=4) (g:=cnt 0 4) (by simp[aC]) h.okt.ne.symm h.okr.ne.symm
    simp only[go_sem]at p3 p4;simp only[go_sem,kK,p4,kA,kF]
    refine⟨rfl,lJ 9 rfl (by simp only[p4,cM];rfl) rfl,?_⟩
    obtain⟨⟨bv3,t3⟩,k3⟩:=h.fin t2 (k1.trans k2) (cnt2:=c1) (en2:=e1.set ⟨0,4,cnt 0 4⟩ (some (.box [.i 0,.cl [],.cl []] false))) (fun k hk _=>by simp only[hk.set]) (aO _)
    have ht2:=t2.t
    refine bS ?_
    simp only[go_sem,H,ht2,aT hv0]
    refine(hW _ _ _ t3).mono ?_
    rintro v e4 c4 ⟨rfl,⟨bv4,t4⟩,k4⟩
    obtain⟨r3,u3⟩:=k4.loc (d:=3) (g:=cnt 0 3) q3.2 h.okt.ne.symm h.okr.ne.symm;simp only[go_sem,p3]at r3;simp only[go_sem,kB,aNy,aHc,r3,lA.ret];obtain⟨⟨bv6,t6⟩,k6⟩:=h.fin t4 (k3.trans k4) (cnt2:=c4) (en2:=(e4.set ⟨0,3,cnt 0 3⟩ (some (.box [.i 6,.i 0,.cl [],.fz (o.frames.map aB.enc)] false))).set ⟨0,3,cnt 0 3⟩ (some (.box [.i 6,.i 0,.cl [.agg [.i bT.kind,.i bT.n]],.fz (o.frames.map aB.enc)] false))) (fun k hk _=>by simp only[hk.set]) (aO _)
    refine bS ?_
    simp only[go_sem]
    refine(sO t6 (o:=⟨6,0,[bT],o.frames⟩) (.inr rfl) (.inl rfl) (by omega)).mono ?_
    rintro v e7 c7 ⟨rfl,⟨bv7,t7⟩,k7⟩
    have ht7:=t7.t;have hr7:=t7.r;have y1:=t7.okt.set;have y2:=t7.okr.set;have y3:=t7.okt.eqF;have y4:=t7.okt.eqF';have y5:=t7.okr.eqF;have y6:=t7.okr.eqF';have y7:=t7.okt.new;have y8:=t7.okr.new;simp only[go_sem]
    refine aH ?_
    simp only[go_sem,ht7,hr7,kB,y1,y2,y3,bSy,(aJx _).ret,bW,eP,wQ,aDr,hd1,haT,htl,tN,kA,kF]
    refine aH ?_
    simp only[go_sem,y8,lA.ret,kA,kF]
    refine(aQl t7 (x:=w.objs.length) (by simp[eF]) hop).mono fun v en' cnt' hh=>?_
    split at hh
    case h_2=>exact hh.elim
    rename_i E2 hE2;rw[hE2];exact⟨hh.1,hh.2.1,(k6.trans k7).trans hh.2.2⟩
  ·rw[if_neg hI];rw[bT9]at hI
   refine jK aKq.2 rfl rfl ?_
   simp only[go_sem,kK,aKq]
   refine pH rfl ?_
   simp only[go_sem,bU1,bU0,ht,H,aT hv0,lA.ret,kA,kF]
   refine hC.mono ?_
   rintro v e1 c1 ⟨⟨xx,rfl,rfl⟩,⟨bv2,t2⟩,k2⟩
   obtain⟨p3,q3⟩:=k2.loc (d:=3) (g:=cnt 0 3) (by simp[aC]) h.okt.ne.symm h.okr.ne.symm
   obtain⟨p4,q4⟩:=k2.loc (d:=4) (g:=cnt 0 4) (by simp[aC]) h.okt.ne.symm h.okr.ne.symm
   simp only[go_sem]at p3 p4;simp only[go_sem,kK,p4,kA,kF]
   refine⟨rfl,lJ 9 rfl (by simp only[p4,cM];rfl) rfl,?_⟩
   obtain⟨⟨bv3,t3⟩,k3⟩:=h.fin t2 (k1.trans k2) (cnt2:=c1) (en2:=e1.set ⟨0,4,cnt 0 4⟩ (some (.box [.i 0,.cl [],.cl []] false))) (fun k hk _=>by simp only[hk.set]) (aO _)
   have ht2:=t2.t
   refine cR 8 rfl ?_
   simp only[go_sem,bS3,bS2,H,ht2,aT hv0];exact(wS t3 (gH hu) 5 hI).mono fun _ _ _=>pY.then k3
end
def aYw :fR:={np:=1,res:=[.tmp 2],keep:=false,body:=
 (.seq (.ops [mC 2 .nili])
 (.seq (.draw [mT 5 0,
 nK 6 5,
 fA 7 3 6,
 fA 8 2 7,
 l1 9 8,
 o 10 (.ia 2 (.t 9) (cI 0)),
 lT 11 2 10,
 mT 12 0,
 nK 13 12,
 fA 14 3 13,
 fA 15 2 14,
 l1 16 15,
 o 17 (.ia 2 (.t 16) (cI 1)),
 lT 18 2 17,
 o 3 (.alloc [(.int .i64 0),(.int .i64 0)]),
 o 4 (.alloc [(.int .i64 0),(.int .i64 0)]),
 sT 2 3 11,
 sT 2 4 18]
 [(4,14),(5,14),(6,14),(11,14),(12,14),(13,14),(4,15),(5,15),(6,15),(11,15),(12,15),(13,15),(14,15),(11,16),(12,16),(13,16)])
 (.seq (.opsP [fA 19 0 3,
 l1 20 19,
 fA 21 0 4,
 l1 22 21,
 bN 23 .eql (.t 20) (.t 22),
 mT 24 23,
 gF 25 24 true 0 3,
 g1 26 24 true 25,
 gB 27 24 true .leq (.t 26) (cI 3),
 pA 28 24 27,
 cL 29 245 [(.t 28),(cI 2)]])
 (.seq (.ops [mT 30 0,
 lT 31 2 3,
 lT 32 2 4,
 o 33 (.bin .eql (.agg [.num,.num]) (.t 31) (.t 32)),
 cL 34 306 [(.t 33)],
 o 35 (.icall (.f 304) [(.t 30),(.t 34)]),
 mT 2 35])
 .ret))))}
theorem bEb :L 255=some aYw:=by kernel_rfl
variable {K P:Val}
section
theorem bGv (P0:Pre p w0 S w a left f n)(h:TS kt kr en cnt p w a left f n [] bv)(hop:n.op=13):sE 255 kt kr en cnt p w a left f n (opR p w a left f n):=by
 have e:opR p w a left f n=(if¬(aF f.vals 0).kind=(aF f.vals 1).kind \/3<(aF f.vals 0).kind then .fail 2 else jD w left (nW (decide (aF f.vals 0=aF f.vals 1)))):=by unfold opR;rw[hop];rfl
 rw[e];have hfull:=P0.full;simp[aL.asks,hop]at hfull;have hv0:0<f.vals.length:=by omega
 have hv1:1<f.vals.length:=by omega
 have H:=h.pre;have ht:=h.t
 by_cases hk:(aF f.vals 0).kind=(aF f.vals 1).kind
 ·have dk:decide ((aF f.vals 0).kind=(aF f.vals 1).kind)=true:=D_t hk
  by_cases h3:3<(aF f.vals 0).kind
  ·rw[if_pos (.inr h3)];have d3:decide ((aF f.vals 0).kind<=3)=false:=D_f (by omega)
   refine jK bEb rfl rfl ?_
   simp only[go_sem,kK,aYw]
   refine aH ?_
   simp only[go_sem,ht,H,aT hv0,gX hv1,kA,kF]
   refine cR 10 rfl ?_
   simp only[go_sem,kK,bS3,bS2,dk,d3,(kZ _).ret];exact h.fell0 (fun k hk=>by simp only[hk.set]) (by(repeat refine upS ?_ (by omega));exact aO _)
  ·rw[if_neg (by rintro(h|h);exact h hk;exact h3 h)]
   have d3:decide ((aF f.vals 0).kind<=3)=true:=D_t (by omega)
   have hb:(decide ((aF f.vals 0).kind=(aF f.vals 1).kind)&&decide ((aF f.vals 0).n=(aF f.vals 1).n))=decide (aF f.vals 0=aF f.vals 1):=by
    cases aF f.vals 0;cases aF f.vals 1;simp
   refine dP bEb rfl rfl ?_
   simp only[go_sem,kK,aYw]
   refine aH ?_
   simp only[go_sem,ht,H,aT hv0,gX hv1,kA,kF]
   refine bS ?_
   simp only[go_sem,kK,dk,d3,(iL _).ret];rw[dk]at hb
   try simp only[go_sem]at hb
   simp only[go_sem,hb,(aGt _).ret];obtain⟨⟨bv1,h1⟩,k1⟩:=h.stay (cnt':=aC (aC cnt 0 3 (cnt 0 3+1)) 0 4 (cnt 0 4+1)) (en':=(((en.set ⟨0,3,cnt 0 3⟩ (some (.box [.i 0,.i 0] false))).set ⟨0,4,cnt 0 4⟩ (some (.box [.i 0,.i 0] false))).set ⟨0,3,cnt 0 3⟩ (some (.box [.i (aF f.vals 0).kind,.i (aF f.vals 0).n] false))).set ⟨0,4,cnt 0 4⟩ (some (.box [.i (aF f.vals 1).kind,.i (aF f.vals 1).n] false))) (fun k hk=>by simp only[hk.set]) (by(repeat refine upS ?_ (by omega));exact aO _)
   refine(jL h1 _).mono ?_
   rintro v e2 c2 ⟨rfl,t2,k2⟩
   exact⟨rfl,t2,k1.trans k2⟩
 ·rw[if_pos (.inl hk)];have dk:decide ((aF f.vals 0).kind=(aF f.vals 1).kind)=false:=D_f hk
  refine jK bEb rfl rfl ?_
  simp only[go_sem,kK,aYw]
  refine aH ?_
  simp only[go_sem,ht,H,aT hv0,gX hv1,kA,kF]
  refine cR 10 rfl ?_
  simp only[go_sem,kK,bS3,bS2,dk,(kZ _).ret];exact h.fell0 (fun k hk=>by simp only[hk.set]) (by(repeat refine upS ?_ (by omega));exact aO _)
theorem bGw (P0:Pre p w0 S w a left f n)(h:TS kt kr en cnt p w a left f n [] bv)(hop:n.op=16):sE 258 kt kr en cnt p w a left f n (opR p w a left f n):=by
 have e:opR p w a left f n=iE w ⟨3,0,[aF f.vals 0],[]⟩ fun w' v=>kY w' a left 16 0 v (aF f.vals 0):=by unfold opR;rw[hop];rfl
 rw[e];have hfull:=P0.full;simp[aL.asks,hop]at hfull;have hv0:0<f.vals.length:=by omega
 have h120:=P0.objs;have H:=h.pre;have ht:=h.t;unfold iE;obtain⟨⟨bv1,h1⟩,k1⟩:=h.stay (cnt':=aC cnt 0 3 (cnt 0 3+1)) (en':=(en.set ⟨0,3,cnt 0 3⟩ (some (.box [.i 0,.i 0] false))).set ⟨0,3,cnt 0 3⟩ (some (.box [.i (aF f.vals 0).kind,.i (aF f.vals 0).n] false))) (fun k hk=>by simp only[hk.set]) (by(repeat refine upS ?_ (by omega));exact aO _)
 by_cases hc:120<=w.objs.length
 ·rw[if_pos hc]
  refine lK func258 ?_
  simp only[go_sem,kK,ht,aT hv0]
  refine cR 4 rfl ?_
  simp only[go_sem,bS3,bS2,bUi,bUh,kB];exact(pZ h1 (o:=⟨3,0,[aF f.vals 0],[]⟩) hc (by omega)).mono fun _ _ _=>pY.then k1
 ·rw[if_neg hc]
  refine jB func258 ?_
  simp only[go_sem,kK,ht,aT hv0]
  refine bS ?_
  simp only[go_sem,kB]
  refine(sO h1 (o:=⟨3,0,[aF f.vals 0],[]⟩) (.inr rfl) (.inr rfl) (by omega)).mono ?_
  rintro v e1 c1 ⟨rfl,⟨bv2,t2⟩,k2⟩
  obtain⟨p3,q3⟩:=k2.loc (d:=3) (g:=cnt 0 3) (by simp only[go_sem];omega) h.okt.ne.symm h.okr.ne.symm
  simp only[go_sem]at p3;simp only[go_sem,p3,q3.set];obtain⟨⟨bv3,t3⟩,k3⟩:=h.fin t2 (k1.trans k2) (cnt2:=aC c1 0 4 (c1 0 4+1)) (en2:=(e1.set ⟨0,4,c1 0 4⟩ (some (.box [.i 0,.i 0] false))).set ⟨0,4,c1 0 4⟩ (some (.box [.i (dQ w.objs.length).kind,.i (dQ w.objs.length).n] false))) (fun k hk hj=>by simp only[hj.set]) (by(repeat refine upS ?_ (by omega));exact aO _)
  refine(rS t3 (dQ w.objs.length) (aF f.vals 0)).mono ?_
  rintro v e2 c2 ⟨rfl,t4,k4⟩
  refine⟨?_,t4,k3.trans k4⟩
  rw[hop];rfl
theorem bGx (P0:Pre p w0 S w a left f n)(h:TS kt kr en cnt p w a left f n [] bv)(hop:n.op=21):sE 263 kt kr en cnt p w a left f n (opR p w a left f n):=by
 have e:opR p w a left f n=iE w ⟨4,0,[],[]⟩ fun w' v=>kY w' a left 21 0 v bT:=by unfold opR;rw[hop];rfl
 rw[e];have h120:=P0.objs;have H:=h.pre;unfold iE
 by_cases hc:120<=w.objs.length
 ·rw[if_pos hc]
  refine lK func263 ?_
  simp only[go_sem,kK]
  refine cR 2 rfl ?_
  simp only[go_sem,bS3,bS2];exact pZ h (o:=⟨4,0,[],[]⟩) hc (by omega)
 ·rw[if_neg hc]
  refine jB func263 ?_
  simp only[go_sem,kK]
  refine bS ?_
  simp only[go_sem]
  refine(sO h (o:=⟨4,0,[],[]⟩) (.inr rfl) (.inr rfl) (by omega)).mono ?_
  rintro v e1 c1 ⟨rfl,⟨bv2,t2⟩,k2⟩
  try simp only[go_sem]
  refine aH ?_
  simp only[go_sem,lA.ret,kA,kF];obtain⟨⟨bv3,t3⟩,k3⟩:=h.fin t2 k2 (cnt2:=aC c1 0 3 (c1 0 3+1)) (en2:=(e1.set ⟨0,3,c1 0 3⟩ (some (.box [.i 0,.i 0] false))).set ⟨0,3,c1 0 3⟩ (some (.box [.i (dQ w.objs.length).kind,.i (dQ w.objs.length).n] false))) (fun k hk hj=>by simp only[hj.set]) (by(repeat refine upS ?_ (by omega));exact aO _)
  refine(rS t3 (dQ w.objs.length) bT).mono ?_
  rintro v e2 c2 ⟨rfl,t4,k4⟩
  refine⟨?_,t4,k3.trans k4⟩
  rw[hop];rfl
theorem bRd {o:aP}{P:aD}(h:OOk P S w o)(h3:o.form=3):o.vals.length=1:=by
 have hk:=h.ok;simp only[dX,h3]at hk
 simp at hk
 omega
theorem bGy (P0:Pre p w0 S w a left f n)(h:TS kt kr en cnt p w a left f n [] bv)(hop:n.op=17):sE 259 kt kr en cnt p w a left f n (opR p w a left f n):=by
 have e:opR p w a left f n=(if cG w (aF f.vals 0) 3=true then kY w a left 17 0 (aF (w.obj (aF f.vals 0).n).vals 0) (aF (w.obj (aF f.vals 0).n).vals 0)else .fail 2):=by unfold opR;rw[hop];rfl
 rw[e];have hfull:=P0.full;simp[aL.asks,hop]at hfull;have hv0:0<f.vals.length:=by omega
 have hu:=P0.val hv0;have H:=h.pre;have ht:=h.t
 by_cases hI:cG w (aF f.vals 0) 3=true
 ·rw[if_pos hI];obtain⟨a1,a2,a3,a4⟩:=fM P0.hF hu hI;have hl1:=bRd a2 a3
  refine jB func259 ?_
  simp only[go_sem,kK]
  refine bS ?_
  simp only[go_sem,ht,aT hv0]
  refine(wR h (gH hu) 3 hI).mono ?_
  rintro v e1 c1 ⟨rfl,⟨bv2,t2⟩,k2⟩
  try simp only[go_sem,aNy,aHc,aT (l:=(w.obj (aF f.vals 0).n).vals) (by omega)]
  obtain⟨⟨bv3,t3⟩,k3⟩:=h.fin t2 k2 (cnt2:=aC c1 0 3 (c1 0 3+1)) (en2:=(e1.set ⟨0,3,c1 0 3⟩ (some (.box [.i 0,.i 0] false))).set ⟨0,3,c1 0 3⟩ (some (.box [.i (aF (w.obj (aF f.vals 0).n).vals 0).kind,.i (aF (w.obj (aF f.vals 0).n).vals 0).n] false))) (fun k hk hj=>by simp only[hj.set]) (by(repeat refine upS ?_ (by omega));exact aO _)
  refine(rS t3 _ _).mono ?_
  rintro v e2 c2 ⟨rfl,t4,k4⟩
  refine⟨?_,t4,k3.trans k4⟩
  rw[hop];rfl
 ·rw[if_neg hI];rw[bT9]at hI
  refine lK func259 ?_
  simp only[go_sem,kK]
  refine cR 8 rfl ?_
  simp only[go_sem,bS3,bS2,ht,aT hv0];exact wS h (gH hu) 3 hI
theorem bGz (P0:Pre p w0 S w a left f n)(h:TS kt kr en cnt p w a left f n [] bv)(hop:n.op=18):sE 260 kt kr en cnt p w a left f n (opR p w a left f n):=by
 have e:opR p w a left f n=(if cG w (aF f.vals 0) 3=true then kY (dD w (aF f.vals 0).n ⟨3,0,[aF f.vals 1],[]⟩) a left 18 0 bT (aF f.vals 1)else .fail 2):=by unfold opR;rw[hop];rfl
 rw[e];have hfull:=P0.full;simp[aL.asks,hop]at hfull;have hv0:0<f.vals.length:=by omega
 have hv1:1<f.vals.length:=by omega
 have hu:=P0.val hv0;have h120:=P0.objs;have H:=h.pre;have ht:=h.t
 by_cases hI:cG w (aF f.vals 0) 3=true
 ·rw[if_pos hI];obtain⟨a1,a2,a3,a4⟩:=fM P0.hF hu hI;simp only[inR,bWo]at a1;obtain⟨j,hj⟩: ∃j:Nat,(aF f.vals 0).n=(j:Int):=⟨(aF f.vals 0).n.toNat,by omega⟩
  refine jB func260 ?_
  simp only[go_sem,kK]
  refine bS ?_
  simp only[go_sem,ht,aT hv0]
  refine(wR h (gH hu) 3 hI).mono ?_
  rintro v e1 c1 ⟨rfl,⟨bv2,t2⟩,k2⟩
  have ht2:=t2.t
  try simp only[go_sem,kK,H,kB]
  refine aH ?_
  simp only[go_sem,kB,ht2,aT hv0,gX hv1,hj,kA,kF]
  refine(aNb t2 (o:=⟨3,0,[aF f.vals 1],[]⟩) (.inr rfl) (.inr rfl) (j:=j) (by omega) (by omega)).mono ?_
  rintro v e3 c3 ⟨rfl,⟨bv3,t3⟩,k3⟩
  have ht3:=t3.t
  try simp only[go_sem,kK,H,kB,kA,kF]
  refine aH ?_
  simp only[go_sem,ht3,gX hv1,lA.ret,kA,kF]
  refine(rS t3 bT (aF f.vals 1)).mono ?_
  rintro v e4 c4 ⟨rfl,t4,k4⟩
  refine⟨?_,t4,(k2.trans k3).trans k4⟩
  rw[hop];rfl
 ·rw[if_neg hI];rw[bT9]at hI
  refine lK func260 ?_
  simp only[go_sem,kK]
  refine cR 8 rfl ?_
  simp only[go_sem,bS3,bS2,ht,aT hv0];exact wS h (gH hu) 3 hI
noncomputable def aVr :{c//L 262=some c}:=cA func262
theorem bG0 (P0:Pre p w0 S w a left f n)(h:TS kt kr en cnt p w a left f n [] bv)(hop:n.op=20):sE 262 kt kr en cnt p w a left f n (opR p w a left f n):=by
 have e:opR p w a left f n=(if cG w (aF f.vals 0) 6=true then
   (if(w.obj (aF f.vals 0).n).n=0 then .wait
   else if¬(w.obj (aF f.vals 0).n).n=1 then .fail (w.obj (aF f.vals 0).n).n
   else kY w a left 20 0 (aF (w.obj (aF f.vals 0).n).vals 0) (aF (w.obj (aF f.vals 0).n).vals 0))
  else .fail 2):=by unfold opR;rw[hop];rfl
 rw[e];have hfull:=P0.full;simp[aL.asks,hop]at hfull;have hv0:0<f.vals.length:=by omega
 have hu:=P0.val hv0;have H:=h.pre;have ht:=h.t
 by_cases hI:cG w (aF f.vals 0) 6=true
 ·rw[if_pos hI];obtain⟨a1,a2,a3,a4⟩:=fM P0.hF hu hI;have hW:=wR h (gH hu) 6 hI;generalize w.obj (aF f.vals 0).n=o at a2 a3 hW⊢
  by_cases h0:o.n=0
  ·rw[if_pos h0];have d0:decide (o.n=0)=true:=D_t h0
   refine dP aVr.2 rfl rfl ?_
   simp only[go_sem,kK,aVr]
   refine bS ?_
   simp only[go_sem,ht,aT hv0]
   refine hW.mono ?_
   rintro v e1 c1 ⟨rfl,⟨bv2,t2⟩,k2⟩
   simp only[go_sem,kK,d0];exact⟨rfl,h.fin t2 k2 (fun k hk hj=>by simp only[hj.set]) (by(repeat refine upS ?_ (by omega));exact aO _)⟩
  ·rw[if_neg h0];have d0:decide (o.n=0)=false:=D_f h0
   by_cases h1:o.n=1
   ·rw[if_neg (fun h=>h h1)]
    have d1:decide (o.n=1)=true:=D_t h1;have hl1:0<o.vals.length:=by
     have hk:=a2.ok;rw[dX,if_pos a3,kI,if_neg h0,if_pos h1]at hk;simp only[bSw,bWo]at hk;omega
    refine dP aVr.2 rfl rfl ?_
    simp only[go_sem,kK,aVr]
    refine bS ?_
    simp only[go_sem,ht,aT hv0]
    refine hW.mono ?_
    rintro v e1 c1 ⟨rfl,⟨bv2,t2⟩,k2⟩
    simp only[go_sem,kK,d0,d1,aT hl1];obtain⟨⟨bv3,t3⟩,k3⟩:=h.fin t2 k2 (cnt2:=aC c1 0 3 (c1 0 3+1)) (en2:=(e1.set ⟨0,3,c1 0 3⟩ (some (.box [.i 0,.i 0,.cl [],.cl []] false))).set ⟨0,3,c1 0 3⟩ (some (.box [.i o.form,.i o.n,.fz (o.vals.map aE.enc),.fz (o.frames.map aB.enc)] false))) (fun k hk hj=>by simp only[hj.set]) (by(repeat refine upS ?_ (by omega));exact aO _)
    refine(rS t3 _ _).mono ?_
    rintro v e2 c2 ⟨rfl,t4,k4⟩
    refine⟨?_,t4,k3.trans k4⟩
    rw[hop];rfl
   ·rw[if_pos h1];have d1:decide (o.n=1)=false:=D_f h1
    refine jK aVr.2 rfl rfl ?_
    simp only[go_sem,kK,aVr]
    refine bS ?_
    simp only[go_sem,ht,aT hv0]
    refine hW.mono ?_
    rintro v e1 c1 ⟨rfl,⟨bv2,t2⟩,k2⟩
    simp only[go_sem,kK,d0,d1]
    refine cR 4 rfl ?_
    simp only[go_sem,bS3,bS2];exact⟨rfl,h.fell t2 k2 (fun k hk hj=>by simp only[hj.set]) (by(repeat refine upS ?_ (by omega));exact aO _)⟩
 ·rw[if_neg hI];rw[bT9]at hI
  refine jK aVr.2 rfl rfl ?_
  simp only[go_sem,kK,aVr]
  refine cR 8 rfl ?_
  simp only[go_sem,bS3,bS2,ht,aT hv0];exact wS h (gH hu) 6 hI
theorem bG1 (P0:Pre p w0 S w a left f n)(h:TS kt kr en cnt p w a left f n [] bv)(hop:n.op=23):sE 265 kt kr en cnt p w a left f n (opR p w a left f n):=by
 have e:opR p w a left f n=(if cG w (aF f.vals 0) 4=true then
   (if(w.obj (aF f.vals 0).n).vals.length=0 then .wait
   else kY (dD w (aF f.vals 0).n ⟨4,0,(w.obj (aF f.vals 0).n).vals.drop 1,[]⟩) a left 23 0 (aF (w.obj (aF f.vals 0).n).vals 0) (aF (w.obj (aF f.vals 0).n).vals 0))
  else .fail 2):=by unfold opR;rw[hop];rfl
 rw[e];have hfull:=P0.full;simp[aL.asks,hop]at hfull;have hv0:0<f.vals.length:=by omega
 have hu:=P0.val hv0;have h120:=P0.objs;have H:=h.pre;have ht:=h.t
 by_cases hI:cG w (aF f.vals 0) 4=true
 ·rw[if_pos hI];obtain⟨a1,a2,a3,a4⟩:=fM P0.hF hu hI;have hW:=wR h (gH hu) 4 hI;simp only[inR,bWo]at a1;obtain⟨j,hj⟩: ∃j:Nat,(aF f.vals 0).n=(j:Int):=⟨(aF f.vals 0).n.toNat,by omega⟩
  generalize w.obj (aF f.vals 0).n=o at a2 a3 hW⊢;have hk:=a2.ok;simp only[dX,a3]at hk
  simp at hk
  obtain⟨q1,q2,q3⟩:=hk
  by_cases h0:o.vals.length=0
  ·rw[if_pos h0];have d0:decide ((o.vals.length:Int)=0)=true:=D_t (by omega)
   have d0':decide (o.vals.length=0)=true:=D_t h0
   refine jB func265 ?_
   simp only[go_sem,kK]
   refine bS ?_
   simp only[go_sem,ht,aT hv0]
   refine hW.mono ?_
   rintro v e1 c1 ⟨rfl,⟨bv2,t2⟩,k2⟩
   simp only[go_sem,kK,bSy,d0];exact⟨rfl,h.fin t2 k2 (fun k hk hj=>by simp only[hj.set]) (by(repeat refine upS ?_ (by omega));exact aO _)⟩
  ·rw[if_neg h0];have d0:decide ((o.vals.length:Int)=0)=false:=D_f (by omega)
   have d0':decide (o.vals.length=0)=false:=D_f h0
   refine jB func265 ?_
   simp only[go_sem,kK]
   refine bS ?_
   simp only[go_sem,ht,aT hv0]
   refine hW.mono ?_
   rintro v e1 c1 ⟨rfl,⟨bv2,t2⟩,k2⟩
   have ht2:=t2.t;have z1:=t2.okt.set;simp only[go_sem,kK,z1,ht2,bSy,d0,aT (l:=o.vals) (by omega),aD0 (xs:=o.vals.map aE.enc) (by rw[bSy];omega) (uO _),<-bVw,aT hv0,hj]
   obtain⟨⟨bv3,t3⟩,k3⟩:=h.fin t2 k2 (cnt2:=aC (aC c1 0 3 (c1 0 3+1)) 0 4 (c1 0 4+1)) (en2:=((((e1.set ⟨0,3,c1 0 3⟩ (some (.box [.i 0,.i 0,.cl [],.cl []] false))).set ⟨0,3,c1 0 3⟩ (some (.box [.i o.form,.i o.n,.fz (o.vals.map aE.enc),.fz (o.frames.map aB.enc)] false))).set ⟨0,4,c1 0 4⟩ (some (.box [.i 0,.i 0] false))).set ⟨0,4,c1 0 4⟩ (some (.box [.i (aF o.vals 0).kind,.i (aF o.vals 0).n] false))).set ⟨0,3,c1 0 3⟩ (some (.box [.i o.form,.i o.n,.fz ((o.vals.drop 1).map aE.enc),.fz (o.frames.map aB.enc)] false))) (fun k hk hj=>by simp only[hj.set]) (by(repeat refine upS ?_ (by omega));exact aO _)
   refine(aNb t3 (o:=⟨o.form,o.n,o.vals.drop 1,o.frames⟩) (.inl rfl) (.inl rfl) (j:=j) (by omega) (by omega)).mono ?_
   rintro v e3 c3 ⟨rfl,⟨bv4,t4⟩,k4⟩
   obtain⟨p4,q4⟩:=k4.loc (d:=4) (g:=c1 0 4) (by simp only[go_sem];omega) t2.okt.ne.symm t2.okr.ne.symm
   simp only[go_sem]at p4;simp only[go_sem,p4]
   refine(rS t4 (aF o.vals 0) (aF o.vals 0)).mono ?_
   rintro v e5 c5 ⟨rfl,t5,k5⟩
   have eo:(⟨o.form,o.n,o.vals.drop 1,o.frames⟩:aP)=⟨4,0,o.vals.drop 1,[]⟩:=by rw[a3,q1,q2]
   rw[eo]at t5
   refine⟨?_,t5,(k3.trans k4).trans k5⟩
   rw[hop];rfl
 ·rw[if_neg hI];rw[bT9]at hI
  refine lK func265 ?_
  simp only[go_sem,kK]
  refine cR 8 rfl ?_
  simp only[go_sem,bS3,bS2,ht,aT hv0];exact wS h (gH hu) 4 hI
theorem bG2 (P0:Pre p w0 S w a left f n)(h:TS kt kr en cnt p w a left f n [] bv)(hop:n.op=24):sE 266 kt kr en cnt p w a left f n (opR p w a left f n):=by
 have e:opR p w a left f n=(if¬(aF f.vals 0).kind=1 then .fail 2
  else if 100<=w.outs.length then .fail 4
  else kY ⟨w.objs,w.tasks,w.outs++[⟨n.n,(aF f.vals 0).n⟩],w.ins,w.used⟩ a left 24 n.n bT (aF f.vals 0)):=by unfold opR;rw[hop];rfl
 rw[e];have hfull:=P0.full;simp[aL.asks,hop]at hfull;have hv0:0<f.vals.length:=by omega
 have h100:w.outs.length<=100:=(cH.1 P0.hF.ok).2.1;have H:=h.pre;have ht:=h.t;have hr:=h.r
 by_cases h1:(aF f.vals 0).kind=1
 ·rw[if_neg (fun h=>h h1)]
  have d1:decide ((aF f.vals 0).kind=1)=true:=D_t h1
  by_cases hc:100<=w.outs.length
  ·rw[if_pos hc];have d2:decide ((w.outs.length:Int)<100)=false:=D_f (by omega)
   refine lK func266 ?_
   simp only[go_sem,kK,ht,aT hv0]
   refine bS ?_
   simp only[go_sem,d1,(iL _).ret]
   refine cR 10 rfl ?_
   simp only[go_sem,bS3,bS2,H,ht,hr,bSy,d2,(kZ _).ret];exact h.fell0 (fun k hk=>by simp only[hk.set]) (by(repeat refine upS ?_ (by omega));exact aO _)
  ·rw[if_neg hc];have d2:decide ((w.outs.length:Int)<100)=true:=D_t (by omega)
   have hl:w.outs.length+1<=16777216:=by omega
   have hd1:dA 2 [.agg [.i n.n,.i (aF f.vals 0).n]]=true:=rfl;have hL:=at_ func266
   conv at hL=>rhs;reduce
   refine sU hL rfl rfl ?_
   simp only[go_sem,kK,ht,aT hv0]
   refine bS ?_
   simp only[go_sem,d1,(iL _).ret]
   refine bS ?_
   simp only[go_sem,H,ht,hr,bSy,d2,(iL _).ret]
   refine aH ?_
   simp only[go_sem,ht,hr,H,kB,bSy,(aU6 _).ret,bW,eP,wQ,aR7,hd1,hl,tN,kA,kF]
   refine aH ?_
   simp only[go_sem,H,lA.ret,kA,kF];have hu: ∀t,cnt 0 t<=aC (aC cnt 0 3 (cnt 0 3+1)) 0 48 (cnt 0 48+1) 0 t:=(by(repeat refine upS ?_ (by omega));exact aO _)
   refine(aQa (f:=f) (n:=n) (by simp only[H];exact ht) (h.okt.up hu) bT (aF f.vals 0)).mono ?_
   rintro v e1 c1 ⟨rfl,tb,old,up⟩
   have h0:TS kt kr (en.set kt (some (.box [.ptr kr 0,.i a,.fz (left.map aB.enc),.i f.node,.fz (f.env.map aE.enc),.fz (f.vals.map aE.enc),.i n.op,.i n.n,.is n.kids,.fz (n.pats.map Pat.enc),.cl [.agg [.i bT.kind,.i bT.n]]] false))) cnt p w a left f n [bT] (.cl [.agg [.i bT.kind,.i bT.n]]):=⟨h.okt,h.okr,h.ne,.inr rfl,cM,by rw[aK h.ne];exact hr⟩
   have o48:=old ⟨0,48,cnt 0 48⟩ ⟨rfl,by simp only[go_sem];omega⟩ h.okt.ne.symm
   simp only[go_sem,H]at o48;have okr:=old kr (h.okr.up hu) h.ne;simp only[go_sem]at okr;have hA:w.outs.map bO.enc++[.agg [.i n.n,.i (aF f.vals 0).n]]=(w.outs++[(⟨n.n,(aF f.vals 0).n⟩:bO)]).map bO.enc:=by simp[bO.enc]
   rw[hA]at o48;have hF:=bDt h0 (w':=⟨w.objs,w.tasks,w.outs++[⟨n.n,(aF f.vals 0).n⟩],w.ins,w.used⟩) (E:=e1) (c:=c1) (by rw[tb,cM]) okr rfl rfl (uP o48 (by simp)) rfl (by simp) (fun k hk k1 k2=>by rw[old k (hk.up hu) k1,aK k1,aK k2,hk.set,hk.set,hk.set]) (fun t=>bS9 (hu t) (up t))
   split at hF
   case h_2=>exact hF.elim
   rename_i E2 hE2;rw[hE2]
   refine⟨?_,hF.1,fun k hk k1 k2=>(hF.2.old k hk k1 k2).trans (aK k1),hF.2.up⟩
   rw[hop];rfl
 ·rw[if_pos h1];have d1:decide ((aF f.vals 0).kind=1)=false:=D_f h1
  refine lK func266 ?_
  simp only[go_sem,kK,ht,aT hv0]
  refine cR 3 rfl ?_
  simp only[go_sem,bS3,bS2,d1,(kZ _).ret];exact h.fell0 (fun k hk=>by simp only[hk.set]) (by(repeat refine upS ?_ (by omega));exact aO _)
theorem bG3 {xs:List Int}:mH 1 en (.fz (.i x::xs.map (.int .i64))) (.i 0)=some {v:= .fp [.i x] 0}:=(rfl)
theorem bG4 (P0:Pre p w0 S w a left f n)(h:TS kt kr en cnt p w a left f n [] bv)(hop:n.op=25):sE 267 kt kr en cnt p w a left f n (opR p w a left f n):=by
 have e:opR p w a left f n=(match w.ins with
  |[]=> .wait
  |x::xs=>if 1000000000<=w.used then .fail 4 else kY ⟨w.objs,w.tasks,w.outs,xs,w.used+1⟩ a left 25 0 (nP x) (nP x)):=by unfold opR;rw[hop];rfl
 rw[e];have h50:w.used<=1000000000/\ 0<=w.used:=by
  have:=(cH.1 P0.hF.ok).2.2.2.1;simp only[inR,bWo]at this;omega
 have H:=h.pre;have hn:=h.ne;have ht:=h.t;have hr:=h.r;cases hi:w.ins with
 |nil=>
  rw[hi]at hr;simp only[Val.is,bTe]at hr
  refine jB func267 ?_
  simp only[go_sem,kK,ht,hr,bTd];exact⟨rfl,⟨bv,h⟩,eC.refl _ _ _ _⟩
 |cons x xs=>
  rw[hi]at hr;simp only[Val.is,bTv]at hr;have hlx:xs.length<=50:=by
   have:=(cH.1 P0.hF.ok).2.2.1;rw[hi]at this;simp only[oB,bSw,bWo,bS8]at this;omega
  have d0:decide ((xs.length+1:Nat)=0)=false:=D_f (by omega)
  have d0':decide (((xs.length+1:Nat):Int)=0)=false:=D_f (by omega)
  simp only
  by_cases hu:1000000000<=w.used
  ·rw[if_pos hu];have d1:decide (w.used<1000000000)=false:=D_f (by omega)
   refine lK func267 ?_
   simp only[go_sem,kK,ht,hr,bS8,bSy,d0']
   refine cR 9 rfl ?_
   simp only[go_sem,bS3,bS2,ht,hr,d1,(kZ _).ret];exact h.fell0 (fun _ _=>rfl) (aO _)
  ·rw[if_neg hu];have d1:decide (w.used<1000000000)=true:=D_t (by omega)
   have hw:IntKind.i64.wrap (w.used+1)=w.used+1:=aV (by omega)
   refine jB func267 ?_
   simp only[go_sem,kK,ht,hr,bS8,bSy,d0']
   refine bS ?_
   simp only[go_sem,ht,hr,d1,(iL _).ret];simp only[go_sem,H,ht,hr,bG3,(vA _).ret,aD0 (size:=1) (xs:= .i x::xs.map (.int .i64)) (by simp) rfl,hw]
   refine WIn.mono (rS (w:=⟨w.objs,w.tasks,w.outs,xs,w.used+1⟩) (left:=left) (back:=[]) (bv:=bv) ⟨h.okt.up (by(repeat refine upS ?_ (by omega));exact aO _),h.okr.up (by(repeat refine upS ?_ (by omega));exact aO _),hn,h.ob,by simp only[H];exact ht,cM⟩ (nP x) (nP x)) ?_
   rintro v e2 c2 ⟨rfl,t4,k4⟩
   refine⟨?_,t4,(show eC kt kr en cnt _ _ from⟨fun k hk a b=>by simp only[hk.set,aK b],(by(repeat refine upS ?_ (by omega));exact aO _)⟩).trans k4⟩
   rw[hop];rfl
theorem bG5 (P0:Pre p w0 S w a left f n)(h:TS kt kr en cnt p w a left f n [] bv)(hop:n.op=22):sE 264 kt kr en cnt p w a left f n (opR p w a left f n):=by
 have e:opR p w a left f n=(if cG w (aF f.vals 0) 4=true then
   (if 4<=(w.obj (aF f.vals 0).n).vals.length then .wait
   else kY (dD w (aF f.vals 0).n ⟨4,0,(w.obj (aF f.vals 0).n).vals++[aF f.vals 1],[]⟩) a left 22 0 bT (aF f.vals 1))
  else .fail 2):=by unfold opR;rw[hop];rfl
 rw[e];have hfull:=P0.full;simp[aL.asks,hop]at hfull;have hv0:0<f.vals.length:=by omega
 have hv1:1<f.vals.length:=by omega
 have hu:=P0.val hv0;have h120:=P0.objs;have H:=h.pre;have ht:=h.t
 by_cases hI:cG w (aF f.vals 0) 4=true
 ·rw[if_pos hI];obtain⟨a1,a2,a3,a4⟩:=fM P0.hF hu hI;have hW:=wR h (gH hu) 4 hI;simp only[inR,bWo]at a1;obtain⟨j,hj⟩: ∃j:Nat,(aF f.vals 0).n=(j:Int):=⟨(aF f.vals 0).n.toNat,by omega⟩
  generalize w.obj (aF f.vals 0).n=o at a2 a3 hW⊢;have hk:=a2.ok;simp only[dX,a3]at hk
  simp at hk
  obtain⟨q1,q2,q3⟩:=hk;have hq4:o.vals.length<=4:=by
   simp only[bC,bSw,bWo]at q3;omega
  by_cases h0:4<=o.vals.length
  ·rw[if_pos h0];have d0:decide ((o.vals.length:Int)=4)=true:=D_t (by omega)
   have d0':decide (o.vals.length=4)=true:=D_t (by omega)
   refine jB func264 ?_
   simp only[go_sem,kK]
   refine bS ?_
   simp only[go_sem,ht,aT hv0]
   refine hW.mono ?_
   rintro v e1 c1 ⟨rfl,⟨bv2,t2⟩,k2⟩
   simp only[go_sem,kK,bSy,d0];exact⟨rfl,h.fin t2 k2 (fun k hk hj=>by simp only[hj.set]) (by(repeat refine upS ?_ (by omega));exact aO _)⟩
  ·rw[if_neg h0];have d0:decide ((o.vals.length:Int)=4)=false:=D_f (by omega)
   have d0':decide (o.vals.length=4)=false:=D_f (by omega)
   refine jB func264 ?_
   simp only[go_sem,kK]
   refine bS ?_
   simp only[go_sem,ht,aT hv0]
   refine hW.mono ?_
   rintro v e1 c1 ⟨rfl,⟨bv2,t2⟩,k2⟩
   have ht2:=t2.t;have z1:=t2.okt.set;have z2:=t2.okr.set;have z3:=t2.okt.eqF;have z4:=t2.okt.eqF';have hl:o.vals.length+1<=16777216:=by omega
   simp only[go_sem,kK,bSy,d0]
   refine aH ?_
   simp only[go_sem,kB,z1,ht2,(aCv _).ret,gX hv1,bW,eP,wQ,uO,aDs,hl,bSy,tN,aT hv0,hj,kA,kF];have hA:o.vals.map aE.enc++[.agg [.i (aF f.vals 1).kind,.i (aF f.vals 1).n]]=(o.vals++[aF f.vals 1]).map aE.enc:=by simp[aE.enc]
   rw[hA,show o.vals.length+1=(o.vals++[aF f.vals 1]).length by simp]
   refine WIn.mono (aXl (o:=⟨o.form,o.n,o.vals++[aF f.vals 1],o.frames⟩) (t:=30) (g:=c1 0 30) (t2.to (by simp only[z1]) (by simp only[z2]) (by(repeat refine upS ?_ (by omega));exact aO _)) (b:=!(o.vals.map aE.enc).isEmpty) (by simp only[go_sem]) (by simp only[go_sem];omega) (.inl rfl) (j:=j) (by omega) (by omega)) ?_
   rintro v e3 c3 ⟨rfl,⟨bv3,t3⟩,old3,up3⟩
   have ht3:=t3.t
   try simp only[go_sem,kK,H,kB]
   refine aH ?_
   simp only[go_sem,ht3,gX hv1,lA.ret,kA,kF]
   refine(rS t3 bT (aF f.vals 1)).mono ?_
   rintro v e4 c4 ⟨rfl,t4,k4⟩
   have eo:(⟨o.form,o.n,o.vals++[aF f.vals 1],o.frames⟩:aP)=⟨4,0,o.vals++[aF f.vals 1],[]⟩:=by rw[a3,q1,q2]
   rw[eo]at t4;have hu1: ∀t,c1 0 t<=aC (aC c1 0 3 (c1 0 3+1)) 0 30 (c1 0 30+1) 0 t:=(by(repeat refine upS ?_ (by omega));exact aO _)
   refine⟨?_,t4,(show eC kt kr en cnt e3 c3 from⟨fun k hk x y=>?_,fun t=>bS9 (k2.up t) (bS9 (hu1 t) (up3 t))⟩).trans k4⟩
   ·rw[hop];rfl
   ·have hk1:=hk.up k2.up;rw[old3 k (hk1.up hu1) x y hk1.ne,hk1.set,hk1.set,hk1.set,hk1.set];exact k2.old k hk x y
 ·rw[if_neg hI];rw[bT9]at hI
  refine lK func264 ?_
  simp only[go_sem,kK]
  refine cR 8 rfl ?_
  simp only[go_sem,bS3,bS2,ht,aT hv0];exact wS h (gH hu) 4 hI
def pL :List Nat:=[247,247,247,248,249,250,251,252,253,253,253,254,255,256,257,258,259,260,261,262,263,264,265,266,267,268,269,270]
def bKb :List Val:= .nilf::pL.map fun f=> .fn f [] []
theorem aO7 :PC L 208 [] (.agg bKb):=by
 exact⟨12,fun n hn=>aB9 hn (show mB L 12 208 []=some (.agg bKb)by kernel_rfl)⟩
theorem bEc (P0:Pre p w0 S w a left f n)(h:TS kt kr en cnt p w a left f n [] bv):sE (pL.getD (n.op.toNat-1) 0) kt kr en cnt p w a left f n (opR p w a left f n):=by
 obtain⟨o1,o2⟩:=aNr P0.node;have ho:n.op=1 \/n.op=2 \/n.op=3 \/n.op=4 \/n.op=5 \/n.op=6 \/n.op=7 \/n.op=8 \/n.op=9 \/n.op=10 \/n.op=11 \/n.op=12 \/n.op=13 \/n.op=14 \/n.op=15 \/n.op=16 \/n.op=17 \/n.op=18 \/n.op=19 \/n.op=20 \/n.op=21 \/n.op=22 \/n.op=23 \/n.op=24 \/n.op=25 \/n.op=26 \/n.op=27 \/n.op=28:=by omega
 rcases ho with ho|ho|ho|ho|ho|ho|ho|ho|ho|ho|ho|ho|ho|ho|ho|ho|ho|ho|ho|ho|ho|ho|ho|ho|ho|ho|ho|ho
 ·rw[show pL.getD (n.op.toNat-1) 0=247 from by rw[ho];rfl];exact bJ3 h ho
 ·rw[show pL.getD (n.op.toNat-1) 0=247 from by rw[ho];rfl];exact bJ5 h ho
 ·rw[show pL.getD (n.op.toNat-1) 0=247 from by rw[ho];rfl];exact bJ6 h ho
 ·rw[show pL.getD (n.op.toNat-1) 0=248 from by rw[ho];rfl];exact bJ7 P0 h ho
 ·rw[show pL.getD (n.op.toNat-1) 0=249 from by rw[ho];rfl];exact bJ8 P0 h ho
 ·rw[show pL.getD (n.op.toNat-1) 0=250 from by rw[ho];rfl];exact bKa P0 h ho
 ·rw[show pL.getD (n.op.toNat-1) 0=251 from by rw[ho];rfl];exact bJ4 P0 h ho
 ·rw[show pL.getD (n.op.toNat-1) 0=252 from by rw[ho];rfl];exact bJ9 P0 h ho
 ·rw[show pL.getD (n.op.toNat-1) 0=253 from by rw[ho];rfl];exact aNv P0 h (by omega)
 ·rw[show pL.getD (n.op.toNat-1) 0=253 from by rw[ho];rfl];exact aNv P0 h (by omega)
 ·rw[show pL.getD (n.op.toNat-1) 0=253 from by rw[ho];rfl];exact aNv P0 h (by omega)
 ·rw[show pL.getD (n.op.toNat-1) 0=254 from by rw[ho];rfl];exact bGq P0 h ho
 ·rw[show pL.getD (n.op.toNat-1) 0=255 from by rw[ho];rfl];exact bGv P0 h ho
 ·rw[show pL.getD (n.op.toNat-1) 0=256 from by rw[ho];rfl];exact bGp P0 h ho
 ·rw[show pL.getD (n.op.toNat-1) 0=257 from by rw[ho];rfl];exact bGr P0 h ho
 ·rw[show pL.getD (n.op.toNat-1) 0=258 from by rw[ho];rfl];exact bGw P0 h ho
 ·rw[show pL.getD (n.op.toNat-1) 0=259 from by rw[ho];rfl];exact bGy P0 h ho
 ·rw[show pL.getD (n.op.toNat-1) 0=260 from by rw[ho];rfl];exact bGz P0 h ho
 ·rw[show pL.getD (n.op.toNat-1) 0=261 from by rw[ho];rfl];exact bGu P0 h ho
 ·rw[show pL.getD (n.op.toNat-1) 0=262 from by rw[ho];rfl];exact bG0 P0 h ho
 ·rw[show pL.getD (n.op.toNat-1) 0=263 from by rw[ho];rfl];exact bGx P0 h ho
 ·rw[show pL.getD (n.op.toNat-1) 0=264 from by rw[ho];rfl];exact bG5 P0 h ho
 ·rw[show pL.getD (n.op.toNat-1) 0=265 from by rw[ho];rfl];exact bG1 P0 h ho
 ·rw[show pL.getD (n.op.toNat-1) 0=266 from by rw[ho];rfl];exact bG2 P0 h ho
 ·rw[show pL.getD (n.op.toNat-1) 0=267 from by rw[ho];rfl];exact bG4 P0 h ho
 ·rw[show pL.getD (n.op.toNat-1) 0=268 from by rw[ho];rfl];exact bGn P0 h ho
 ·rw[show pL.getD (n.op.toNat-1) 0=269 from by rw[ho];rfl];exact bGs P0 h ho
 ·rw[show pL.getD (n.op.toNat-1) 0=270 from by rw[ho];rfl];exact bGo h ho
theorem aYx {o m:Int}{F E B:Val}{es vs ks ps bs:List Val}{KK:List Key}(h:en kt=some (.box [.ptr kr 0,.i a,F,.i i,E,V,.i o,.i m,K,P,B] false))(hF:cU en F=some (.fz xs,KK))(hE:iY E es)(hV:iY V vs)(hK:iY K ks)(hP:iY P ps)(hB:iY B bs)(hk:kt∉KK):
  pB (.ptr kt 0) [[]] en=some ((W.applyAll en (KK.map .frz)).set kt (some (.box [.ptr kr 0,.i a,.fz xs,.i i,.fz es,.fz vs,.i o,.i m,.fz ks,.fz ps,.fz bs] false))):=by
 have:=aGv (rs:=[(.ptr kr 0,[]),(.i a,[]),(.fz xs,KK),(.i i,[]),(.fz es,[]),(.fz vs,[]),(.i o,[]),(.i m,[]),(.fz ks,[]),(.fz ps,[]),(.fz bs,[])]) h (by simp only[aDo,aGa,aU7,aGu,hF,sN hE,sN hV,sN hK,sN hP,sN hB]) (by simpa using hk)
 simp only[bVk,bU3,bT1,bT4,bTv,bTe]at this;exact aM9 this
structure TB (kt kr:Key) (en:En) (cnt:Nat->Nat->Nat) (p:aD) (w:aA) (a:Int) (n:aL) (K P:Val):Prop where
 okt:Old kt cnt
 okr:Old kr cnt
 ne:kr≠kt
 hK:iY K (n.kids.map (.int .i64))
 hP:iY P (n.pats.map Pat.enc)
 t:en kt=some (.box [.ptr kr 0,.i a,.cl [],.i 0,.cl [],.cl [],.i n.op,.i n.n,K,P,.cl []] false)
 r:en kr=some (.box [.fz (p.nodes.map aL.enc),.is p.funs,.i p.main,.fz (p.cons.map dC.enc),.fz (w.objs.map aP.enc),.is w.tasks,.fz (w.outs.map bO.enc),.is w.ins,.i w.used] false)
theorem TB.pre (h:TB kt kr en cnt p w a n K P):type_of%(bGh h.okt h.okr h.ne):=bGh h.okt h.okr h.ne
theorem vE (h:TB kt kr en cnt p w a n K P){l:List aB}{lv:Val}(hl:iY lv (l.map aB.enc))(hc:l.length<=40):
  WIn L (.fn 204 [] []) [.ptr kt 0,lv] en cnt fun v en' cnt'=>v= .tup []/\ (∃bv',TS kt kr en' cnt' p w a l ⟨0,[],[]⟩ n [] bv')/\ eC kt kr en cnt en' cnt':=by
 have hw:IntKind.i64.wrap ((0:Int)+(l.length:Int))=((l.length:Nat):Int):=by rw[aV (by omega)];omega
 have hw':IntKind.i64.wrap (l.length:Int)=((l.length:Nat):Int):=aV (by omega)
 have d:decide (((l.length:Nat):Int)<=40)=true:=D_t (by omega)
 have hlen:uC lv=some l.length:=by rw[hl.len,bSy]
 have hel:=hl.elems;have s1:=h.okt.set;have s2:=h.okr.set;have n1:=h.okt.new;have hl16:l.length<=16777216:=by omega
 have hC:=aEh [];have ht:=h.t;have hr:=h.r;have hL:=at_ func204
 conv at hL=>rhs;reduce
 refine sU hL rfl rfl ?_
 simp only[go_sem,kK]
 refine bS ?_
 simp only[go_sem,ht,hlen,bTd,Int.natCast_zero,Int.zero_add,hw',d,(iL _).ret,hC.ret,bW,eP,hel,wQ,jV,aFe,bTw,bSy,hl16]
 by_cases hl0:l=[]
 ·subst hl0;simp only[go_sem,bTe,aM8,rH,lZ,ht];rw[aYx (KK:=[]) (es:=[]) (vs:=[]) (bs:=[]) cM rfl (.inr rfl) (.inr rfl) h.hK h.hP (.inr rfl) (by simp)]
  simp only[bTe,gD];exact⟨⟨_,h.okt,h.okr,h.ne,.inl rfl,cM,by rw[aK h.ne,aK h.ne];exact hr⟩,fun k hk a b=>by rw[aK a,aK a],fun _=>bSx _⟩
 ·have hne:l.map aB.enc≠[]:=by simpa using hl0
  have nk:kt≠⟨0,21,cnt 0 21⟩:=h.okt.ne;have nr:kr≠⟨0,21,cnt 0 21⟩:=h.okr.ne;simp only[go_sem,aDt hne,wM,oD,s1,ht,bSy];rw[aYx (KK:=[⟨0,21,cnt 0 21⟩]) (xs:=l.map aB.enc) (es:=[]) (vs:=[]) (bs:=[]) cM (uP (by rw[n1];exact cM) (by simp)) (.inr rfl) (.inr rfl) h.hK h.hP (.inr rfl) (by simpa using nk)]
  simp only[bTv,bTe,lF,gD];have hu:=upS (aO cnt) (a:=21) (x:=cnt 0 21+1) (by omega)
  refine⟨⟨_,h.okt.up hu,h.okr.up hu,h.ne,.inl rfl,cM,?_⟩,fun k hk a b=>?_,hu⟩
  ·rw[aK h.ne,frz_other nr,aK h.ne,s2];exact hr
  ·rw[aK a,frz_other hk.ne,aK a,hk.set]
end
end Go.Proofs.YtmafmhjndjmalaaGreat

