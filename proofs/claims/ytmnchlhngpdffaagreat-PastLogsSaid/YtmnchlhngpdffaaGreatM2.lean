/- Contracts of functions of the program and of the document: part 2. -/
import Derived.Test.YtmnchlhngpdffaaGreatM1
set_option linter.all false
open Bool renaming and_eq_true -> bPp, and_true -> bRl, eq_iff_iff -> bRd, false_eq_true -> bPs, not_eq_true -> bQ0, not_eq_true' -> bQ2, or_true -> bRq, true_and -> bQn
open Int renaming eq_ofNat_of_zero_le -> bQv, natCast_nonneg -> bSa, toNat_natCast -> bQo, toNat_of_nonneg -> bS4
open List renaming all_cons -> bR3, all_eq_true -> bPv, any_eq_true -> bSn, append_nil -> bQr, cons_append -> bR5, countP_le_length -> bS0, countP_pos_iff -> bS5, drop_eq_getElem_cons -> bQu, drop_length -> bRf, drop_zero -> bRy, flatMap_cons -> bR8, flatMap_nil -> bRt, getD_eq_getElem?_getD -> bPu, getElem?_append_left -> bSx, getElem?_cons_zero -> bR9, getElem?_eq_getElem -> bQz, getElem?_set -> bSg, getElem_mem -> bPz, length_append -> bP9, length_cons -> bPy, length_drop -> bR6, length_filter_le -> bS7, length_map -> bPr, length_nil -> bP7, length_pos_iff -> bSj, length_set -> bRp, length_singleton -> bSd, length_take -> bQx, map_append -> bQs, map_cons -> bQj, map_drop -> bSp, map_nil -> bP1, map_set -> bR4, map_take -> bRe, mem_append -> bQe, mem_append_left -> bR1, mem_append_right -> bRv, mem_cons -> bQm, mem_cons_of_mem -> bRu, mem_filter -> bRa, mem_flatMap -> bQ3, mem_map -> bQk, mem_of_mem_take -> bR0, mem_or_eq_of_mem_set -> bTb, mem_range -> bQl, mem_singleton -> bQ1, nil_append -> bQt, prefix_refl -> bSo, replicate_succ -> bQ5, replicate_zero -> bQ4, set_cons_succ -> bRs, set_cons_zero -> bRr, take_length -> bQ6, take_of_length_le -> bQa, take_succ_cons -> bP0, take_zero -> bPw
open Nat renaming add_assoc -> bRi, add_zero -> bQ9, le_of_eq -> bQ8, le_refl -> bPq, le_trans -> bP2, lt_irrefl -> bSf, lt_of_lt_of_le -> bQf, zero_add -> bQh, zero_le -> bPx
open Option renaming getD_none -> bS2, getD_some -> bQg, isSome_none -> bRx, isSome_some -> bRm
open Option.some renaming injEq -> bPo
namespace Go.Proofs.YtmnchlhngpdffaaGreat
open Go.Abs Go.Proofs Tryz
theorem aTw {hi:Int}: ∀(evs:List (Int×Int)) {u u':List Bool},sM hi u evs=some u'-> ∀e∈evs,inR e.2 e.1 hi=true
 |[],_,_,_=>fun e he=>by cases he
 |(lo,x)::evs,u,u',h=>by
  simp only[sM]at h
  split at h
  ·rename_i hc;simp only[bPp]at hc;intro e he;rcases bQm.1 he with rfl|he
   ·exact hc.1
   ·exact aTw evs h e he
  ·cases h
theorem bCf : ∀(l:List aM) (i:Nat) {n:aM} {k:Int},n∈l->k∈n.kids-> ∃e∈lF i l,e.2=k/\ 0<=e.1
 |[],_,_,_,h,_=>by cases h
 |m::l,i,n,k,h,hk=>by
  simp only[lF,bQe,bQk];rcases bQm.1 h with rfl|h
  ·exact⟨_,.inl ⟨k,hk,rfl⟩,rfl,by simp only;omega⟩
  ·obtain⟨e,he,h1,h2⟩:=bCf l (i+1) h hk;exact⟨e,.inr he,h1,h2⟩
structure dU (p:aF):Prop where
 nodes: ∀n∈p.nodes,eN p n=true
 kids: ∀n∈p.nodes,∀k∈n.kids,inR k 0 ((p.nodes.length:Int)-1)=true
 funs: ∀k∈p.funs,inR k 0 ((p.nodes.length:Int)-1)=true
 cons: ∀c∈p.cons,inR c.args 0 3=true
 main:inR p.main 0 ((p.funs.length:Int)-1)=true
variable {p:aF}
theorem lV (h:dV p=true):dU p:=by
 simp only[dV,bPp,bTe]at h;obtain⟨⟨⟨⟨_,_⟩,hm⟩,hc⟩,h⟩:=h;simp only[aQh,wW]at h
 by_cases hn:p.nodes.all (eN p)=true
 ·simp only[hn,if_true]at h;rw[<-tN]at h;have hs: ∃u',sM (↑p.nodes.length-1) (List.replicate p.nodes.length false) (List.map (fun x=>((0:Int),x)) p.funs++lF 0 p.nodes)=some u':=by
   cases he:sM (↑p.nodes.length-1) (List.replicate p.nodes.length false) (List.map (fun x=>((0:Int),x)) p.funs++lF 0 p.nodes)with
   |some u=>exact⟨u,rfl⟩
   |none=>rw[he]at h;cases h
  obtain⟨u',hu⟩:=hs;have hin:=aTw _ hu
  refine⟨bPv.1 hn,fun n hn k hk=>?_,fun k hk=>?_,fun c hc'=>?_,hm⟩
  ·obtain⟨e,he,h1,h2⟩:=bCf p.nodes 0 hn hk;have:=hin e (bRv _ he);rw[h1]at this;simp only[inR,bTe]at this⊢;omega
  ·exact hin (0,k) (bR1 _ (bQk.2 ⟨k,hk,rfl⟩))
  ·simp only[aAa,bPp]at hc;have:=bPv.1 hc.1.1 c hc';simp only[wU,bPp]at this;exact this.2
 ·simp only[hn,if_false,bPs]at h;cases he:sM (↑p.nodes.length-1) (List.replicate p.nodes.length false) (List.map (fun x=>((0:Int),x)) p.funs)with
  |none=>rw[he]at h;cases h
  |some u=>rw[he]at h;cases h
variable {i:Int}
theorem iV (h:inR i 0 ((p.nodes.length:Int)-1)=true):p.node i∈p.nodes:=by
 simp only[inR,bTe]at h;have hj:i.toNat<p.nodes.length:=by omega
 simp only[aF.node,bPu,bQz hj,bQg];exact bPz hj
theorem nD {α:Type}{l:List α}{i:Nat}{d:α}(h:i<l.length):l.getD i d∈l:=by
 simp only[bPu,bQz h,bQg];exact bPz h
def oJ (o:aQ):List aD:=o.vals++o.frames.flatMap fun f=>f.env++f.vals
variable {v:aD}{w w':aA}
theorem aTx (h:w.objs.length<=w'.objs.length)(hv:dM p w v=true):dM p w' v=true:=by
 unfold dM at hv⊢;split
 ·rename_i h1;rw[if_pos h1]at hv;exact hv
 rename_i h1;rw[if_neg h1]at hv;split
 ·rename_i h2;rw[if_pos h2]at hv;exact hv
 rename_i h2;rw[if_neg h2]at hv;split
 ·rename_i h3;rw[if_pos h3]at hv;exact hv
 rename_i h3;rw[if_neg h3]at hv;split
 ·rename_i h4;rw[if_pos h4]at hv;exact hv
 rename_i h4;rw[if_neg h4]at hv;split
 ·rename_i h5;rw[if_pos h5]at hv;simp only[inR,bTe]at hv⊢;omega
 ·rename_i h5;rw[if_neg h5]at hv;exact hv
variable {l:List aD}
theorem qA {m:Int}(h:w.objs.length<=w'.objs.length)(hv:bA p w l m=true):bA p w' l m=true:=by
 simp only[bA,bPp,bPv]at hv⊢;exact⟨hv.1,fun v hm=>aTx h (hv.2 v hm)⟩
variable {f:aB}
theorem aTy (h:w.objs.length<=w'.objs.length)(hv:dI p w f=true):dI p w' f=true:=by
 simp only[dI,bPp]at hv⊢;exact⟨⟨hv.1.1,qA h hv.1.2⟩,qA h hv.2⟩
theorem aOt {l:List aB}(h:w.objs.length<=w'.objs.length)(hv:bU p w l=true):bU p w' l=true:=by
 simp only[bU,bPp,bPv]at hv⊢;exact⟨hv.1,fun f hm=>aTy h (hv.2 f hm)⟩
theorem aB9 {o:aQ}(h:w.objs.length<=w'.objs.length)(hv:dQ p w o=true):dQ p w' o=true:=by
 unfold dQ at hv⊢;split
 ·rename_i h0;rw[if_pos h0]at hv;unfold kG at hv⊢;split
  ·rename_i h1;rw[if_pos h1]at hv;simp only[bPp]at hv⊢;exact⟨⟨⟨aOt h hv.1.1.1,qA h hv.1.1.2⟩,hv.1.2⟩,hv.2⟩
  rename_i h1;rw[if_neg h1]at hv;split
  ·rename_i h2;rw[if_pos h2]at hv;simp only[bPp]at hv⊢;exact⟨hv.1,qA h hv.2⟩
  ·rename_i h2;rw[if_neg h2]at hv;exact hv
 rename_i h0;rw[if_neg h0]at hv;split
 ·rename_i h1;rw[if_pos h1]at hv;simp only[bPp]at hv⊢;exact⟨⟨⟨hv.1.1.1,aOt h hv.1.1.2⟩,hv.1.2⟩,hv.2⟩
 rename_i h1;rw[if_neg h1]at hv;split
 ·rename_i h2;rw[if_pos h2]at hv;exact hv
 rename_i h2;rw[if_neg h2]at hv;split
 ·rename_i h3;rw[if_pos h3]at hv;simp only[bPp]at hv⊢;exact⟨hv.1,qA h hv.2⟩
 rename_i h3;rw[if_neg h3]at hv;split
 ·rename_i h4;rw[if_pos h4]at hv;simp only[bPp]at hv⊢;exact⟨hv.1,qA h hv.2⟩
 rename_i h4;rw[if_neg h4]at hv;split
 ·rename_i h5;rw[if_pos h5]at hv;simp only[bPp]at hv⊢;exact⟨hv.1,qA h hv.2⟩
 rename_i h5;rw[if_neg h5]at hv;split
 ·rename_i h6;rw[if_pos h6]at hv;simp only[bPp]at hv⊢;exact⟨hv.1,qA h hv.2⟩
 ·rename_i h6;rw[if_neg h6]at hv;exact hv
theorem aC9 {o:aQ}(hv:dQ p w o=true):(∀v∈o.vals,dM p w v=true)/\ bU p w o.frames=true:=by
 have vs: ∀{l:List aD} {m:Int},bA p w l m=true-> ∀v∈l,dM p w v=true:=fun h=>by
  simp only[bA,bPp,bPv]at h;exact h.2
 have none_: ∀{l:List aB},(l.length:Int)=0->bU p w l=true:=fun h=>by
  have h:=List.eq_nil_of_length_eq_zero (Int.ofNat_eq_zero.1 h);subst h;simp[bU]
 have nov: ∀{l:List aD},(l.length:Int)=0-> ∀v∈l,dM p w v=true:=fun h=>by
  have h:=List.eq_nil_of_length_eq_zero (Int.ofNat_eq_zero.1 h);subst h;simp
 unfold dQ at hv
 split at hv
 ·unfold kG at hv
  split at hv
  ·simp only[bPp]at hv;exact⟨vs hv.1.1.2,hv.1.1.1⟩
  split at hv
  ·simp only[bPp,bTe]at hv;exact⟨vs hv.2,none_ hv.1.1⟩
  split at hv
  ·simp only[bPp,bTe]at hv;exact⟨nov hv.2,none_ hv.1⟩
  ·cases hv
 split at hv
 ·simp only[bPp,bTe]at hv;exact⟨nov hv.1.1.1.1.2,hv.1.1.2⟩
 split at hv
 ·cases hv
 rename_i hz;have hz:=none_ (Decidable.not_not.1 hz)
 split at hv
 ·simp only[bPp]at hv;exact⟨vs hv.2,hz⟩
 split at hv
 ·simp only[bPp]at hv;exact⟨vs hv.2,hz⟩
 split at hv
 ·simp only[bPp]at hv;exact⟨vs hv.2,hz⟩
 split at hv
 ·simp only[bPp]at hv;exact⟨vs hv.2,hz⟩
 ·cases hv
theorem nY {w w':aA}(hl:w.objs.length<=w'.objs.length)(hk: ∀k,inR k 0 ((w.objs.length:Int)-1)=true->cW (w'.obj k)=cW (w.obj k)): ∀(l met:List Int),bS w met l=true->bS w' met l=true
 |[],_,_=>rfl
 |k::l,met,h=>by
  simp only[bS,bPp]at h⊢;obtain⟨⟨⟨h1,h2⟩,h3⟩,h4⟩:=h
  refine⟨⟨⟨?_,by rw[hk k h1];exact h2⟩,h3⟩,nY hl hk l _ h4⟩
  simp only[inR,bTe]at h1⊢;omega
theorem aGg {w:aA}{k:Int}(h1:inR k 0 ((w.objs.length:Int)-1)=true)(h2:cW (w.obj k)=true): ∀(l met:List Int),bS w met l=true->k∉met->k∉l->bS w met (l++[k])=true
 |[],met,_,hm,_=>by
  simp only[bQt,bS,h1,h2,bRl,bQn,bQ2,<-bQ0,bSn,bTe]
  rintro⟨x,hx,rfl⟩
  exact hm hx
 |x::l,met,h,hm,hl=>by
  simp only[bR5,bS,bPp]at h⊢
  refine⟨h.1,aGg h1 h2 l _ h.2 (fun hc=>?_) (fun hc=>hl (bRu _ hc))⟩
  rcases bQe.1 hc with hc|hc
  ·exact hm hc
  ·simp only[bQ1]at hc;exact hl (by rw[hc];simp)
theorem xB {w:aA}: ∀(l met:List Int),bS w met l=true-> ∀k∈l,inR k 0 ((w.objs.length:Int)-1)=true/\ cW (w.obj k)=true
 |[],_,_=>fun k hk=>by cases hk
 |x::l,met,h=>by
  simp only[bS,bPp]at h;intro k hk;rcases bQm.1 hk with rfl|hk
  ·exact⟨h.1.1.1,h.1.1.2⟩
  ·exact xB l _ h.2 k hk
structure cM (p:aF) (w0:aA) (S:Nat->Prop) (w:aA):Prop where
 ok:cX p w=true
 le:w0.objs.length<=w.objs.length
 form: ∀i:Nat,i<w0.objs.length->(w.obj i).form=(w0.obj i).form
 pre:w0.tasks<+:w.tasks
 shut: ∀i:Nat,i<w.objs.length->S i-> ∀v∈oJ (w.obj i),v.kind=5->S v.n.toNat
 ts: ∀t∈w.tasks,S t.toNat
 new: ∀i,w0.objs.length<=i->S i
structure VOk (p:aF) (S:Nat->Prop) (w:aA) (v:aD):Prop where
 ok:dM p w v=true
 ref:v.kind=5->S v.n.toNat
structure OOk (p:aF) (S:Nat->Prop) (w:aA) (o:aQ):Prop where
 ok:dQ p w o=true
 ref: ∀v∈oJ o,v.kind=5->S v.n.toNat
structure FOk (p:aF) (S:Nat->Prop) (w:aA) (f:aB):Prop where
 ok:dI p w f=true
 ref: ∀v∈f.env++f.vals,v.kind=5->S v.n.toNat
variable {S:Nat->Prop}{w0:aA}
theorem VOk.le (h:VOk p S w v)(hl:w.objs.length<=w'.objs.length):VOk p S w' v:=⟨aTx hl h.ok,h.ref⟩
theorem OOk.le {o:aQ}(h:OOk p S w o)(hl:w.objs.length<=w'.objs.length):OOk p S w' o:=⟨aB9 hl h.ok,h.ref⟩
theorem FOk.le (h:FOk p S w f)(hl:w.objs.length<=w'.objs.length):FOk p S w' f:=⟨aTy hl h.ok,h.ref⟩
theorem FOk.env (h:FOk p S w f)(hv:v∈f.env):VOk p S w v:=by
 have:=h.ok;simp only[dI,bA,bPp,bPv]at this;exact⟨this.1.2.2 v hv,h.ref v (bR1 _ hv)⟩
theorem FOk.vals (h:FOk p S w f)(hv:v∈f.vals):VOk p S w v:=by
 have:=h.ok;simp only[dI,bA,bPp,bPv]at this;exact⟨this.2.2 v hv,h.ref v (bRv _ hv)⟩
theorem OOk.vals {o:aQ}(h:OOk p S w o)(hv:v∈o.vals):VOk p S w v:=⟨(aC9 h.ok).1 v hv,h.ref v (bR1 _ hv)⟩
theorem OOk.frames {o:aQ}(h:OOk p S w o)(hf:f∈o.frames):FOk p S w f:=by
 have:=(aC9 h.ok).2;simp only[bU,bPp,bPv]at this;exact⟨this.2 f hf,fun v hv=>h.ref v (bRv _ (bQ3.2 ⟨f,hf,hv⟩))⟩
theorem cR :cX p w=true↔w.objs.length<=120/\ w.outs.length<=100/\ nW w.ins 50=true/\ inR w.used 0 1000000000=true/\ jI w=true/\ (∀o∈w.objs,dQ p w o=true)/\ ∀o∈w.outs,wR o=true:=by
 simp only[cX,bPp,bTe,bPv,and_assoc];constructor
 ·rintro⟨a,b,c⟩;exact⟨by omega,by omega,c⟩
 ·rintro⟨a,b,c⟩;exact⟨by omega,by omega,c⟩
theorem bEj (h:inR i 0 ((w.objs.length:Int)-1)=true):w.obj i∈w.objs:=by
 simp only[inR,bTe]at h;exact nD (by omega)
theorem cM.obj (h:cM p w0 S w)(hi:inR i 0 ((w.objs.length:Int)-1)=true)(hs:S i.toNat):OOk p S w (w.obj i):=by
 have hi':=hi;simp only[inR,bTe]at hi'
 refine⟨(cR.1 h.ok).2.2.2.2.2.1 _ (bEj hi),fun v hv=>?_⟩
 have e:w.obj i=w.obj (i.toNat:Nat):=by rw[bS4 hi'.1]
 rw[e]at hv;exact h.shut _ (by omega) hs v hv
theorem cM.ref (h:cM p w0 S w)(hv:VOk p S w v)(h5:v.kind=5):inR v.n 0 ((w.objs.length:Int)-1)=true/\ OOk p S w (w.obj v.n):=by
 have h1:=hv.ok;simp only[dM,h5]at h1;have h1:inR v.n 0 ((w.objs.length:Int)-1)=true:=by simpa using h1
 exact⟨h1,h.obj h1 (hv.ref h5)⟩
variable {a:Int}
theorem cM.task (h:cM p w0 S w)(ha:inR a 0 ((w.tasks.length:Int)-1)=true):inR (bG w a) 0 ((w.objs.length:Int)-1)=true/\ (w.obj (bG w a)).form=6/\ S (bG w a).toNat:=by
 simp only[inR,bTe]at ha;have hm:bG w a∈w.tasks:=nD (by omega)
 have ht:=(cR.1 h.ok).2.2.2.2.1;simp only[jI,bPp]at ht;obtain⟨h1,h2⟩:=xB _ _ ht.2 _ hm;exact⟨h1,D_o h2,h.ts _ hm⟩
variable {j:Nat}
theorem aQq {o:aQ}(hi:inR i 0 ((w.objs.length:Int)-1)=true):(dW w i o).obj j=if(i.toNat=j)then o else w.obj j:=by
 simp only[inR,bTe]at hi;simp only[aA.obj,dW,bPu,bQo,bSg]
 by_cases h:i.toNat=j
 ·subst h;simp only[if_true];rw[if_pos (by omega)];rfl
 ·simp[h]
theorem rB {o:aQ}:(dW w i o).objs.length=w.objs.length:=by simp[dW]
theorem aY6 {l:List aQ}{i:Nat}{o:aQ}(hi:i<l.length)(h:cW o=cW l[i]):(l.set i o).countP cW=l.countP cW:=by
 rw[List.countP_set hi,h];have:cW l[i]=true->0<l.countP cW:=fun h=>bS5.2 ⟨_,bPz hi,h⟩
 split
 ·rename_i h1;have:=this h1;omega
 ·omega
theorem aXg {i:Nat}(h:i<w.objs.length):w.obj i=w.objs[i]:=by
 simp only[aA.obj,bQo,bPu,bQz h,bQg]
theorem cM.set (h:cM p w0 S w){o:aQ}(hi:inR i 0 ((w.objs.length:Int)-1)=true)(ho:OOk p S w o)(hf:o.form=(w.obj i).form):cM p w0 S (dW w i o):=by
 have hi':=hi;simp only[inR,bTe]at hi';have hit:i.toNat<w.objs.length:=by omega
 have e:w.obj i=w.objs[i.toNat]:=by rw[<-aXg hit,bS4 hi'.1]
 have hk:cW o=cW w.objs[i.toNat]:=by simp only[cW,hf,e]
 obtain⟨a1,a2,a3,a4,a5,a6,a7⟩:=cR.1 h.ok;have hle:w.objs.length<=(dW w i o).objs.length:=by rw[rB];exact bPq _
 refine⟨cR.2 ⟨by rw[rB];exact a1,a2,a3,a4,?_,fun x hx=>?_,a7⟩,by rw[rB];exact h.le,fun j hj=>?_,h.pre,fun j hj hs v hv=>?_,h.ts,h.new⟩
 ·simp only[jI,bPp,bTe]at a5⊢
  refine⟨?_,nY hle (fun k hk'=>?_) _ _ a5.2⟩
  ·show w.tasks.length=(w.objs.set i.toNat o).countP cW;rw[aY6 hit hk];exact a5.1
  ·simp only[inR,bTe]at hk';obtain⟨j,rfl⟩:=bQv hk'.1;rw[aQq hi];split
   ·rename_i hj;subst hj;rw[hk,aXg hit]
   ·rfl
 ·rcases bTb hx with hx|rfl
  ·exact aB9 hle (a6 x hx)
  ·exact aB9 hle ho.ok
 ·rw[aQq hi];split
  ·rename_i hj';subst hj';rw[hf,<-h.form _ hj,bS4 hi'.1]
  ·exact h.form j hj
 ·rw[aQq hi]at hv;rw[rB]at hj
  split at hv
  ·exact ho.ref v hv
  ·exact h.shut j hj hs v hv
theorem nO {o:aQ}:(eC w o).objs.length=w.objs.length+1:=by simp[eC]
theorem aAk {o:aQ}(hj:j<w.objs.length+1):(eC w o).obj j=if j=w.objs.length then o else w.obj j:=by
 simp only[aA.obj,eC,bQo,bPu];split
 ·rename_i h;subst h;simp
 ·rename_i h;rw[bSx (by omega)]
theorem cM.add (h:cM p w0 S w){o:aQ}(hl:w.objs.length<120)(ho:OOk p S w o)(hf: ¬o.form=6):cM p w0 S (eC w o):=by
 obtain⟨a1,a2,a3,a4,a5,a6,a7⟩:=cR.1 h.ok;have hle:w.objs.length<=(eC w o).objs.length:=by rw[nO];omega
 have hk:cW o=false:=D_f hf;have hl0:=h.le
 refine⟨cR.2 ⟨by rw[nO];omega,a2,a3,a4,?_,fun x hx=>?_,a7⟩,by rw[nO];omega,fun j hj=>?_,h.pre,fun j hj hs v hv=>?_,h.ts,h.new⟩
 ·simp only[jI,bPp,bTe]at a5⊢
  refine⟨?_,nY hle (fun k hk'=>?_) _ _ a5.2⟩
  ·show w.tasks.length=(w.objs++[o]).countP cW;rw[List.countP_append];simp[hk,a5.1]
  ·simp only[inR,bTe]at hk';obtain⟨j,rfl⟩:=bQv hk'.1;rw[aAk (by omega),if_neg (by omega)]
 ·rcases bQe.1 hx with hx|hx
  ·exact aB9 hle (a6 x hx)
  ·simp only[bQ1]at hx;subst hx;exact aB9 hle ho.ok
 ·rw[aAk (by omega),if_neg (by omega)];exact h.form j hj
 ·rw[nO]at hj;rw[aAk hj]at hv
  split at hv
  ·exact ho.ref v hv
  ·exact h.shut j (by omega) hs v hv
theorem cM.born (h:cM p w0 S w){o:aQ}(hl:w.objs.length<120)(ho:OOk p S w o)(hf:o.form=6):cM p w0 S (qZ (eC w o)):=by
 obtain⟨a1,a2,a3,a4,a5,a6,a7⟩:=cR.1 h.ok;have hlen:(qZ (eC w o)).objs.length=w.objs.length+1:=nO;have hle:w.objs.length<=(qZ (eC w o)).objs.length:=by rw[hlen];omega
 have hk:cW o=true:=D_t hf;have hl0:=h.le;have hT:(qZ (eC w o)).tasks=w.tasks++[(w.objs.length:Int)]:=by
  show w.tasks++[((eC w o).objs.length:Int)-1]=_;rw[nO];congr 2;omega
 have hO: ∀j:Int,(qZ (eC w o)).obj j=(eC w o).obj j:=fun j=>rfl
 refine⟨cR.2 ⟨by rw[hlen];omega,a2,a3,a4,?_,fun x hx=>?_,a7⟩,by rw[hlen];omega,fun j hj=>?_,?_,fun j hj hs v hv=>?_,fun t ht=>?_,h.new⟩
 ·simp only[jI,bPp,bTe]at a5⊢;rw[hT]
  refine⟨?_,aGg ?_ ?_ _ _ (nY hle (fun k hk'=>?_) _ _ a5.2) (by simp) (fun hc=>?_)⟩
  ·show(w.tasks++[_]).length=(w.objs++[o]).countP cW;rw[List.countP_append];simp[hk,a5.1]
  ·rw[hlen];simp only[inR,bTe];omega
  ·rw[hO,aAk (by omega),if_pos rfl];exact hk
  ·simp only[inR,bTe]at hk';obtain⟨j,rfl⟩:=bQv hk'.1;rw[hO,aAk (by omega),if_neg (by omega)]
  ·have:=(xB _ _ a5.2 _ hc).1;simp only[inR,bTe]at this;omega
 ·rcases bQe.1 hx with hx|hx
  ·exact aB9 hle (a6 x hx)
  ·simp only[bQ1]at hx;subst hx;exact aB9 hle ho.ok
 ·rw[hO,aAk (by omega),if_neg (by omega)];exact h.form j hj
 ·rw[hT];exact h.pre.trans (List.prefix_append _ _)
 ·rw[hlen]at hj;rw[hO,aAk hj]at hv
  split at hv
  ·exact ho.ref v hv
  ·exact h.shut j (by omega) hs v hv
 ·rw[hT]at ht;rcases bQe.1 ht with ht|ht
  ·exact h.ts t ht
  ·simp only[bQ1]at ht;subst ht;exact h.new _ (by simp only[bQo];omega)
variable {left:List aB}
structure LOk (p:aF) (S:Nat->Prop) (w:aA) (l:List aB):Prop where
 len:l.length<=40
 ok: ∀f∈l,FOk p S w f
 opn: ∀f∈l,fN p f=true
theorem LOk.le {l:List aB}(h:LOk p S w l)(hl:w.objs.length<=w'.objs.length):LOk p S w' l:=⟨h.len,fun f hf=>(h.ok f hf).le hl,h.opn⟩
theorem LOk.frames {l:List aB}(h:LOk p S w l):bU p w l=true:=by
 simp only[bU,bPp,bTe,bPv];exact⟨by have:=h.len;omega,fun f hf=>(h.ok f hf).ok⟩
theorem LOk.sub {l l':List aB}(h:LOk p S w l)(hs: ∀f∈l',f∈l)(hl:l'.length<=40):LOk p S w l':=⟨hl,fun f hf=>h.ok f (hs f hf),fun f hf=>h.opn f (hs f hf)⟩
theorem aQr {n:Int}(h:inR n (-1000000000) 1000000000=true):VOk p S w (nG n):=⟨by simp[dM,nG,h],fun h=>by cases h⟩
theorem aL5 {b:Bool}:VOk p S w (nM b):=⟨by cases b<;>rfl,fun h=>by cases b<;>cases h⟩
theorem rC :VOk p S w bO:=⟨rfl,fun h=>by cases h⟩
theorem aQs (h:cM p w0 S w){o:aQ}:VOk p S (eC w o) (dN w.objs.length):=by
 refine⟨?_,fun _=>h.new _ (by simp only[dN,bQo];exact h.le)⟩
 simp only[dM,dN,inR,nO];simp
theorem aTz {l:List aB}(hl:LOk p S w l)(hv:VOk p S w v):OOk p S w ⟨6,0,[v],l⟩:=by
 refine⟨?_,fun u hu=>?_⟩
 ·rw[dQ,if_pos rfl,kG,if_pos rfl];simp only[bPp,bTe,bPv]
  refine⟨⟨⟨hl.frames,?_⟩,?_⟩,fun f hf=>?_⟩
  ·simp[bA,hv.ok]
  ·simp only[bPy,bP7];omega
  ·exact hl.opn f (bR0 hf)
 ·simp only[oJ,bR5,bQt,bQm,bQ3]at hu;rcases hu with rfl|⟨f,hf,hu⟩
  ·exact hv.ref
  ·exact(hl.ok f hf).ref u hu
theorem aL6 {l:List aB}(hl:LOk p S w l)(hlen:l.length<40)(hf:FOk p S w f):OOk p S w ⟨6,0,[],l++[f]⟩:=by
 refine⟨?_,fun u hu=>?_⟩
 ·rw[dQ,if_pos rfl,kG,if_pos rfl];simp only[bPp,bTe,bPv,bU]
  refine⟨⟨⟨⟨?_,fun g hg=>?_⟩,rfl⟩,?_⟩,fun g hg=>?_⟩
  ·simp only[bP9,bPy,bP7];omega
  ·rcases bQe.1 hg with hg|hg
   ·exact(hl.ok g hg).ok
   ·simp only[bQ1]at hg;subst hg;exact hf.ok
  ·simp only[bP9,bPy,bP7];omega
  ·rw[List.take_append_of_le_length (by simp)]at hg
   exact hl.opn g (bR0 hg)
 ·simp only[oJ,bQt,bQ3]at hu;obtain⟨g,hg,hu⟩:=hu;rcases bQe.1 hg with hg|hg
  ·exact(hl.ok g hg).ref u hu
  ·simp only[bQ1]at hg;subst hg;exact hf.ref u hu
variable {st:Int}
theorem bCg (h:st=2 \/st=3 \/st=4):OOk p S w ⟨6,st,[],[]⟩:=by
 refine⟨?_,fun u hu=>by simp[oJ]at hu⟩
 rcases h with rfl|rfl|rfl<;>rfl
theorem bCh (hv:VOk p S w v):OOk p S w ⟨6,1,[v],[]⟩:=by
 refine⟨?_,fun u hu=>?_⟩
 ·simp[dQ,kG,bA,hv.ok]
 ·simp only[oJ,bRt,bQr,bQ1]at hu;subst hu;exact hv.ref
theorem bEk (n:aM):0<=n.asks:=by
 unfold aM.asks;split
 ·decide
 split
 ·exact bSa _
 split<;>decide
theorem aXh {node:Int}{env:List aD}(hn:inR node 0 ((p.nodes.length:Int)-1)=true)(he: ∀v∈env,VOk p S w v)(hl:env.length<=30):FOk p S w ⟨node,env,[]⟩:=by
 refine⟨?_,fun v hv=>?_⟩
 ·simp only[dI,bA,bPp,bTe,bPv,hn,true_and]
  refine⟨⟨by omega,fun v hv=>(he v hv).ok⟩,by simpa using bEk _,fun v hv=>by cases hv⟩
 ·simp only[bQr]at hv;exact(he v hv).ref
theorem dD (h:cM p w0 S w)(ha:inR a 0 ((w.tasks.length:Int)-1)=true)(hs:st=2 \/st=3 \/st=4):cM p w0 S (bE w a st).w:=by
 obtain⟨h1,h2,_⟩:=h.task ha;exact h.set h1 (bCg hs) h2.symm
theorem eQ (h:cM p w0 S w)(ha:inR a 0 ((w.tasks.length:Int)-1)=true)(hl:LOk p S w left)(hv:VOk p S w v):cM p w0 S (bV w a left v).w:=by
 obtain⟨h1,h2,_⟩:=h.task ha;exact h.set h1 (aTz hl hv) h2.symm
theorem uC (h:cM p w0 S w)(ha:inR a 0 ((w.tasks.length:Int)-1)=true){node:Int}{env:List aD}(hl:LOk p S w left)(hn:inR node 0 ((p.nodes.length:Int)-1)=true)(he: ∀v∈env,VOk p S w v):
  cM p w0 S (gW w a left node env).w:=by
 obtain⟨h1,h2,_⟩:=h.task ha;unfold gW;split
 ·exact dD h ha (by simp)
 ·exact h.set h1 (aL6 hl (by omega) (aXh hn he (by omega))) h2.symm
theorem aDa (h:cM p w0 S w)(ha:inR a 0 ((w.tasks.length:Int)-1)=true){o:aQ}(hl:LOk p S w left)(ho:OOk p S w o)(hf: ¬o.form=6):cM p w0 S (iN w a left o).w:=by
 unfold iN;split
 ·exact dD h ha (by simp)
 ·exact eQ (h.add (by omega) ho hf) ha (hl.le (by rw[nO];omega)) (aQs h)
theorem rD {d:Did}{act n:Int}:(dF d a act n v).w=d.w:=by unfold dF;split<;>rfl
theorem aOu (h:cM p w0 S w)(ha:inR a 0 ((w.tasks.length:Int)-1)=true){o:aQ}(hl:LOk p S w left)(ho:OOk p S w o)(hf:o.form=6):cM p w0 S (aA2 w a left o).w:=by
 unfold aA2;simp only[rD];unfold iN;split
 ·rw[if_pos (show(bE w a 4).what=1 from rfl)];exact dD h ha (by simp)
 ·rename_i hc;rw[if_neg (by simp[bV])]
  have hb:=h.born (by omega) ho hf
  have ha':inR a 0 (((qZ (eC w o)).tasks.length:Int)-1)=true:=by
   simp only[inR,bTe,qZ,bP9,bPy,bP7]at ha⊢;have e:(eC w o).tasks=w.tasks:=rfl;rw[e];omega
  have hT:bG (qZ (eC w o)) a=bG (eC w o) a:=by
   simp only[inR,bTe]at ha;show(w.tasks++_).getD a.toNat 0=w.tasks.getD a.toNat 0;simp only[bPu];rw[bSx (by omega)]
  have:=eQ hb ha' (left:=left) (v:=dN w.objs.length) (hl.le (by show _<=(eC w o).objs.length;rw[nO];omega)) ((aQs h (o:=o)).le (bPq _))
  have e:qZ (bV (eC w o) a left (dN w.objs.length)).w=(bV (qZ (eC w o)) a left (dN w.objs.length)).w:=by
   simp only[bV,hT];simp only[qZ,dW,bRp]
  show cM p w0 S (qZ (bV (eC w o) a left (dN w.objs.length)).w);rw[e];exact this
variable {ins:List Int}{outs:List bJ}{used:Int}
theorem cM.io (h:cM p w0 S w)(h1:outs.length<=100)(h2: ∀o∈outs,wR o=true)(h3:nW ins 50=true)(h4:inR used 0 1000000000=true):cM p w0 S ⟨w.objs,w.tasks,outs,ins,used⟩:=by
 obtain⟨a1,a2,a3,a4,a5,a6,a7⟩:=cR.1 h.ok
 refine⟨cR.2 ⟨a1,h1,h3,h4,?_,fun o ho=>aB9 (bPq _) (a6 o ho),h2⟩,h.le,h.form,h.pre,h.shut,h.ts,h.new⟩
 simp only[jI,bPp]at a5⊢;exact⟨a5.1,nY (w:=w) (w':=⟨w.objs,w.tasks,outs,ins,used⟩) (bPq _) (fun _ _=>rfl) _ _ a5.2⟩
variable {n:aM}
theorem oK (h:eN p n=true):(n.kids.length:Int)=fK n.op n.pats.length (pN p n):=by
 simp only[eN,bPp,bTe]at h;exact h.2
theorem aHt (h:eN p n=true):n.asks<=n.kids.length:=by
 have:=oK h;unfold aM.asks;unfold fK at this
 repeat' split at this
 all_goals (repeat' split)
 all_goals omega
theorem aV8 (hp:dU p)(hi:inR i 0 ((p.nodes.length:Int)-1)=true){k:Int}(h0:0<=k)(hk:k<(p.node i).kids.length):inR (oY (p.node i) k) 0 ((p.nodes.length:Int)-1)=true:=
 hp.kids _ (iV hi) _ (nD (by omega))
theorem fI (h:cM p w0 S w){f:aD}{k:Int}(hv:VOk p S w f)(hi:cK w f k=true):inR f.n 0 ((w.objs.length:Int)-1)=true/\ OOk p S w (w.obj f.n)/\ (w.obj f.n).form=k/\ f.kind=5:=by
 simp only[cK,bPp,bTe]at hi;obtain⟨h1,h2⟩:=h.ref hv hi.1;exact⟨h1,h2,hi.2,hi.1⟩
variable {b:aB}
theorem aEn (hp:dU p)(h:cM p w0 S w){f:aD}(hf:VOk p S w f)(hv:VOk p S w v)(hb:eP p w f v=some b):
  inR b.node 0 ((p.nodes.length:Int)-1)=true/\ (∀u∈b.env,VOk p S w u)/\ b.vals=[]:=by
 unfold eP at hb
 split at hb
 ·rename_i h4;simp only[bPo]at hb;subst hb;have h1:=hf.ok;simp only[dM,h4]at h1;have h1:inR f.n 0 ((p.funs.length:Int)-1)=true:=by simpa using h1
  simp only[inR,bTe]at h1;exact⟨hp.funs _ (nD (by omega)),fun u hu=>by simp only[bQ1]at hu;subst hu;exact hv,rfl⟩
 ·split at hb
  ·rename_i h2;simp only[bPo]at hb;subst hb;obtain⟨a1,a2,a3,_⟩:=fI h hf h2;have hk:=a2.ok;simp only[dQ,a3]at hk
   simp at hk
   obtain⟨_,⟨b1,b2⟩,_⟩:=hk
   refine⟨aV8 hp b1 (by decide) ?_,fun u hu=>?_,rfl⟩
   ·rw[oK (hp.nodes _ (iV b1)),b2];simp[fK]
   ·rcases bQe.1 hu with hu|hu
    ·exact a2.vals hu
    ·simp only[bQ1]at hu;subst hu;exact hv
  ·cases hb
theorem aHu {o:aQ}(h:OOk p S w o)(h5:o.form=5):LOk p S w o.frames:=by
 have hk:=h.ok;simp only[dQ,h5]at hk;simp[bU]at hk;exact⟨by omega,fun f hf=>h.frames hf,hk.1.2⟩
theorem LOk.app {l m:List aB}(h:LOk p S w l)(k:LOk p S w m)(hl:(l++m).length<=40):LOk p S w (l++m):=
 ⟨hl,fun f hf=>(bQe.1 hf).elim (h.ok f) (k.ok f),fun f hf=>(bQe.1 hf).elim (h.opn f) (k.opn f)⟩
theorem aQt (hp:dU p)(h:cM p w0 S w)(ha:inR a 0 ((w.tasks.length:Int)-1)=true)(hl:LOk p S w left){f:aD}(hf:VOk p S w f)(hv:VOk p S w v):cM p w0 S (fG p w a left f v).w:=by
 unfold fG;split
 ·rename_i h5;obtain⟨_,a2,a3,_⟩:=fI h hf h5;split
  ·exact dD h ha (by simp)
  ·exact eQ h ha (hl.app (aHu a2 a3) (by omega)) hv
 ·split
  ·exact dD h ha (by simp)
  ·rename_i b hb;obtain⟨b1,b2,_⟩:=aEn hp h hf hv hb;exact uC h ha hl b1 b2
variable {op:Int}{u:aD}
theorem aQu (h:cM p w0 S w)(ha:inR a 0 ((w.tasks.length:Int)-1)=true)(hl:LOk p S w left):cM p w0 S (cJ w a left op u v).w:=by
 unfold cJ;split
 ·split
  ·exact dD h ha (by simp)
  ·exact eQ h ha hl aL5
 split
 ·exact dD h ha (by simp)
 split
 ·exact eQ h ha hl aL5
 split
 ·rename_i hr;exact eQ h ha hl (aQr hr)
 ·exact dD h ha (by simp)
mutual
theorem aL7 (h:cM p w0 S w): ∀(q:Pat) {v:aD} {l:List aD},VOk p S w v->fP w q v=some l-> ∀u∈l,VOk p S w u
 | .mk f n t ps,v,l,hv,hm=>by
  unfold fP at hm
  split at hm
  ·cases hm;intro u hu;cases hu
  split at hm
  ·cases hm;intro u hu;simp only[bQ1]at hu;subst hu;exact hv
  split at hm
  ·split at hm
   ·cases hm;intro u hu;cases hu
   ·cases hm
  split at hm
  ·split at hm
   ·cases hm;intro u hu;cases hu
   ·cases hm
  split at hm
  ·split at hm
   ·cases hm;intro u hu;cases hu
   ·cases hm
  split at hm
  ·rename_i hc;obtain⟨_,a2,_,_⟩:=fI h hv hc.1;exact aI0 h ps (fun u hu=>a2.vals hu) hm
  ·cases hm
theorem aI0 (h:cM p w0 S w): ∀(ps:List Pat) {vs l:List aD},(∀v∈vs,VOk p S w v)->fB w ps vs=some l-> ∀u∈l,VOk p S w u
 |[],vs,l,hv,hm=>by
  simp only[fB,bPo]at hm;subst hm;intro u hu;cases hu
 |q::ps,[],l,hv,hm=>by
  simp only[fB,bPo]at hm;subst hm;intro u hu;cases hu
 |q::ps,v::vs,l,hv,hm=>by
  simp only[fB]at hm
  split at hm
  ·cases hm
  rename_i l1 h1
  split at hm
  ·cases hm
  rename_i l2 h2;simp only[bPo]at hm;subst hm;intro u hu;rcases bQe.1 hu with hu|hu
  ·exact aL7 h q (hv v (by simp)) h1 u hu
  ·exact aI0 h ps (fun u hu=>hv u (by simp[hu])) h2 u hu
end
theorem aGh (h:cM p w0 S w)(ha:inR a 0 ((w.tasks.length:Int)-1)=true)(hl:LOk p S w left){kids:List Int}(hk: ∀k∈kids,inR k 0 ((p.nodes.length:Int)-1)=true){env:List aD}(he: ∀v∈env,VOk p S w v){u:aD}(hu:VOk p S w u):
  ∀(l:List Pat) (i:Nat),1+i+l.length<=kids.length->cM p w0 S (kJ w a left kids env u i l).w
 |[],i,_=>dD h ha (by simp)
 |q::qs,i,hi=>by
  unfold kJ;simp only[bPy]at hi;split
  ·rename_i l hm
   refine uC h ha hl (hk _ (nD (by omega))) fun v hv=>?_
   rcases bQe.1 hv with hv|hv
   ·exact he v hv
   ·exact aL7 h q hu hm v hv
  ·exact aGh h ha hl hk he hu qs (i+1) (by omega)
theorem aT0 {left:List aB}: ∀{m k:Nat},fX p left m=k+1->k<m/\ (p.node (left.getD k default).node).op=26
 |0,k,h=>by simp[fX]at h
 |m+1,k,h=>by
  unfold fX at h
  split at h
  ·rename_i hc;have:m=k:=by omega
   subst this;exact⟨by omega,hc⟩
  ·obtain⟨a,b⟩:=aT0 h;exact⟨by omega,b⟩
theorem bCi {l:List aB}(h:LOk p S w l)(h0:0<l.length)(hr:(p.node (l.headD default).node).op=26):OOk p S w ⟨5,0,[],l⟩:=by
 refine⟨?_,fun u hu=>?_⟩
 ·rw[dQ,if_neg (by simp),if_pos rfl]
  simp only[bPp,bTe,bPv];exact⟨⟨⟨⟨⟨by simp,by simp⟩,by omega⟩,h.frames⟩,h.opn⟩,hr⟩
 ·simp only[oJ,bQt,bQ3]at hu;obtain⟨f,hf,hu⟩:=hu;exact(h.ok f hf).ref u hu
theorem aY7 {node:Int}{env:List aD}:(gW w a left node env).what=1->(gW w a left node env).e.n=4:=by
 unfold gW;split
 ·intro _;rfl
 ·intro h;cases h
variable {kid:Int}
theorem aQv (h:cM p w0 S w)(ha:inR a 0 ((w.tasks.length:Int)-1)=true)(hl:LOk p S w left)(hk:inR kid 0 ((p.nodes.length:Int)-1)=true){env:List aD}(he: ∀v∈env,VOk p S w v):cM p w0 S (fH p w a left kid env).w:=by
 unfold fH;split
 ·exact dD h ha (by simp)
 ·rename_i k hr;obtain⟨hkl,hop⟩:=aT0 hr;split
  ·exact dD h ha (by simp)
  ·rename_i hc
   simp only
   split
   ·rename_i hw;rw[aY7 hw];exact dD h ha (by simp)
   ·have hld:=hl.len;have hd:LOk p S w (left.drop k):=hl.sub (fun f hf=>List.mem_of_mem_drop hf) (by simp only[bR6];omega)
    have hh:(p.node ((left.drop k).headD default).node).op=26:=by
     rw[bPu]at hop;rw[List.headD_eq_head?_getD,List.head?_drop];exact hop
    have hF:=h.add (o:=⟨5,0,[],left.drop k⟩) (by omega) (bCi hd (by simp only[bR6];omega) hh) (by simp)
    have hle:w.objs.length<=(eC w ⟨5,0,[],left.drop k⟩).objs.length:=by rw[nO];omega
    refine uC hF ha ((hl.sub (fun f hf=>bR0 hf) (by simp only[bQx];omega)).le hle) hk fun v hv=>?_
    rcases bQe.1 hv with hv|hv
    ·exact(he v hv).le hle
    ·simp only[bQ1]at hv;subst hv;exact aQs h
theorem aQw (hp:dU p)(h:cM p w0 S w)(ha:inR a 0 ((w.tasks.length:Int)-1)=true)(hl:LOk p S w left){f:aD}(hf:VOk p S w f):cM p w0 S (eK p w a left f).w:=by
 unfold eK;split
 ·rename_i h5;obtain⟨_,a2,a3,_⟩:=fI h hf h5;exact aOu h ha hl (aTz (aHu a2 a3) rC) rfl
 ·split
  ·exact dD h ha (by simp)
  ·rename_i b hb;obtain⟨b1,b2,b3⟩:=aEn hp h hf rC hb;split
   ·exact dD h ha (by simp)
   ·have e:b=⟨b.node,b.env,[]⟩:=by rw[<-b3]
    have h0:LOk p S w []:=⟨by simp,by simp,by simp⟩
    have:=aL6 h0 (by simp) (aXh b1 b2 (by omega))
    rw[<-e]at this;exact aOu h ha hl this rfl
theorem dJ {i:Nat}(h:i<l.length):aE l i∈l:=nD h
theorem aT1 (hv:VOk p S w v):OOk p S w ⟨3,0,[v],[]⟩:=by
 refine⟨?_,fun u hu=>?_⟩
 ·simp[dQ,bA,hv.ok]
 ·simp only[oJ,bRt,bQr,bQ1]at hu;subst hu;exact hv.ref
theorem aL8 (hl:l.length<=4)(hv: ∀v∈l,VOk p S w v):OOk p S w ⟨4,0,l,[]⟩:=by
 refine⟨?_,fun u hu=>?_⟩
 ·simp only[dQ,bA];simp;exact⟨by omega,fun v h=>(hv v h).ok⟩
 ·simp only[oJ,bRt,bQr]at hu;exact(hv u hu).ref
theorem aT2 (h:cM p w0 S w)(ha:inR a 0 ((w.tasks.length:Int)-1)=true)(hl:LOk p S w left)(hv: ∀v∈l,VOk p S w v)(h0:0<l.length)(h1: ¬op=16-> ¬op=17->1<l.length):cM p w0 S (eS w a left op l).w:=by
 unfold eS;have hv0:=hv _ (dJ h0);split
 ·rw[rD];exact aDa h ha hl (aT1 hv0) (by simp)
 rename_i n16;split
 ·rename_i h3;obtain⟨a1,a2,a3,_⟩:=fI h hv0 h3;split
  ·rw[rD];have hk:=a2.ok;simp only[dQ,a3]at hk
   simp at hk
   exact eQ h ha hl (a2.vals (dJ (by omega)))
  ·rename_i n17;rw[rD];have hF:=h.set a1 (aT1 (hv _ (dJ (h1 n16 n17)))) a3.symm;exact eQ hF ha (hl.le (by rw[rB];exact bPq _)) rC
 ·exact dD h ha (by simp)
theorem aL9 (h:cM p w0 S w)(ha:inR a 0 ((w.tasks.length:Int)-1)=true)(hl:LOk p S w left)(hv: ∀v∈l,VOk p S w v)(h0:0<l.length)(h1:op=22->1<l.length):cM p w0 S (cD w a left op l).w:=by
 unfold cD;have hv0:=hv _ (dJ h0);split
 ·rename_i h3;obtain⟨a1,a2,a3,_⟩:=fI h hv0 h3;have hk:=a2.ok;simp only[dQ,a3]at hk;simp[bA]at hk;split
  ·rename_i h22;split
   ·exact h
   ·rw[rD];have hF:=h.set a1 (aL8 (l:=(w.obj (aE l 0).n).vals++[aE l 1]) (by simp only[bP9,bPy,bP7];omega) fun v hv'=>by
     rcases bQe.1 hv' with hv'|hv'
     ·exact a2.vals hv'
     ·simp only[bQ1]at hv';subst hv';exact hv _ (dJ (h1 h22))) a3.symm
    exact eQ hF ha (hl.le (by rw[rB];exact bPq _)) rC
  ·split
   ·exact h
   ·rename_i hne;rw[rD];have hF:=h.set a1 (aL8 (l:=(w.obj (aE l 0).n).vals.drop 1) (by simp only[bR6];omega) fun v hv'=>a2.vals (List.mem_of_mem_drop hv')) a3.symm
    exact eQ hF ha (hl.le (by rw[rB];exact bPq _)) ((a2.vals (dJ (by omega))).le (by rw[rB];exact bPq _))
 ·exact dD h ha (by simp)
theorem aT3 (h:cM p w0 S w)(ha:inR a 0 ((w.tasks.length:Int)-1)=true)(hl:LOk p S w left)(hv:VOk p S w v):cM p w0 S (gJ w a left v).w:=by
 unfold gJ;split
 ·rename_i h6;obtain⟨a1,a2,a3,_⟩:=fI h hv h6;have hk:=a2.ok;rw[dQ,if_pos a3,kG]at hk;split
  ·exact h
  rename_i n0;rw[if_neg n0]at hk;split
  ·rename_i n1;rw[if_neg n1]at hk
   split at hk
   ·rename_i hst;exact dD h ha hst
   ·cases hk
  ·rename_i n1;rw[if_pos (Decidable.not_not.1 n1)]at hk;simp only[bPp,bTe]at hk;rw[rD];exact eQ h ha hl (a2.vals (dJ (by omega)))
 ·exact dD h ha (by simp)
theorem aQx (h:cM p w0 S w)(ha:inR a 0 ((w.tasks.length:Int)-1)=true)(hl:LOk p S w left){port:Int}(hv: ¬op=25->0<l.length/\ inR port 0 3=true)(hv': ∀v∈l,VOk p S w v):cM p w0 S (dH w a left op port l).w:=by
 obtain⟨a1,a2,a3,a4,a5,a6,a7⟩:=cR.1 h.ok;unfold dH;split
 ·split
  ·exact h
  ·rename_i x xs hi;split
   ·exact dD h ha (by simp)
   ·rename_i hu;rw[rD];simp only[nW,hi,bPy,bR3,bPp,bTe]at a3;simp only[inR,bTe]at a4;have hF:=h.io (outs:=w.outs) (ins:=xs) (used:=w.used+1) a2 a7 (by simp only[nW,bPp,bTe];exact⟨by omega,a3.2.2⟩) (by simp only[inR,bTe];omega)
    exact eQ hF ha (hl.le (bPq _)) (aQr a3.2.1)
 ·rename_i hop;obtain⟨h0,hport⟩:=hv hop;split
  ·exact dD h ha (by simp)
  ·rename_i hk;split
   ·exact dD h ha (by simp)
   ·rw[rD];have h1:=(hv' _ (dJ h0)).ok;rw[dM,if_pos (Decidable.not_not.1 hk)]at h1;have hF:=h.io (outs:=w.outs++[⟨port,(aE l 0).n⟩]) (ins:=w.ins) (used:=w.used) (by simp only[bP9,bPy,bP7];omega) (fun o ho=>by
     rcases bQe.1 ho with ho|ho
     ·exact a7 o ho
     ·simp only[bQ1]at ho;subst ho;simp only[wR,hport,h1,Bool.and_self]) a3 a4
    exact eQ hF ha (hl.le (bPq _)) rC
theorem aY8 (hp:dU p)(h:cM p w0 S w)(ha:inR a 0 ((w.tasks.length:Int)-1)=true)(hl:LOk p S w left)(hf:FOk p S w f)(hfull:(f.vals.length:Int)=(p.node f.node).asks):cM p w0 S (rN p w a left f).w:=by
 have hni:inR f.node 0 ((p.nodes.length:Int)-1)=true:=by
  have:=hf.ok;simp only[dI,bPp]at this;exact this.1.1
 have hok:=hp.nodes _ (iV hni);have hkd:=oK hok;have hnum:oL p (p.node f.node)=true:=by simp only[eN,bPp]at hok;exact hok.1.1.1
 have hv: ∀v∈f.vals,VOk p S w v:=fun v hv=>hf.vals hv
 unfold rN;generalize hn:p.node f.node=n at*;have ik: ∀k:Int,0<=k->k<n.kids.length->inR (oY n k) 0 ((p.nodes.length:Int)-1)=true:=fun k h1 h2=>by
  rw[<-hn]at h2⊢;exact aV8 hp hni h1 h2
 unfold bT
 by_cases e:n.op=1
 ·rw[if_pos e];rw[oL,if_pos e]at hnum;exact eQ h ha hl (aQr hnum)
 rw[if_neg e]
 by_cases e:n.op=2
 ·rw[if_pos e];exact eQ h ha hl aL5
 rw[if_neg e]
 by_cases e:n.op=3
 ·rw[if_pos e];exact eQ h ha hl rC
 rw[if_neg e]
 by_cases e:n.op=4
 ·rw[if_pos e];simp only[oL,e]at hnum;simp[inR]at hnum;split
  ·refine eQ h ha hl ⟨?_,fun h=>by cases h⟩
   simp only[dM,inR];simp;omega
  ·split
   ·exact dD h ha (by simp)
   ·exact eQ h ha hl (hf.env (dJ (by omega)))
 rw[if_neg e]
 by_cases e:n.op=5
 ·rw[if_pos e]
  refine aDa h ha hl ⟨?_,fun u hu=>?_⟩ (by simp)
  ·have:=hf.ok;simp only[dI,bPp]at this;simp only[dQ,hn,e,this.1.1,this.1.2];simp
  ·simp only[oJ,bRt,bQr]at hu;exact(hf.env hu).ref
 rw[if_neg e]
 by_cases e:n.op=6
 ·rw[if_pos e];have:n.asks=2:=by simp[aM.asks,e]
  exact aQt hp h ha hl (hv _ (dJ (by omega))) (hv _ (dJ (by omega)))
 rw[if_neg e]
 by_cases e:n.op=7
 ·rw[if_pos e];have h1:n.asks=1:=by simp[aM.asks,e]
  refine uC h ha hl (ik 1 (by decide) ?_) fun v hv'=>?_
  ·rw[hkd];simp[fK,e]
  ·rcases bQe.1 hv' with hv'|hv'
   ·exact hf.env hv'
   ·simp only[bQ1]at hv';subst hv';exact hv _ (dJ (by omega))
 rw[if_neg e]
 by_cases e:n.op=8
 ·rw[if_pos e];have h1:n.asks=1:=by simp[aM.asks,e]
  split
  ·exact dD h ha (by simp)
  ·rename_i hk;have h2:=(hv _ (dJ (i:=0) (by omega))).ok
   simp only[dM,Decidable.not_not.1 hk]at h2;simp[inR]at h2
   refine uC h ha hl (ik _ (by omega) ?_) fun v hv'=>hf.env hv'
   have:(n.kids.length:Int)=3:=by rw[hkd];simp[fK,e]
   omega
 rw[if_neg e]
 by_cases e:n.op=9 \/n.op=10 \/n.op=11 \/n.op=12 \/n.op=13
 ·rw[if_pos e];exact aQu h ha hl
 rw[if_neg e]
 by_cases e:n.op=14
 ·rw[if_pos e];have h1:n.asks=n.kids.length:=by simp[aM.asks,e]
  simp only[oL,e]at hnum
  simp at hnum
  have h2:(n.kids.length:Int)=(p.cons.getD n.n.toNat default).args:=by rw[hkd];simp[fK,pN,e,hnum]
  have h3:inR (p.cons.getD n.n.toNat default).args 0 3=true:=hp.cons _ (nD (by simp only[inR,bTe]at hnum;omega))
  simp only[inR,bTe]at h3
  refine aDa h ha hl ⟨?_,fun u hu=>?_⟩ (by simp)
  ·rw[dQ,if_neg (by simp),if_neg (by simp),if_neg (by simp),if_pos rfl]
   simp only[bPp,bTe,bA,bPv];exact⟨⟨hnum,by omega⟩,by omega,fun v h'=>(hv v h').ok⟩
  ·simp only[oJ,bRt,bQr]at hu;exact(hv u hu).ref
 rw[if_neg e]
 by_cases e:n.op=15
 ·rw[if_pos e];have h1:n.asks=1:=by simp[aM.asks,e]
  have h2:(n.kids.length:Int)=1+n.pats.length:=by rw[hkd];simp[fK,e]
  refine aGh h ha hl (fun k hk=>?_) (fun v hv'=>hf.env hv') (hv _ (dJ (by omega))) n.pats 0 (by omega)
  rw[<-hn]at hk;exact hp.kids _ (iV hni) k hk
 rw[if_neg e]
 by_cases e:n.op=26
 ·rw[if_pos e];have h1:n.asks=1:=by simp[aM.asks,e]
  exact eQ h ha hl (hv _ (dJ (by omega)))
 rw[if_neg e]
 by_cases e:n.op=27
 ·rw[if_pos e]
  refine aQv h ha hl (ik 0 (by decide) ?_) fun v hv'=>hf.env hv'
  rw[hkd];simp[fK,e]
 rw[if_neg e]
 by_cases e:n.op=16 \/n.op=17 \/n.op=18
 ·rw[if_pos e]
  refine aT2 h ha hl hv ?_ ?_
  ·have:1<=n.asks:=by rcases e with e|e|e<;>simp[aM.asks,e]
   omega
  ·intro h1 h2;have e:n.op=18:=by omega
   have:n.asks=2:=by simp[aM.asks,e]
   omega
 rw[if_neg e]
 by_cases e:n.op=19
 ·rw[if_pos e];have h1:n.asks=1:=by simp[aM.asks,e]
  exact aQw hp h ha hl (hv _ (dJ (by omega)))
 rw[if_neg e]
 by_cases e:n.op=20
 ·rw[if_pos e];have h1:n.asks=1:=by simp[aM.asks,e]
  exact aT3 h ha hl (hv _ (dJ (by omega)))
 rw[if_neg e]
 by_cases e:n.op=21
 ·rw[if_pos e];rw[rD];exact aDa h ha hl (aL8 (by simp) (by simp)) (by decide)
 rw[if_neg e]
 by_cases e:n.op=22 \/n.op=23
 ·rw[if_pos e]
  refine aL9 h ha hl hv ?_ ?_
  ·have:1<=n.asks:=by rcases e with e|e<;>simp[aM.asks,e]
   omega
  ·intro e;have:n.asks=2:=by simp[aM.asks,e]
   omega
 rw[if_neg e]
 by_cases e:n.op=24 \/n.op=25
 ·rw[if_pos e]
  refine aQx h ha hl (fun h25=>?_) hv
  have e:n.op=24:=by omega
  have h1:n.asks=1:=by simp[aM.asks,e]
  simp only[oL,e]at hnum
  simp at hnum
  exact⟨by omega,hnum⟩
 rw[if_neg e];rw[rD];exact eQ h ha hl rC
theorem aI1 {o:aQ}(h0:0<o.frames.length):o.frames=o.frames.take (o.frames.length-1)++[o.frames.getD (o.frames.length-1) fF]:=by
 have h:o.frames.length-1<o.frames.length:=by omega
 simp only[bPu,bQz h,bQg];rw[List.take_append_getElem h];rw[bQa (by omega)]
theorem kM (hp:dU p)(h:cM p w0 S w)(ha:inR a 0 ((w.tasks.length:Int)-1)=true):cM p w0 S (aV p w a).w:=by
 obtain⟨h1,h2,h3⟩:=h.task ha;have hO:=h.obj h1 h3;unfold aV
 simp only
 generalize ho:w.obj (bG w a)=o at hO h2⊢;have hk:=hO.ok;rw[dQ,if_pos h2,kG]at hk;split
 ·exact h
 rename_i n0;rw[if_pos (Decidable.not_not.1 n0)]at hk;simp only[bU,bPp,bTe,bPv,bA]at hk;obtain⟨⟨⟨⟨k1,k2⟩,k3,k4⟩,k5⟩,k6⟩:=hk;have hF: ∀f∈o.frames,FOk p S w f:=fun f hf=>hO.frames hf
 split
 ·rename_i hv1;have hv:VOk p S w (aE o.vals 0):=hO.vals (dJ (by omega))
  split
  ·exact h.set h1 (bCh hv) (by rw[ho,h2])
  ·rename_i hf0;rw[bQa (by omega)]at k6
   refine h.set h1 ?_ (by rw[ho,h2])
   have hm:o.frames.getD (o.frames.length-1) fF∈o.frames:=nD (by omega)
   have hl:LOk p S w (o.frames.take (o.frames.length-1)):=⟨by simp only[bQx];omega,fun f hf=>hF f (bR0 hf),fun f hf=>k6 f (bR0 hf)⟩
   have e:aDx o.frames (aE o.vals 0)=o.frames.take (o.frames.length-1)++[⟨(o.frames.getD (o.frames.length-1) fF).node,(o.frames.getD (o.frames.length-1) fF).env,(o.frames.getD (o.frames.length-1) fF).vals++[aE o.vals 0]⟩]:=by
    unfold aDx;generalize hx:(⟨(o.frames.getD (o.frames.length-1) fF).node,(o.frames.getD (o.frames.length-1) fF).env,(o.frames.getD (o.frames.length-1) fF).vals++[aE o.vals 0]⟩:aB)=x;have:=aI1 (o:=o) (by omega)
    generalize o.frames.getD (o.frames.length-1) fF=y at this;have hlen:(o.frames.take (o.frames.length-1)).length=o.frames.length-1:=by simp only[bQx];omega
    conv=>lhs;rw[this]
    rw[List.set_append_right _ _ (by simp only[bP9,bPy,bP7,hlen];omega)]
    simp only[bP9,bPy,bP7,hlen];simp
   rw[e]
   refine aL6 hl (by simp only[bQx];omega) ⟨?_,fun v hv'=>?_⟩
   ·have a1:=(hF _ hm).ok;have a2:=k6 _ hm;simp only[fN,bTe]at a2;simp only[dI,bA,bPp,bTe,bPv]at a1⊢
    refine⟨a1.1,by simp only[bP9,bPy,bP7];omega,fun v hv'=>?_⟩
    rcases bQe.1 hv' with hv'|hv'
    ·exact a1.2.2 v hv'
    ·simp only[bQ1]at hv';subst hv';exact hv.ok
   ·simp only at hv'
    rw[<-List.append_assoc]at hv';rcases bQe.1 hv' with hv'|hv'
    ·exact(hF _ hm).ref v hv'
    ·simp only[bQ1]at hv';subst hv';exact hv.ref
 ·rename_i hv1;have hz:o.vals.length=0:=by omega
  have hf0:0<o.frames.length:=by omega
  have hm:o.frames.getD (o.frames.length-1) fF∈o.frames:=nD (by omega)
  have hl:LOk p S w (o.frames.take (o.frames.length-1)):=⟨by simp only[bQx];omega,fun f hf=>hF f (bR0 hf),fun f hf=>k6 f (by rw[hz,bQ9];exact hf)⟩
  have hfo:=hF _ hm;have hni:inR (o.frames.getD (o.frames.length-1) fF).node 0 ((p.nodes.length:Int)-1)=true:=by
   have:=hfo.ok;simp only[dI,bPp]at this;exact this.1.1
  split
  ·rename_i hop;have hL:LOk p S w o.frames:=by
    refine⟨by omega,hF,fun f hf=>?_⟩
    rw[aI1 hf0]at hf;rcases bQe.1 hf with hf|hf
    ·exact hl.opn f hf
    ·simp only[bQ1]at hf;subst hf;simpa[fN]using hop
   refine uC h ha hL (aV8 hp hni (by omega) ?_) fun v hv=>hfo.env hv
   have:=aHt (hp.nodes _ (iV hni));omega
  ·rename_i hop
   refine aY8 hp h ha hl hfo ?_
   have:=hfo.ok;simp only[dI,bA,bPp,bTe]at this;omega
theorem aQy (hs:aR p=true)(hi:inR i 0 ((p.nodes.length:Int)-1)=true):(p.node i).asks<=10:=by
 simp only[aR,bPp,bPv]at hs;have:=hs.2 _ (iV hi);simp only[gE,bPp,bTe]at this;unfold aM.asks;split
 ·omega
 split
 ·omega
 split<;>omega
theorem aGi {l:List aB}(hs:aR p=true)(h:bU p w l=true):l.length<=40/\ ∀f∈l,f.env.length<=30/\ f.vals.length<=10:=by
 simp only[bU,bPp,bTe,bPv]at h
 refine⟨by omega,fun f hf=>?_⟩
 have:=h.2 f hf;simp only[dI,bA,bPp,bTe]at this;obtain⟨⟨h1,h2,_⟩,h3,_⟩:=this;have:=aQy hs h1;omega
theorem aEo {o:aQ}(h:dQ p w o=true):o.vals.length<=30:=by
 have vs: ∀{l:List aD} {m:Int},bA p w l m=true->(l.length:Int)<=m:=fun h=>by
  simp only[bA,bPp,bTe]at h;exact h.1
 unfold dQ at h
 split at h
 ·unfold kG at h
  split at h
  ·simp only[bPp]at h;have:=vs h.1.1.2;omega
  split at h
  ·simp only[bPp]at h;have:=vs h.2;omega
  split at h
  ·simp only[bPp,bTe]at h;omega
  ·cases h
 split at h
 ·simp only[bPp,bTe]at h;omega
 split at h
 ·cases h
 split at h
 ·simp only[bPp]at h;have:=vs h.2;omega
 split at h
 ·simp only[bPp]at h;have:=vs h.2;omega
 split at h
 ·simp only[bPp]at h;have:=vs h.2;omega
 split at h
 ·simp only[bPp]at h;have:=vs h.2;omega
 ·cases h
theorem aY9 {o:aQ}(hs:aR p=true)(h:dQ p w o=true):iJ o=true:=by
 have h1:=aEo h;obtain⟨h2,h3⟩:=aGi hs (aC9 h).2;simp only[iJ,bPp,bTe,bPv]
 refine⟨⟨by omega,by omega⟩,fun f hf=>?_⟩
 have:=h3 f hf;omega
theorem rE (h:jI w=true):w.tasks.length<=w.objs.length:=by
 simp only[jI,bPp,bTe]at h;rw[h.1];exact bS0
theorem lW (hs:aR p=true)(h:cX p w=true):bW w=true:=by
 obtain⟨a1,a2,a3,a4,a5,a6,a7⟩:=cR.1 h;have:=rE a5;simp only[nW,bPp,bTe]at a3;simp only[bW,bPp,bTe,bPv];exact⟨⟨⟨⟨by omega,by omega⟩,by omega⟩,by omega⟩,fun o ho=>aY9 hs (a6 o ho)⟩
theorem rX (h:bW w=true):w.few:=by
 simp only[bW,bPp,bTe,bPv]at h;obtain⟨⟨⟨⟨h1,h2⟩,h3⟩,h4⟩,h5⟩:=h
 refine⟨by unfold Few;omega,by unfold Few;omega,by unfold Few;omega,by unfold Few;omega,fun o ho=>?_⟩
 have:=h5 o ho;simp only[iJ,bPp,bTe,bPv]at this
 refine⟨by unfold Few;omega,by unfold Few;omega,fun f hf=>?_⟩
 have:=this.2 f hf;exact⟨by unfold Few;omega,by unfold Few;omega⟩
def dG (p:aF)(a:Int):Nat->aA->aA×Nat×Bool
 |0,w=>if(aV p w a).what=0 then(w,1,false)else(w,0,true)
 |k+1,w=>if(aV p w a).what=0 then((dG p a k (aV p w a).w).1,(dG p a k (aV p w a).w).2.1+1,(dG p a k (aV p w a).w).2.2)else(w,0,true)
def eW (p:aF):Nat->Nat->aA->Nat->aA×Nat×Bool
 |0,_,w,s=>(w,s,true)
 |n+1,a,w,s=>
  if a<w.tasks.length then
   (if(dG p a (5000-s) w).2.2=true then eW p n (a+1) (dG p a (5000-s) w).1 (s+(dG p a (5000-s) w).2.1)
   else((dG p a (5000-s) w).1,s+(dG p a (5000-s) w).2.1,false))
  else(w,s,true)
def bI (p:aF)(w:aA)(s:Nat):aA×Nat×Bool:=eW p 121 0 w s
def fY (p:aF)(w:aA)(k:Nat):List Int:=((List.range k).filter fun(a:Nat)=>!decide ((aV p w a).what=2)).map fun(a:Nat)=>(a:Int)
def cH (p:aF)(w:aA):List Int:=fY p w w.tasks.length
def fQ (p:aF)(w:aA)(pick:Int):aA×iD×Nat×Int:=
 let r:=bI p w 0
 if r.2.2=false then(r.1,eB,0,8)
 else if cH p r.1=[]then(r.1,eB,0,5)
 else
  let d:=aV p r.1 ((cH p r.1).getD (pick%(cH p r.1).length).toNat 0);let q:=bI p d.w (r.2.1+1)
  if q.2.2=false \/5000<q.2.1 then(q.1,eB,0,8)else(q.1,d.e,q.2.1,0)
variable {m:Nat}{x:Int}
section
theorem aOv (h:cM p w0 S w):cM p w (fun _=>True) w:=⟨h.ok,bPq _,fun _ _=>rfl,bSo _,fun _ _ _ _ _ _=>trivial,fun _ _=>trivial,fun _ _=>trivial⟩
theorem aMa (hp:dU p)(h:cM p w0 S w)(ha:inR a 0 ((w.tasks.length:Int)-1)=true):w.tasks.length<=(aV p w a).w.tasks.length:=(kM hp (aOv h) ha).pre.length_le
theorem bGc {n:Nat}(h:inR a 0 ((m:Int)-1)=true)(hl:m<=n):inR a 0 ((n:Int)-1)=true:=by
 simp only[inR,bTe]at h⊢;omega
theorem aMb (hp:dU p){a:Int}: ∀(k:Nat) {w:aA},cM p w0 S w->inR a 0 ((w.tasks.length:Int)-1)=true->cM p w0 S (dG p a k w).1
 |0,w,h,ha=>by unfold dG;split<;>exact h
 |k+1,w,h,ha=>by
  unfold dG;split
  ·exact aMb hp k (kM hp h ha) (bGc ha (aMa hp h ha))
  ·exact h
theorem aGj (hp:dU p): ∀(n:Nat) {a:Nat} {w:aA} {s:Nat},cM p w0 S w->cM p w0 S (eW p n a w s).1
 |0,_,_,_,h=>h
 |n+1,a,w,s,h=>by
  unfold eW;split
  ·rename_i ha;have ha:inR (a:Int) 0 ((w.tasks.length:Int)-1)=true:=by simp only[inR,bTe];omega
   have hi:=aMb hp (5000-s) h ha;split
   ·exact aGj hp n hi
   ·exact hi
  ·exact h
theorem sR (hp:dU p){s:Nat}(h:cM p w0 S w):cM p w0 S (bI p w s).1:=aGj hp 121 h
theorem aMc (h:x∈cH p w):inR x 0 ((w.tasks.length:Int)-1)=true:=by
 obtain⟨i,hi,rfl⟩:=bQk.1 h;have:=bQl.1 (bRa.1 hi).1;simp only[inR,bTe];omega
theorem aQz {l:List Int}(h: ¬l=[])(pick:Int):(pick%l.length).toNat<l.length:=by
 have h0:0<l.length:=bSj.2 h;have h1:=Int.emod_nonneg pick (show(l.length:Int)≠0 by omega)
 have h2:=Int.emod_lt_of_pos pick (show 0<(l.length:Int)by omega)
 omega
theorem aOw (hp:dU p)(h:cM p w0 S w)(pick:Int):cM p w0 S (fQ p w pick).1:=by
 have h1:=sR hp (s:=0) h;unfold fQ
 simp only
 split
 ·exact h1
 split
 ·exact h1
 rename_i hl;have h2:=sR hp (s:=(bI p w 0).2.1+1) (kM hp h1 (aMc (nD (d:=0) (aQz hl pick))))
 split<;>exact h2
end
theorem aCa {p:aF}{a:Int}: ∀(k:Nat) (w:aA),(dG p a k w).2.1<=k+1/\ ((dG p a k w).2.2=true->(dG p a k w).2.1<=k)
 |0,w=>by unfold dG;split<;>simp
 |k+1,w=>by
  obtain⟨h1,h2⟩:=aCa (p:=p) (a:=a) k (aV p w a).w;unfold dG;split
  ·exact⟨by simp only;omega,fun h=>by have:=h2 h;simp only;omega⟩
  ·simp
theorem aD0 {p:aF}: ∀(n:Nat) {a:Nat} {w:aA} {s:Nat},s<=5001->(eW p n a w s).2.1<=5002
 |0,_,_,_,h=>by show _<=_;simp only[eW];omega
 |n+1,a,w,s,h=>by
  obtain⟨h1,h2⟩:=aCa (p:=p) (a:=a) (5000-s) w;unfold eW;split
  ·split
   ·rename_i hb;have:=h2 hb;exact aD0 n (by omega)
   ·simp only;omega
  ·simp only;omega
set_option maxRecDepth 100000
set_option maxHeartbeats 4000000
theorem vY (h:cM p w0 S w)(ha:inR a 0 ((w.tasks.length:Int)-1)=true):Fit w a:=by
 obtain⟨a1,a2,a3,a4,a5,a6,a7⟩:=cR.1 h.ok;have:=rE a5;simp only[nW,bPp,bTe]at a3;exact⟨⟨by omega,by omega,by omega,by omega⟩,ha,(h.task ha).1⟩
theorem fZ (h:VOk p S w v)(h5:v.kind=5):inR v.n 0 ((w.objs.length:Int)-1)=true:=by
 have h1:=h.ok;simp only[dM,h5]at h1
 simpa using h1
def xW (p:aF)(w:aA)(f v:aD):aB:=(eP p w f v).getD fF
theorem aT4 {f:aD}(hp:dU p)(h:cM p w0 S w)(hf:VOk p S w f)(hv:VOk p S w v):
  PC L 228 [.agg p.cs,.agg w.cs,.agg [.i f.kind,.i f.n],.agg [.i v.kind,.i v.n]] (.tup [.agg [.i (xW p w f v).node,.fz ((xW p w f v).env.map aD.enc),.fz ((xW p w f v).vals.map aD.enc)],.bool (eP p w f v).isSome]):=by
 have hO:=pR w f 2 (fZ hf);have hL:=at_ func228
 conv at hL=>rhs;reduce
 refine aI hL rfl rfl ?_
 by_cases h4:f.kind=4
 ·have d1:decide (f.kind=4)=true:=D_t h4;have hi:inR f.n 0 ((p.funs.length:Int)-1)=true:=by
   have h1:=hf.ok;simp only[dM,h4]at h1
   simpa using h1
  have e:eP p w f v=some ⟨bHw p f.n,[v],[]⟩:=by unfold eP;rw[if_pos h4]
  rw[xW,e];simp only[go_sem,kK,d1]
  refine aH ?_
  simp only[go_sem,vB hi,qO,lR,kA,bPs,if_false];simp only[go_sem,bHw,bQg,bRm,bP1,bQj]
 ·have d1:decide (f.kind=4)=false:=D_f h4
  by_cases h2:cK w f 2=true
  ·have e:eP p w f v=some ⟨oY (p.node (w.obj f.n).n) 0,(w.obj f.n).vals++[v],[]⟩:=by unfold eP;rw[if_neg h4,if_pos h2]
   obtain⟨a1,a2,a3,a4⟩:=fI h hf h2;have hk:=a2.ok;simp only[dQ,a3]at hk
   simp at hk
   obtain⟨_,⟨b1,b2⟩,b3⟩:=hk;have hlen:=aEo a2.ok;have hkk:=oK (hp.nodes _ (iV b1));rw[b2]at hkk;simp[fK]at hkk;have hk0:inR 0 0 (((p.node (w.obj f.n).n).kids.length:Int)-1)=true:=by simp only[inR,bTe];omega
   have hMo:=aF6 (w.obj f.n).vals v (by omega)
   rw[vX,if_pos h2,h2]at hO;rw[xW,e];simp only[go_sem,kK,d1,hO.ret]
   refine aH ?_
   simp only[go_sem,bK b1,vB hk0,hMo.ret,kA,bPs,if_false];simp only[go_sem,oY,bQg,bRm,bP1]
  ·have e:eP p w f v=none:=by unfold eP;rw[if_neg h4,if_neg h2]
   rw[bQ0]at h2;rw[h2]at hO;rw[xW,e];simp only[go_sem,kK,d1,hO.ret,bS2,bRx,fF,bP1]
variable {cnt cnt':Nat->Nat->Nat}{en en':En}
theorem xA.later {en1:En}{cnt1:Nat->Nat->Nat}{tail:List Val}{x:Val}(h:xA en1 cnt1 w tail x en' cnt')(h1: ∀t g,g<cnt 0 t->en1 ⟨0,t,g⟩=en ⟨0,t,g⟩)(h2: ∀t,cnt 0 t<=cnt1 0 t){g8:Nat}(hg:cnt 0 8<=g8)(hg':g8<cnt1 0 8)(Z:Option Ent):
  xA en cnt w tail x (en'.set ⟨0,8,g8⟩ Z) cnt':=by
 obtain⟨⟨g5,g9,vU,vI,rfl,e5,l5,m5,e9,l9,m9,mU,mI⟩,old,up⟩:=h
 refine⟨⟨g5,g9,vU,vI,rfl,by simp only[go_sem,e5],bP2 (h2 5) l5,m5,?_,bP2 (h2 8) l9,m9,mU.keep (fun g _=>by simp only[go_sem]) (bPq _),mI.keep (fun g _=>by simp only[go_sem]) (bPq _)⟩,fun t g hg1=>?_,fun t=>bP2 (h2 t) (up t)⟩
 ·rw[aW6 (by omega)];exact e9
 ·rw[jS hg hg1,old t g (bQf hg1 (h2 t)),h1 t g hg1]
theorem aXi {o:aQ}(hf:Fit w a)(h:w.objs.length<120):Fit (eC w o) a:=by
 have hr:=hf.rng;have hl:=hf.len
 refine⟨?_,hf.at_,?_⟩
 ·rw[nO];exact⟨by omega,hl.2⟩
 ·rw[nO];show inR (bG w a) 0 _=true;simp only[inR,bTe]at hr⊢;omega
theorem aT5 (w:aA)(a:Int)(left:List aB)(o:aQ){c oa ob:Val}(hc:aDz c (.fz (left.map aB.enc)))(ha:aDz oa (.fz (o.vals.map aD.enc)))(hb:aDz ob (.fz (o.frames.map aB.enc)))(hf:Fit w a):
  WIn L (.fn 181 [] []) [.agg w.cs,.i a,c,.agg [.i o.form,.i o.n,oa,ob]] en cnt fun x en' cnt'=>
   ((120<=w.objs.length/\ x= .agg [.fz ((bE w a 4).w.objs.map aQ.enc),.fz ((bE w a 4).w.tasks.map (.int .i64)),.fz ((bE w a 4).w.outs.map bJ.enc),.fz ((bE w a 4).w.ins.map (.int .i64)),.i (bE w a 4).w.used,.i (bE w a 4).what,.i (bE w a 4).e.task,.i (bE w a 4).e.act,.i (bE w a 4).e.n,.i (bE w a 4).e.v.kind,.i (bE w a 4).e.v.n]/\ (∀t g,g<cnt 0 t->en' ⟨0,t,g⟩=en ⟨0,t,g⟩)/\ ∀t,cnt 0 t<=cnt' 0 t) \/(w.objs.length<120/\ xA en cnt (bV (eC w o) a left (dN w.objs.length)).w [.i 0,.i 0,.i 0,.i 0,.i 0,.i 0] x en' cnt')):=by
 have hF:=gG w a 4 hf;have hat:=hf.at_;have hrng:=hf.rng;simp only[inR,bTe]at hat hrng;obtain⟨g4,hg4⟩: ∃g,g=cnt 0 4:=⟨_,rfl⟩
 obtain⟨g7,hg7⟩: ∃g,g=cnt 0 7:=⟨_,rfl⟩
 obtain⟨g8,hg8⟩: ∃g,g=cnt 0 8:=⟨_,rfl⟩
 have up0: ∀t,cnt 0 t<=aC (aC (aC cnt 0 4 (g4+1)) 0 7 (g7+1)) 0 8 (g8+1) 0 t:=oR (oR (oR (fun _=>bPq _) hg4) hg7) hg8
 have oldS:=fun{e1:En} {x4 x7 x8:Option Ent} {t g:Nat} (hg:g<cnt 0 t)=>show((e1.set ⟨0,4,g4⟩ x4).set ⟨0,7,g7⟩ x7).set ⟨0,8,g8⟩ x8 ⟨0,t,g⟩=e1 ⟨0,t,g⟩by
  rw[jS (bQ8 hg8.symm) hg,jS (bQ8 hg7.symm) hg,jS (bQ8 hg4.symm) hg]
 have hL:=at_ func181
 conv at hL=>rhs;reduce
 refine bD hL rfl rfl ?_
 by_cases h1:120<=w.objs.length
 ·have d1:decide ((120:Int)<=(w.objs.length:Int))=true:=D_t (by omega)
  simp only[go_sem,kK,<-hg4,<-hg7,<-hg8,d1,hF.ret]
  refine .inl ⟨h1,fun t g hg=>?_,up0⟩
  rw[jS (bQ8 hg8.symm) hg,oldS hg]
 ·have d1:decide ((120:Int)<=(w.objs.length:Int))=false:=D_f (by omega)
  have h1:w.objs.length<120:=by omega
  simp only[go_sem,kK,<-hg4,<-hg7,<-hg8,d1]
  refine(aGe w (by omega) (by omega) hf.len (aB7 _ _ w)).mono ?_
  rintro x en1 cnt1 ⟨⟨g5,gT,vU,vI,rfl,e5,l5,m5,eT,lT,mT,mU,mI⟩,old,up⟩
  have e4:=old 4 g4 (by simp[aC])
  have e7:=old 7 g7 (by simp[aC])
  have e8:=old 8 g8 (by simp[aC])
  have hTne: ¬gT=g8:=by have:=lT;simp[aC]at this;omega
  try simp only[go_sem]at e4 e7 e8
  obtain⟨g22,hg22⟩: ∃g,g=cnt1 0 22:=⟨_,rfl⟩
  have hw1:IntKind.i64.wrap (((w.objs.length+1:Nat):Int)-1)=(w.objs.length:Int):=by rw[aW (by omega)];omega
  have hl16:w.objs.length+1<=16777216:=by omega
  simp only[go_sem,e4,e7,e5,ha.snap,hb.snap,ha.wk,hb.wk,rT,lS,bM,dY,tE,bGb,kL,bPr,hl16,bPq,<-hg22]
  refine aH ?_
  simp only[go_sem,hw1,(aLu _).ret,kA,bPs,if_false];have up2: ∀t,cnt 0 t<=aC cnt1 0 22 (g22+1) 0 t:=fun t=>bP2 (up0 t) (bP2 (up t) (oR (fun _=>bPq _) hg22 t))
  have hn5:cnt 0 5<=g5:=bP2 (up0 5) l5;have hn22:cnt 0 22<=g22:=by rw[hg22];exact bP2 (up0 22) (up 22)
  have lt8:g8<aC cnt1 0 22 (g22+1) 0 8:=bQf (show g8<aC (aC (aC cnt 0 4 (g4+1)) 0 7 (g7+1)) 0 8 (g8+1) 0 8 by simp[aC]) (bP2 (up 8) (oR (fun _=>bPq _) hg22 8))
  refine(aTv (eC w o) a left (dN w.objs.length) hc (aXi hf h1) (vO:= .bl ⟨0,22,g22⟩ 0 (w.objs.length+1)) (vT:= .bl ⟨0,8,gT⟩ 0 w.tasks.length) (vU:=vU) (vI:=vI) (.inr ⟨g22,gT,by rw[nO],?_,by simp[aC],rfl,?_,?_,mU.keep (fun g _=>by simp only[go_sem]) (oR (fun _=>bPq _) hg22 11),mI.keep (fun g _=>by simp only[go_sem]) (oR (fun _=>bPq _) hg22 14)⟩)).mono ?_
  ·simp only[go_sem,eC,bQs]
  ·simp only[go_sem,eT];rfl
  ·exact bQf mT (oR (fun _=>bPq _) hg22 8)
  ·intro x en2 cnt2 hO;have e8':=hO.old 8 g8 lt8
   try simp only[go_sem,e8]at e8'
   have hO':=fun Z=>hO.later (en:=en) (cnt:=cnt) (g8:=g8) (fun t g hg=>by
    rw[jS (bQ8 hg4.symm) hg,jS (ga:=g22) (a:=22) hn22 hg,jS (ga:=g5) (a:=5) hn5 hg];rw[jS (bQ8 hg4.symm) hg,old t g (bQf hg (up0 t)),oldS hg]) up2 (bQ8 hg8.symm) lt8 Z
   obtain⟨⟨g5',g9,vU',vI',rfl,_⟩,_,_⟩:=hO;simp only[go_sem,e8'];exact .inr ⟨h1,hO' _⟩
theorem aJq (w:aA)(a:Int)(left:List aB)(o:aQ)(hf:Fit w a):PC L 181 [.agg w.cs,.i a,.fz (left.map aB.enc),.agg [.i o.form,.i o.n,.fz (o.vals.map aD.enc),.fz (o.frames.map aB.enc)]] (.agg [.fz ((iN w a left o).w.objs.map aQ.enc),.fz ((iN w a left o).w.tasks.map (.int .i64)),.fz ((iN w a left o).w.outs.map bJ.enc),.fz ((iN w a left o).w.ins.map (.int .i64)),.i (iN w a left o).w.used,.i (iN w a left o).what,.i (iN w a left o).e.task,.i (iN w a left o).e.act,.i (iN w a left o).e.n,.i (iN w a left o).e.v.kind,.i (iN w a left o).e.v.n]):=by
 have hL:=at_ func181
 conv at hL=>rhs;reduce
 refine aHr hL rfl rfl rfl ((aT5 w a left o (sQ _) (sQ _) (sQ _) hf).mono fun v en' cnt' h=>?_)
 rcases h with⟨h1,rfl,_,_⟩|⟨h1,h2⟩
 ·have e:iN w a left o=bE w a 4:=by unfold iN;rw[if_pos h1]
  rw[e];exact⟨_,_,by simp only[go_sem];rfl,by simp only[go_sem]⟩
 ·have e:iN w a left o=bV (eC w o) a left (dN w.objs.length):=by unfold iN;rw[if_neg (by omega)]
  rw[e];exact h2.snapD (d:=bV (eC w o) a left (dN w.objs.length))
theorem aV9 (hp:dU p)(h:cM p w0 S w)(ha:inR a 0 ((w.tasks.length:Int)-1)=true)(hl:LOk p S w left){f:aD}(hf:VOk p S w f)(hv:VOk p S w v):
  PC L 182 [.agg p.cs,.agg w.cs,.i a,.fz (left.map aB.enc),.agg [.i f.kind,.i f.n],.agg [.i v.kind,.i v.n]] (.agg [.fz ((fG p w a left f v).w.objs.map aQ.enc),.fz ((fG p w a left f v).w.tasks.map (.int .i64)),.fz ((fG p w a left f v).w.outs.map bJ.enc),.fz ((fG p w a left f v).w.ins.map (.int .i64)),.i (fG p w a left f v).w.used,.i (fG p w a left f v).what,.i (fG p w a left f v).e.task,.i (fG p w a left f v).e.act,.i (fG p w a left f v).e.n,.i (fG p w a left f v).e.v.kind,.i (fG p w a left f v).e.v.n]):=by
 have hfit:=vY h ha;have hO:=pR w f 5 (fZ hf);have hF4:=gG w a 4 hfit;have hF2:=gG w a 2 hfit;have hlen:=hl.len
 by_cases h5:cK w f 5=true
 ·obtain⟨_,a2,a3,_⟩:=fI h hf h5;have hk:=aHu a2 a3;have hkl:=hk.len;have hk0:0<(w.obj f.n).frames.length:=by
   have:=a2.ok;rw[dQ,if_neg (by rw[a3];decide),if_pos a3]at this
   simp only[bPp,bTe]at this;omega
  rw[vX,if_pos h5,h5]at hO;have hB:=jW w a (left++(w.obj f.n).frames) v hfit;rw[bQs]at hB;have hl1:left.length<=16777216:=by omega
  have hl2:(w.obj f.n).frames.length<=16777216:=by omega
  have hl3:left.length+(w.obj f.n).frames.length<=16777216:=by omega
  have he2:(w.obj f.n).frames.isEmpty=false:=aLt hk0;have e:fG p w a left f v=if 40<left.length+(w.obj f.n).frames.length then bE w a 4 else bV w a (left++(w.obj f.n).frames) v:=by
   unfold fG;rw[if_pos h5,bP9]
  rw[e];have hL:=at_ func182
  conv at hL=>rhs;reduce
  refine aI hL rfl rfl ?_
  by_cases h40:40<left.length+(w.obj f.n).frames.length
  ·rw[if_pos h40];have d1:decide ((40:Int)<((left.length+(w.obj f.n).frames.length:Nat):Int))=true:=D_t (by omega)
   cases h0:left.isEmpty with
   |true=>
    have:left=[]:=by simpa using h0
    subst this;simp only[bP7,bQh]at d1;simp only[go_sem,kK,hO.ret]
    refine aH ?_
    simp only[go_sem,kK,bM,dY,nB,gX,iR,he2,hl2,jM,bPr,kA,bPs,if_false];simp only[go_sem,kK,d1,hF4.ret]
   |false=>
    simp only[go_sem,kK,hO.ret]
    refine aH ?_
    simp only[go_sem,kK,bM,dY,gX,tE,kL,iR,h0,hl1,hl3,jM,bPr,bPq,kA,bPs,if_false];simp only[go_sem,kK,d1,hF4.ret]
  ·rw[if_neg h40];have d1:decide ((40:Int)<((left.length+(w.obj f.n).frames.length:Nat):Int))=false:=D_f (by omega)
   cases h0:left.isEmpty with
   |true=>
    have:left=[]:=by simpa using h0
    subst this;simp only[bP7,bQh]at d1;simp only[bP1,bQt]at hB⊢;simp only[go_sem,kK,hO.ret]
    refine aH ?_
    simp only[go_sem,kK,bM,dY,nB,gX,iR,he2,hl2,jM,bPr,kA,bPs,if_false];simp only[go_sem,d1,hB.ret,bPr,bPq,qY]
   |false=>
    simp only[go_sem,kK,hO.ret]
    refine aH ?_
    simp only[go_sem,kK,bM,dY,gX,tE,kL,iR,h0,hl1,hl3,jM,bPr,bPq,kA,bPs,if_false];simp only[go_sem,d1,hB.ret,bPr,bP9,bPq,bQa]
 ·have hB:=aT4 hp h hf hv;rw[bQ0]at h5;rw[h5]at hO;have hL:=at_ func182
  conv at hL=>rhs;reduce
  refine aI hL rfl rfl ?_
  cases hb:eP p w f v with
  |none=>
   have e:fG p w a left f v=bE w a 2:=by unfold fG;rw[if_neg (by rw[h5];decide),hb]
   rw[e];rw[hb]at hB;simp only[go_sem,kK,hO.ret,hB.ret,bRx,hF2.ret]
  |some b=>
   have e:fG p w a left f v=gW w a left b.node b.env:=by unfold fG;rw[if_neg (by rw[h5];decide),hb]
   rw[e];have hv:xW p w f v=b:=by rw[xW,hb];rfl
   rw[hb,hv]at hB;have hN:=aC8 w a left b.node b.env hfit (by omega)
   simp only[go_sem,kK,hO.ret,hB.ret,bRm,hN.ret]
theorem vZ (u v:aD):(decide (u.kind=v.kind)&&decide (u.n=v.n))=decide (u=v):=by
 cases u;cases v;simp only[aD.mk.injEq];rw[bRd];simp
theorem aXj (h:VOk p S w v)(h1:v.kind=1): -1000000000<=v.n/\ v.n<=1000000000:=by
 have:=h.ok;rw[dM,if_pos h1]at this
 simpa[inR]using this
theorem bHy {y:Int}(hx: -1000000000<=x/\ x<=1000000000)(hy: -1000000000<=y/\ y<=1000000000): -1000000000000000000<=x*y/\ x*y<=1000000000000000000:=by
 have h1:x.natAbs<=1000000000:=by omega
 have h2:y.natAbs<=1000000000:=by omega
 have h3:(x*y).natAbs<=1000000000*1000000000:=by rw[Int.natAbs_mul];exact Nat.mul_le_mul h1 h2
 omega
theorem wA (h:cM p w0 S w)(ha:inR a 0 ((w.tasks.length:Int)-1)=true)(hu:VOk p S w u)(hv:VOk p S w v)(ho:op=9 \/op=10 \/op=11 \/op=12 \/op=13):
  PC L 183 [.agg w.cs,.i a,.fz (left.map aB.enc),.i op,.agg [.i u.kind,.i u.n],.agg [.i v.kind,.i v.n]] (.agg [.fz ((cJ w a left op u v).w.objs.map aQ.enc),.fz ((cJ w a left op u v).w.tasks.map (.int .i64)),.fz ((cJ w a left op u v).w.outs.map bJ.enc),.fz ((cJ w a left op u v).w.ins.map (.int .i64)),.i (cJ w a left op u v).w.used,.i (cJ w a left op u v).what,.i (cJ w a left op u v).e.task,.i (cJ w a left op u v).e.act,.i (cJ w a left op u v).e.n,.i (cJ w a left op u v).e.v.kind,.i (cJ w a left op u v).e.v.n]):=by
 have hfit:=vY h ha;have hF2:=gG w a 2 hfit;have hF4:=gG w a 4 hfit;have hI:=oH (rM op u.n v.n) (-1000000000) 1000000000
 by_cases h13:op=13
 ·subst h13
  by_cases h1:u.kind=v.kind
  ·have d1:decide (u.kind=v.kind)=true:=D_t h1
   by_cases h3:3<u.kind
   ·have d3:decide (3<u.kind)=true:=D_t h3;have e:cJ w a left 13 u v=bE w a 2:=by unfold cJ;rw[if_pos rfl,if_pos (.inr h3)]
    rw[e]
    refine aI aIl rfl rfl ?_
    simp only[go_sem,kK,aFq,d1,d3,hF2.ret]
   ·have d3:decide (3<u.kind)=false:=D_f h3;have e:cJ w a left 13 u v=bV w a left (nM (decide (u=v))):=by
     unfold cJ;rw[if_pos rfl,if_neg (by rintro(h|h);exact h h1;exact h3 h)]
    rw[e];have hB:=jW w a left (nM (decide (u=v))) hfit
    refine aI aIl rfl rfl ?_
    simp only[go_sem,kK,aFq,d1,d3]
    refine aH ?_
    simp only[go_sem,vZ,(aJo _).ret,hB.ret,kA,bPs,if_false]
  ·have d1:decide (u.kind=v.kind)=false:=D_f h1;have e:cJ w a left 13 u v=bE w a 2:=by unfold cJ;rw[if_pos rfl,if_pos (.inl h1)]
   rw[e]
   refine aI aIl rfl rfl ?_
   simp only[go_sem,kK,aFq,d1,hF2.ret]
 ·have d13:decide (op=13)=false:=D_f h13
  by_cases h1:u.kind=1
  ·have d1:decide (u.kind=1)=true:=D_t h1
   by_cases h2:v.kind=1
   ·have d2:decide (v.kind=1)=true:=D_t h2;have bu:=aXj hu h1;have bv:=aXj hv h2;have bm:=bHy bu bv
    by_cases h12:op=12
    ·subst h12;have e:cJ w a left 12 u v=bV w a left (nM (decide (u.n<v.n))):=by
      unfold cJ;rw[if_neg (by decide),if_neg (by rintro(h|h);exact h h1;exact h h2),if_pos rfl]
     rw[e];have hB:=jW w a left (nM (decide (u.n<v.n))) hfit
     refine aI aIl rfl rfl ?_
     simp only[go_sem,kK,aFq,d1,d2]
     refine aH ?_
     simp only[go_sem,(aJo _).ret,hB.ret,kA,bPs,if_false]
    ·have d12:decide (op=12)=false:=D_f h12;have e:cJ w a left op u v=if inR (rM op u.n v.n) (-1000000000) 1000000000=true then bV w a left (nG (rM op u.n v.n))else bE w a 4:=by
      unfold cJ;rw[if_neg h13,if_neg (by rintro(h|h);exact h h1;exact h h2),if_neg h12]
     rw[e];have hB:=jW w a left (nG (rM op u.n v.n)) hfit;have ho':op=9 \/op=10 \/op=11:=by omega
     rcases ho' with rfl|rfl|rfl
     all_goals
      simp only[rM]at hI hB⊢
      simp at hI hB⊢
      split
      ·rename_i hin;rw[hin]at hI
       refine aI aIl rfl rfl ?_
       simp only[go_sem,kK,aFq,d1,d2,aW (show-9223372036854775808<=u.n+v.n/\ u.n+v.n<=9223372036854775807 by omega),aW (show-9223372036854775808<=u.n-v.n/\ u.n-v.n<=9223372036854775807 by omega),aW (show-9223372036854775808<=u.n*v.n/\ u.n*v.n<=9223372036854775807 by omega),hI.ret]
       refine aH ?_
       simp only[go_sem,(aEm _).ret,hB.ret,kA,bPs,if_false]
      ·rename_i hin;rw[bQ0]at hin;rw[hin]at hI
       refine aI aIl rfl rfl ?_
       simp only[go_sem,kK,aFq,d1,d2,aW (show-9223372036854775808<=u.n+v.n/\ u.n+v.n<=9223372036854775807 by omega),aW (show-9223372036854775808<=u.n-v.n/\ u.n-v.n<=9223372036854775807 by omega),aW (show-9223372036854775808<=u.n*v.n/\ u.n*v.n<=9223372036854775807 by omega),hI.ret,hF4.ret]
   ·have d2:decide (v.kind=1)=false:=D_f h2;have e:cJ w a left op u v=bE w a 2:=by unfold cJ;rw[if_neg h13,if_pos (.inr h2)]
    rw[e]
    refine aI aIl rfl rfl ?_
    simp only[go_sem,kK,aFq,d13,d1,d2,hF2.ret]
  ·have d1:decide (u.kind=1)=false:=D_f h1;have e:cJ w a left op u v=bE w a 2:=by unfold cJ;rw[if_neg h13,if_pos (.inl h1)]
   rw[e]
   refine aI aIl rfl rfl ?_
   simp only[go_sem,kK,aFq,d13,d1,hF2.ret]
def nP (w:aA)(ps:List Pat)(vs:List aD)(k:Nat):Option (List aD):=fB w (ps.take k) (vs.take k)
theorem aCb (w:aA): ∀(ps:List Pat) (vs:List aD) (q:Pat) (v:aD),ps.length=vs.length->fB w (ps++[q]) (vs++[v])=(match fB w ps vs with|none=>none|some l=>match fP w q v with|none=>none|some r=>some (l++r))
 |[],[],q,v,_=>by
  simp only[bQt,fB];cases fP w q v<;>simp
 |[],_::_,_,_,h=>by cases h
 |_::_,[],_,_,h=>by cases h
 |x::ps,y::vs,q,v,h=>by
  simp only[bR5,fB];rw[aCb w ps vs q v (by simpa using h)]
  cases fP w x y with
  |none=>rfl
  |some l=>
   cases fB w ps vs with
   |none=>rfl
   |some r=>
    cases fP w q v with
    |none=>rfl
    |some s=>simp[List.append_assoc]
variable {ps:List Pat}{vs:List aD}
theorem aGk : ∀{k:Nat},ps.length=vs.length->nP w ps vs k=none->fB w ps vs=none:=by
 intro k hl h;have key: ∀m,k<=m->nP w ps vs m=none:=by
  intro m
  induction m with
  |zero=>intro hk;have:k=0:=(by omega);rw[this]at h;exact h
  |succ m ih=>
   intro hk
   by_cases hm:k=m+1
   ·rw[<-hm];exact h
   ·have h1:=ih (by omega)
    by_cases hlt:m<ps.length
    ·unfold nP at h1⊢;rw[gZ hlt,gZ (show m<vs.length by omega),aCb _ _ _ _ _ (by simp;omega),h1]
    ·unfold nP at h1⊢;rw[bQa (by omega),bQa (by omega)]
     rw[bQa (by omega),bQa (by omega)]at h1
     exact h1
 have:=key (max k ps.length) (by omega)
 unfold nP at this;rw[bQa (by omega),bQa (by omega)]at this
 exact this
variable {k:Nat}
theorem aGl (h1:k<ps.length)(h2:k<vs.length):nP w ps vs (k+1)=(match nP w ps vs k with|none=>none|some l=>match fP w ps[k] vs[k]with|none=>none|some r=>some (l++r)):=by
 unfold nP;rw[gZ h1,gZ h2,aCb _ _ _ _ _ (by simp;omega)]
mutual
def pS :Pat->Nat
 | .mk _ _ _ ps=>1+iH ps
def iH :List Pat->Nat
 |[]=>0
 |q::ps=>pS q+iH ps
end
theorem uD (q:Pat):pS q=1+iH q.parts:=by cases q;rw[pS];rfl
theorem aCc : ∀(l:List Pat),l.length<=iH l
 |[]=>by simp[iH]
 |q::l=>by
  have:=aCc l;have:=uD q;simp only[bPy,iH];omega
theorem xC : ∀{l:List Pat} {q:Pat},q∈l->pS q<=iH l
 |x::l,q,h=>by
  rw[iH];rcases bQm.1 h with rfl|h
  ·omega
  ·have:=xC h;omega
theorem aAl : ∀(l:List Pat) (k:Nat),iH (l.take k)<=iH l
 |[],k=>by simp[iH]
 |q::l,0=>by simp[iH]
 |q::l,k+1=>by
  have:=aAl l k;simp only[bP0,iH];omega
mutual
theorem aDb {w:aA}: ∀(q:Pat) {v:aD} {l:List aD},fP w q v=some l->l.length<=pS q
 | .mk f n t ps,v,l,hm=>by
  unfold fP at hm;rw[pS]
  split at hm
  ·cases hm;simp
  split at hm
  ·cases hm;simp
  split at hm
  ·split at hm
   ·cases hm;simp
   ·cases hm
  split at hm
  ·split at hm
   ·cases hm;simp
   ·cases hm
  split at hm
  ·split at hm
   ·cases hm;simp
   ·cases hm
  split at hm
  ·have:=aAm ps hm;omega
  ·cases hm
theorem aAm {w:aA}: ∀(ps:List Pat) {vs l:List aD},fB w ps vs=some l->l.length<=iH ps
 |[],vs,l,hm=>by
  simp only[fB,bPo]at hm;subst hm;simp
 |q::ps,[],l,hm=>by
  simp only[fB,bPo]at hm;subst hm;simp
 |q::ps,v::vs,l,hm=>by
  simp only[fB]at hm
  split at hm
  ·cases hm
  rename_i l1 h1
  split at hm
  ·cases hm
  rename_i l2 h2;simp only[bPo]at hm;subst hm;have:=aDb q h1;have:=aAm ps h2;simp only[bP9,iH];omega
end
theorem aT6 : ∀(q:Pat) (n:Int),-1<=n->0<=qQ q n->qQ q n+pS q=n:=by
 intro q
 induction q using Pat.ind with
 |h p ih=>
  intro n hn h;rw[aLa]at h⊢;rw[uD];have key: ∀(l:List Pat),(∀q∈l,q∈p.parts)-> ∀m:Int,-1<=m->0<=kH l m->kH l m+iH l=m:=by
   intro l
   induction l with
   |nil=>intro _ m _ _;simp[kH,iH]
   |cons q l ihl=>
    intro hl m hm h0;rw[kH]at h0⊢
    by_cases h1:0<=m
    ·rw[if_pos h1]at h0⊢;have hw:=aLb q m (by omega)
     have h2:0<=qQ q m:=by
      by_cases h3:0<=qQ q m
      ·exact h3
      ·rw[aEi (by omega)]at h0;exact absurd h0 h3
     have e1:=ih q (hl q (by simp)) m (by omega) h2
     have e2:=ihl (fun x hx=>hl x (by simp[hx])) (qQ q m) (by omega) h0
     rw[iH];omega
    ·rw[if_neg h1]at h0;omega
  by_cases h1:n<1
  ·rw[if_pos h1]at h;omega
  ·rw[if_neg h1]at h⊢;have:=key p.parts (fun _ h=>h) (n-1) (by omega) h
   omega
def aQ0 (w:aA)(q:Pat)(v:aD):Val:= .tup [.fz (((fP w q v).getD []).map aD.enc),.bool (fP w q v).isSome]
theorem aOx (w:aA)(q:Pat)(v:aD):fP w q v=if q.form=1 then some []else if q.form=2 then some [v]else if q.form=3 then(if v=nG q.n then some []else none)else if q.form=4 then(if v=nM (decide (q.n=1))then some []else none)
  else if q.form=5 then(if v=bO then some []else none)else if cK w v 1=true/\ (w.obj v.n).n=q.n/\ (w.obj v.n).vals.length=q.parts.length then fB w q.parts (w.obj v.n).vals else none:=by
 cases q;rw[fP];rfl
theorem aDc {α:Type}(c:Prop)[Decidable c]:((if c then some ([]:List α)else none).getD []=[])/\ (if c then some ([]:List α)else none).isSome=decide c:=by
 by_cases h:c<;>simp[h]
theorem bCj (h:cM p w0 S w): ∀(q:Pat),pS q<=1000-> ∀(v:aD),VOk p S w v->PC L 229 [.agg w.cs,.agg [.i q.form,.i q.n,.str q.text,.fz (q.parts.map Pat.enc)],.agg [.i v.kind,.i v.n]] (aQ0 w q v):=by
 intro q
 induction q using Pat.ind with
 |h q ih=>
 intro hq v hv;have hO:=pR w v 1 (fZ hv);unfold aQ0;rw[aOx]
 by_cases h1:q.form=1
 ·rw[if_pos h1]
  refine aI aFr rfl rfl ?_
  simp only[go_sem,kK,aDq,h1,bQg,bRm]
 rw[if_neg h1];have d1:decide (q.form=1)=false:=D_f h1
 by_cases h2:q.form=2
 ·rw[if_pos h2]
  refine aI aFr rfl rfl ?_
  simp only[go_sem,kK,aDq,h2,bQg,bRm]
 rw[if_neg h2];have d2:decide (q.form=2)=false:=D_f h2
 by_cases h3:q.form=3
 ·rw[if_pos h3]
  refine aI aFr rfl rfl ?_
  simp only[go_sem,kK,aDq,h3]
  refine aH ?_
  simp only[go_sem,(aEm _).ret,vZ,aDc,kA,bPs,if_false]
 rw[if_neg h3];have d3:decide (q.form=3)=false:=D_f h3
 by_cases h4:q.form=4
 ·rw[if_pos h4]
  refine aI aFr rfl rfl ?_
  simp only[go_sem,kK,aDq,h4]
  refine aH ?_
  simp only[go_sem,(aJo _).ret,vZ,aDc,kA,bPs,if_false]
 rw[if_neg h4];have d4:decide (q.form=4)=false:=D_f h4
 by_cases h5:q.form=5
 ·rw[if_pos h5]
  refine aI aFr rfl rfl ?_
  simp only[go_sem,kK,aDq,h5]
  refine aH ?_
  simp only[go_sem,nN.ret,vZ,aDc,kA,bPs,if_false]
 rw[if_neg h5];have d5:decide (q.form=5)=false:=D_f h5
 by_cases hi:cK w v 1=true
 ·rw[vX,if_pos hi,hi]at hO
  by_cases hn:(w.obj v.n).n=q.n
  ·have dn:decide ((w.obj v.n).n=q.n)=true:=D_t hn
   by_cases hl:(w.obj v.n).vals.length=q.parts.length
   ·have dl:decide ((w.obj v.n).vals.length=q.parts.length)=true:=D_t hl;rw[if_pos ⟨hi,hn,hl⟩];obtain⟨_,a2,_,_⟩:=fI h hv hi
    refine aI aFr rfl rfl ?_
    simp only[go_sem,kK,aDq,d1,d2,d3,d4,d5,hO.ret,dn,dl]
    refine bQ q.parts.length (fun k st=> ∃fr en cnt vO l,st=⟨fr,en,cnt⟩/\ fr 3= .ptr ⟨0,3,0⟩ 0/\ en ⟨0,3,0⟩=some (.box [.fz (w.objs.map aQ.enc),.fz (w.tasks.map (.int .i64)),.fz (w.outs.map bJ.enc),.fz (w.ins.map (.int .i64)),.i w.used] false)/\ fr 4= .ptr ⟨0,4,0⟩ 0/\ en ⟨0,4,0⟩=some (.box [.i q.form,.i q.n,.str q.text,.fz (q.parts.map Pat.enc)] false)/\ fr 8= .ptr ⟨0,8,0⟩ 0/\ en ⟨0,8,0⟩=some (.box [.i (w.obj v.n).form,.i (w.obj v.n).n,.fz ((w.obj v.n).vals.map aD.enc),.fz ((w.obj v.n).frames.map aB.enc)] false)/\ fr 10=vO/\ fr 11= .i k/\
     nP w q.parts (w.obj v.n).vals k=some l/\ cP en vO 2 (l.map aD.enc) [92]) 0 (bPx _) ⟨_,_,_,.cl [],[],rfl,by simp only[go_sem],by simp only[go_sem],by simp only[go_sem],by simp only[go_sem],by simp only[go_sem],by simp only[go_sem],by simp only[go_sem],by simp only[go_sem],by simp[nP,fB],cP.nil _ _⟩ ?_
    rintro k st hk ⟨fr,en,cnt,vO,l,rfl,k3,e3,k4,e4,k8,e8,k10,k11,hm,hv'⟩
    simp only[go_sem,kK,k4,e4,k11]
    refine aG (fun hq2=>?_) (fun hq2=>?_)
    ·have h':k<q.parts.length:=D_o hq2;have h'':k<(w.obj v.n).vals.length:=by omega
     have hM:=ih q.parts[k] (bPz h') (by
      have:=xC (bPz h');rw[uD]at hq;omega) (w.obj v.n).vals[k] (a2.vals (bPz h''))
     have hst:=aGl (w:=w) h' h'';rw[hm]at hst;unfold aQ0 at hM;cases hx:fP w q.parts[k] (w.obj v.n).vals[k]with
     |none=>
      rw[hx]at hM hst;have hnone:=aGk hl.symm hst;rw[hnone];simp only[go_sem,kK,k3,e3,k4,e4,k8,e8,k11,h',h'',hM.ret,bS2,bRx,bP1]
     |some r=>
      rw[hx]at hM hst;have hr:=aDb _ hx;have hr2:=xC (bPz h');have hl3:=aAm _ hm;have hl4:=aAl q.parts k;have hlp:=aCc q.parts;rw[uD]at hq;simp only[go_sem,kK,k3,e3,k4,e4,k8,e8,k10,k11,h',h'',hM.ret,bQg,bRm]
      refine kQ (D:=[92]) (xs:=l.map aD.enc) (ys:=r.map aD.enc) (rs:=[]) ?_ ?_ ?_ ?_ ?_
      ·simp only[go_sem];exact hv'
      ·simp only[go_sem]
      ·exact tP r
      ·simp only[bPr];omega
      ·intro v' en' cnt' hown hen hcnt;have q3:en' ⟨0,3,0⟩=some (.box [.fz (w.objs.map aQ.enc),.fz (w.tasks.map (.int .i64)),.fz (w.outs.map bJ.enc),.fz (w.ins.map (.int .i64)),.i w.used] false):=by rw[hen 0 3 0 (.inr ⟨by decide,by simp⟩)];simp only[go_sem,e3]
       have q4:en' ⟨0,4,0⟩=some (.box [.i q.form,.i q.n,.str q.text,.fz (q.parts.map Pat.enc)] false):=by rw[hen 0 4 0 (.inr ⟨by decide,by simp⟩)];simp only[go_sem,e4]
       have q8:en' ⟨0,8,0⟩=some (.box [.i (w.obj v.n).form,.i (w.obj v.n).n,.fz ((w.obj v.n).vals.map aD.enc),.fz ((w.obj v.n).frames.map aB.enc)] false):=by rw[hen 0 8 0 (.inr ⟨by decide,by simp⟩)];simp only[go_sem,e8]
       simp only[go_sem,k11]
       refine⟨_,_,_,v',l++r,rfl,?_⟩
       simp only[go_sem,k3,q3,k4,q4,k8,q8,aT h' (show Few q.parts.length by unfold Few;omega)]
       refine⟨hst,?_⟩
       rw[bQs];exact hown.sub (by simp)
    ·have:k=q.parts.length:=by simp at hq2;omega
     subst this;have hfull:fB w q.parts (w.obj v.n).vals=some l:=by
      unfold nP at hm;rw[bQ6,<-hl,bQ6]at hm;exact hm
     obtain⟨r1,ks,s1,_,s2,_⟩:=hv'.snap 6;rw[hfull];simp only[go_sem,k10,s1,s2,bQg,bRm]
   ·have dl:decide ((w.obj v.n).vals.length=q.parts.length)=false:=D_f hl;rw[if_neg (fun h=>hl h.2.2)]
    refine aI aFr rfl rfl ?_
    simp only[go_sem,kK,aDq,d1,d2,d3,d4,d5,hO.ret,dn,dl,bS2,bRx]
  ·have dn:decide ((w.obj v.n).n=q.n)=false:=D_f hn;rw[if_neg (fun h=>hn h.2.1)]
   refine aI aFr rfl rfl ?_
   simp only[go_sem,kK,aDq,d1,d2,d3,d4,d5,hO.ret,dn,bS2,bRx]
 ·rw[vX,if_neg hi]at hO;rw[if_neg (fun h=>hi h.1)]
  rw[bQ0]at hi;rw[hi]at hO
  refine aI aFr rfl rfl ?_
  simp only[go_sem,kK,aDq,d1,d2,d3,d4,d5,hO.ret,bS2,bRx]
theorem aEp {n:Nat}:cU n []=true:=(rfl)
theorem aQ1 {kids:List Int}{env:List aD}{l:List Pat}(hk:k<l.length):kJ w a left kids env u k (l.drop k)=(match fP w l[k] u with|some r=>gW w a left (kids.getD (1+k) 0) (env++r)|none=>kJ w a left kids env u (k+1) (l.drop (k+1))):=by
 rw[bQu hk,kJ];cases fP w l[k] u<;>rfl
theorem aWa (h:cM p w0 S w)(ha:inR a 0 ((w.tasks.length:Int)-1)=true)(hl:LOk p S w left)(n:aM)(env:List aD)(hu:VOk p S w u)(he:env.length<=30)(hkl:1+n.pats.length<=n.kids.length)(hpc: ∀q∈n.pats,pS q<=1000)(hfew:n.kids.length<=1000):
  PC L 184 [.agg w.cs,.i a,.fz (left.map aB.enc),.agg [.i n.op,.i n.n,.fz (n.kids.map (.int .i64)),.fz (n.pats.map Pat.enc)],.fz (env.map aD.enc),.agg [.i u.kind,.i u.n]] (.agg [.fz ((kR w a left n env u).w.objs.map aQ.enc),.fz ((kR w a left n env u).w.tasks.map (.int .i64)),.fz ((kR w a left n env u).w.outs.map bJ.enc),.fz ((kR w a left n env u).w.ins.map (.int .i64)),.i (kR w a left n env u).w.used,.i (kR w a left n env u).what,.i (kR w a left n env u).e.task,.i (kR w a left n env u).e.act,.i (kR w a left n env u).e.n,.i (kR w a left n env u).e.v.kind,.i (kR w a left n env u).e.v.n]):=by
 have hfit:=vY h ha;have hF:=gG w a 3 hfit;have hlen:=hl.len;have hL:=at_ func184
 conv at hL=>rhs;reduce
 refine aI hL rfl rfl ?_
 simp only[go_sem,kK]
 refine bQ n.pats.length (fun k st=> ∃fr en cnt,st=⟨fr,en,cnt⟩/\ fr 1= .i a/\ fr 2= .fz (left.map aB.enc)/\ fr 4= .fz (env.map aD.enc)/\ fr 6= .ptr ⟨0,6,0⟩ 0/\ en ⟨0,6,0⟩=some (.box [.fz (w.objs.map aQ.enc),.fz (w.tasks.map (.int .i64)),.fz (w.outs.map bJ.enc),.fz (w.ins.map (.int .i64)),.i w.used] false)/\ fr 9= .ptr ⟨0,9,0⟩ 0/\ en ⟨0,9,0⟩=some (.box [.i n.op,.i n.n,.fz (n.kids.map (.int .i64)),.fz (n.pats.map Pat.enc)] false)/\ fr 11= .ptr ⟨0,11,0⟩ 0/\ en ⟨0,11,0⟩=some (.box [.i u.kind,.i u.n] false)/\ fr 12= .ptr ⟨0,12,0⟩ 0/\ en ⟨0,12,0⟩=some (.box [.cl [],.cl [],.cl [],.cl [],.i 0,.i 0,.i 0,.i 0,.i 0,.i 0,.i 0] false)/\ fr 13= .i k/\
  kJ w a left n.kids env u k (n.pats.drop k)=kR w a left n env u) 0 (bPx _) ⟨_,_,_,rfl,by simp only[go_sem],by simp only[go_sem],by simp only[go_sem],by simp only[go_sem],by simp only[go_sem],by simp only[go_sem],by simp only[go_sem],by simp only[go_sem],by simp only[go_sem],by simp only[go_sem],by simp only[go_sem],by simp only[go_sem],by rw[bRy];rfl⟩ ?_
 rintro k st hk ⟨fr,en,cnt,rfl,k1,k2,k4,k6,e6,k9,e9,k11,e11,k12,e12,k13,hD⟩
 simp only[go_sem,kK,k9,e9,k13]
 refine aG (fun hq2=>?_) (fun hq2=>?_)
 ·have h':k<n.pats.length:=D_o hq2;have hM:=bCj h n.pats[k] (hpc _ (bPz h')) u hu;rw[aQ1 h']at hD;unfold aQ0 at hM;have hw1:IntKind.i64.wrap (1+(k:Int))=((1+k:Nat):Int):=by rw[aW (by omega)];omega
  have hki:1+k<n.kids.length:=by omega
  have hkg:n.kids.getD (1+k) 0=n.kids[1+k]:=by simp[bPu,hki]
  cases hx:fP w n.pats[k] u with
  |none=>
   rw[hx]at hM hD;simp only[go_sem,kK,k6,e6,k9,e9,k11,e11,k13,h',hM.ret,bS2,bRx]
   refine⟨_,_,_,rfl,?_⟩
   simp only[go_sem,k1,k2,k4,k6,e6,k9,e9,k11,e11,k12,e12,aT h' (show Few n.pats.length by unfold Few;omega)]
   exact hD
  |some r=>
   rw[hx]at hM hD;have hr:=aDb _ hx;have hpk:=hpc _ (bPz h');have hN:=aC8 w a left n.kids[1+k] (env++r) hfit (by omega)
   rw[bQs]at hN;rw[<-hD];have hl1:env.length<=16777216:=by omega
   have hl2:r.length<=16777216:=by omega
   have hl3:env.length+r.length<=16777216:=by omega
   simp only[go_sem,kK,k6,e6,k9,e9,k11,e11,k13,h',hM.ret,bQg,bRm]
   refine aH ?_
   cases h0:env.isEmpty<;>cases h1:r.isEmpty
   all_goals
    try(have h0':env=[]:=(by simpa using h0);subst h0')
    try(have h1':r=[]:=(by simpa using h1);subst h1')
    try simp only[bP1,bQt,bQr]at hN
    simp only[go_sem,k1,k2,k4,k6,e6,k9,e9,k12,e12,k13,hw1,hki,hkg,bM,dY,nB,gX,tE,kL,iR,h0,h1,hl1,hl2,hl3,tP,aEp,bPr,bP9,bP7,bQ9,bQh,bQr,bP1,bQt,bPq,bQa,hN.ret,kA,bPs,if_false]
 ·have:k=n.pats.length:=by simp at hq2;omega
  subst this;rw[bRf,kJ]at hD;rw[<-hD];simp only[go_sem,k1,k6,e6,k12,e12,hF.ret]
variable {kl kt kr:Key}{ko:Option Key}{back:List aD}{bv:Val}
section
structure Acc (en:En) (cnt:Nat->Nat->Nat) (kl:Key) (ko:Option Key) (xs:List aD):Prop where
 ok:Old kl cnt
 v:(ko=none/\ xs=[]/\ en kl=some (.box [.cl []] false)) \/ ∃t g b,ko=some ⟨0,t,g⟩/\ g<cnt 0 t/\ en ⟨0,t,g⟩=some (.blk 2 (xs.map aD.enc) b)/\ en kl=some (.box [.bl ⟨0,t,g⟩ 0 xs.length] false)
theorem Acc.to {xs:List aD}(h:Acc en cnt kl ko xs)(hk: ∀x,Old x cnt->x=kl \/some x=ko->en' x=en x)(hu: ∀t,cnt 0 t<=cnt' 0 t):Acc en' cnt' kl ko xs:=by
 refine⟨h.ok.up hu,h.v.imp (fun⟨a,b,c⟩=>⟨a,b,by rw[hk kl h.ok (.inl rfl)];exact c⟩) fun⟨t,g,b,c1,c2,c3,c4⟩=>⟨t,g,b,c1,bQf c2 (hu t),?_,?_⟩⟩
 ·rw[hk ⟨0,t,g⟩ ⟨rfl,c2⟩ (.inr c1.symm)];exact c3
 ·rw[hk kl h.ok (.inl rfl)];exact c4
theorem Acc.ne (h:TS kt kr en cnt p w a left f n back bv){xs:List aD}(hA:Acc en cnt kl ko xs):(kt≠kl/\ kr≠kl)/\ some kt≠ko/\ some kr≠ko:=by
 have ht:=h.t;have hr:=h.r;rcases hA.v with⟨a,b,c⟩|⟨t,g,b,c1,c2,c3,c4⟩
 ·subst a
  refine⟨⟨?_,?_⟩,by simp,by simp⟩
  ·rintro rfl;rw[ht]at c;simp at c
  ·rintro rfl;rw[hr]at c;simp at c
 ·subst c1
  refine⟨⟨?_,?_⟩,fun e=>?_,fun e=>?_⟩
  ·rintro rfl;rw[ht]at c4;simp at c4
  ·rintro rfl;rw[hr]at c4;simp at c4
  ·rw[bPo]at e;rw[<-e,ht]at c3;cases c3
  ·rw[bPo]at e;rw[<-e,hr]at c3;cases c3
structure bHz (kt kr:Key) (en:En) (cnt:Nat->Nat->Nat) (p:aF) (w:aA) (a:Int) (left:List aB) (f:aB) (n:aM) (back:List aD) (kl:Key) (ko:Option Key) (xs:List aD) (o:Option (List aD)) (en':En) (cnt':Nat->Nat->Nat):Prop where
 ts: ∃bv',TS kt kr en' cnt' p w a left f n back bv'
 acc: ∀l,o=some l-> ∃ko',Acc en' cnt' kl ko' (xs++l)/\ (ko'=ko \/ ∀x,ko'=some x-> ¬Old x cnt)
 old: ∀x,Old x cnt->x≠kt->x≠kr->x≠kl->some x≠ko->en' x=en x
 up: ∀t,cnt 0 t<=cnt' 0 t
theorem aGm (h:TS kt kr en cnt p w a left f n back bv){xs:List aD}(hA:Acc en cnt kl ko xs){o:Option (List aD)}(ho:o=none \/o=some [])(hk: ∀x,Old x cnt->en' x=en x)(hu: ∀t,cnt 0 t<=cnt' 0 t):
  bHz kt kr en cnt p w a left f n back kl ko xs o en' cnt':=by
 refine⟨(h.stay hk hu).1,fun l hl=>?_,fun x hx _ _ _ _=>hk x hx,hu⟩
 rcases ho with rfl|rfl
 ·cases hl
 ·cases hl
  refine⟨ko,?_,.inl rfl⟩
  rw[bQr];exact hA.to (fun x hx _=>hk x hx) hu
theorem aMd : ∀(l:List Pat) {k:Nat} (h:k<l.length),iH (l.take k)+pS l[k]<=iH l
 |q::l,0,_=>by simp[iH]
 |q::l,k+1,h=>by
  have:=aMd l (k:=k) (by simpa using h)
  simp only[bP0,iH,List.getElem_cons_succ];omega
theorem aT7 (hF:cM p w0 S w)(cons:List cS): ∀(q:Pat),sJ cons q=true->pS q<=1000-> ∀(v:aD),VOk p S w v-> ∀{en:En} {cnt:Nat->Nat->Nat} {bv:Val} {kl:Key} {ko:Option Key} {xs:List aD} (h:TS kt kr en cnt p w a left f n back bv) (hA:Acc en cnt kl ko xs),xs.length+pS q<=100000->
  WIn L (.fn 332 [] []) [.ptr kt 0,.agg [.i q.form,.i q.n,.str q.text,.fz (q.parts.map Pat.enc)],.agg [.i v.kind,.i v.n],.ptr kl 0] en cnt fun r en' cnt'=>r= .bool (fP w q v).isSome/\ bHz kt kr en cnt p w a left f n back kl ko xs (fP w q v) en' cnt':=by
 intro q
 induction q using Pat.ind with
 |h q ih=>
 intro hok hq v hv en cnt bv kl ko xs h hA hlen;have s1:=h.okt.set;have s2:=h.okr.set;have n1:=h.okt.new;have n2:=h.okr.new;have hn:=h.ne;have ht:=h.t;have hr:=h.r;have m1:=h.okt.eqF;have m2:=h.okr.eqF;have o1:=h.okt.eqF';have o2:=h.okr.eqF';have x1: ∀(en:En) (e:Option Ent),En.set en kt e kr=en kr:=fun _ _=>aK hn;have x2: ∀(en:En) (e:Option Ent),En.set en kr e kt=en kt:=fun _ _=>aK hn.symm
 obtain⟨⟨nl1,nl2⟩,no1,no2⟩:=hA.ne h;have l1:=hA.ok.set;have l2:=hA.ok.new;have l3:=hA.ok.eqF;have l4:=hA.ok.eqF';rw[aOx];rw[aK9]at hok;simp only[bPp]at hok;have hhead:=hok.1
 by_cases h1:q.form=1
 ·rw[if_pos h1]
  refine bD aOe rfl rfl ?_
  simp only[go_sem,kK,aIm,h1];exact⟨rfl,aGm h hA (.inr rfl) (fun k hk=>by simp only[hk.set]) (by(repeat refine upS ?_ (by omega));exact aO _)⟩
 rw[if_neg h1];have d1:decide (q.form=1)=false:=D_f h1
 by_cases h2:q.form=2
 ·rw[if_pos h2]
  refine bD aOe rfl rfl ?_
  have hu: ∀t,cnt 0 t<=aC (aC (aC cnt 0 5 (cnt 0 5+1)) 0 6 (cnt 0 6+1)) 0 23 (cnt 0 23+1) 0 t:=(by(repeat refine upS ?_ (by omega));exact aO _)
  rcases hA.v with⟨v1,v2,v3⟩|⟨t,g,b,v1,v2,v3,v4⟩
  ·subst v1 v2;simp only[go_sem,kK,aIm,h2]
   refine aH ?_
   simp only[go_sem,kB,l1,v3,bM,dY,vS,aC5,aEp,sP,bP7,bQh,bQt,kA,kF]
   refine⟨rfl,⟨⟨bv,h.to (by simp only[aK nl1,s1]) (by simp only[aK nl2,s2]) hu⟩,fun l hl=>?_,fun x hx _ _ x1 _=>by simp only[aK x1,hx.set],hu⟩⟩
   simp only[bPo]at hl;subst hl
   refine⟨some ⟨0,23,cnt 0 23⟩,⟨hA.ok.up hu,.inr ⟨23,cnt 0 23,false,rfl,by simp[aC],?_,cG⟩⟩,.inr fun x hx ho=>?_⟩
   ·rw[l2,cG];rfl
   ·simp only[bPo]at hx;subst hx;exact bSf _ ho.2
  ·subst v1;have hob:Old ⟨0,t,g⟩ cnt:=⟨rfl,v2⟩;have b1:=hob.set;have b0:=hob.new;have bF:=hob.eqF;have bF':=hob.eqF';have bl:(⟨0,t,g⟩:Key)≠kl:=by rintro rfl;rw[v3]at v4;cases v4
   have b2: ∀(en:En) (e:Option Ent),En.set en kl e ⟨0,t,g⟩=en ⟨0,t,g⟩:=fun _ _=>aK bl
   have b4: ∀(en:En) (e:Option Ent),En.set en ⟨0,t,g⟩ e kl=en kl:=fun _ _=>aK bl.symm
   have hlm:xs.length+1<=16777216:=by have:=uD q;omega
   simp only[go_sem,kK,aIm,h2]
   refine aH ?_
   simp only[go_sem,kB,l1,b1,b4,v3,v4,bM,dY,tE,kL,aC5,hlm,bPr,bPy,bP7,kA,kF];have c1: ∀(en:En) (e:Option Ent),En.set en ⟨0,t,g⟩ e kt=en kt:=fun _ _=>aK fun e=>no1 (by rw[e])
   have c2: ∀(en:En) (e:Option Ent),En.set en ⟨0,t,g⟩ e kr=en kr:=fun _ _=>aK fun e=>no2 (by rw[e])
   refine⟨rfl,⟨⟨bv,h.to (by simp only[aK nl1,s1,c1]) (by simp only[aK nl2,s2,c2]) hu⟩,fun l hl=>?_,fun x hx _ _ x1 x2=>by
    have x3:x≠⟨0,t,g⟩:=fun e=>x2 (by rw[e])
    simp only[aK x1,hx.set,aK x3],hu⟩⟩
   simp only[bPo]at hl;subst hl
   refine⟨some ⟨0,23,cnt 0 23⟩,⟨hA.ok.up hu,.inr ⟨23,cnt 0 23,b,rfl,by simp[aC],?_,?_⟩⟩,.inr fun x hx ho=>?_⟩
   ·rw[l2,cG];simp[aD.enc]
   ·rw[cG];simp
   ·simp only[bPo]at hx;subst hx;exact bSf _ ho.2
 rw[if_neg h2];have d2:decide (q.form=2)=false:=D_f h2
 by_cases h3:q.form=3
 ·rw[if_pos h3]
  refine bD aOe rfl rfl ?_
  simp only[go_sem,kK,aIm,h3]
  refine aH ?_
  simp only[go_sem,(uB _).ret,vZ,kA,kF]
  refine⟨by rw[(aDc _).2],aGm h hA ?_ (fun k hk=>by simp only[hk.set]) (by(repeat refine upS ?_ (by omega));exact aO _)⟩
  split
  ·exact .inr rfl
  ·exact .inl rfl
 rw[if_neg h3];have d3:decide (q.form=3)=false:=D_f h3
 by_cases h4:q.form=4
 ·rw[if_pos h4]
  refine bD aOe rfl rfl ?_
  simp only[go_sem,kK,aIm,h4]
  refine aH ?_
  simp only[go_sem,(aF8 _).ret,vZ,kA,kF]
  refine⟨by rw[(aDc _).2],aGm h hA ?_ (fun k hk=>by simp only[hk.set]) (by(repeat refine upS ?_ (by omega));exact aO _)⟩
  split
  ·exact .inr rfl
  ·exact .inl rfl
 rw[if_neg h4];have d4:decide (q.form=4)=false:=D_f h4
 by_cases h5:q.form=5
 ·rw[if_pos h5]
  refine bD aOe rfl rfl ?_
  simp only[go_sem,kK,aIm,h5]
  refine aH ?_
  simp only[go_sem,kU.ret,vZ,kA,kF]
  refine⟨by rw[(aDc _).2],aGm h hA ?_ (fun k hk=>by simp only[hk.set]) (by(repeat refine upS ?_ (by omega));exact aO _)⟩
  split
  ·exact .inr rfl
  ·exact .inl rfl
 rw[if_neg h5];have d5:decide (q.form=5)=false:=D_f h5;have h6:q.form=6:=by
  simp only[tM,yR,bPp]at hhead
  by_cases h6:q.form=6
  ·exact h6
  ·simp[h1,h2,h3,h4,h5,h6]at hhead
 obtain⟨⟨bv1,t1⟩,k1⟩:=h.stay (cnt':=aC (aC cnt 0 5 (cnt 0 5+1)) 0 6 (cnt 0 6+1)) (en':=(en.set ⟨0,5,cnt 0 5⟩ (some (.box [.i q.form,.i q.n,.str q.text,.fz (q.parts.map Pat.enc)] false))).set ⟨0,6,cnt 0 6⟩ (some (.box [.i v.kind,.i v.n] false))) (fun k hk=>by simp only[hk.set]) (by(repeat refine upS ?_ (by omega));exact aO _)
 have d6:decide (q.form=6)=true:=D_t h6
 refine bD aOe rfl rfl ?_
 simp only[go_sem,kK,aIm,d2,d3,d4,d5,d6]
 refine(rW t1 (fZ hv) 1).mono ?_
 rintro r e1 c1 ⟨⟨x,rfl,hx⟩,⟨bv2,t2⟩,k2⟩
 obtain⟨p5,q5⟩:=k2.loc (d:=5) (g:=cnt 0 5) (by simp[aC]) h.okt.ne.symm h.okr.ne.symm
 obtain⟨p6,q6⟩:=k2.loc (d:=6) (g:=cnt 0 6) (by simp[aC]) h.okt.ne.symm h.okr.ne.symm
 simp only[go_sem]at p5 p6;have fall: ∀{en':En} {cnt':Nat->Nat->Nat},(∀x,Old x cnt->Old x c1->en' x=e1 x)->(∀t,c1 0 t<=cnt' 0 t)->bHz kt kr en cnt p w a left f n back kl ko xs none en' cnt':=by
  intro en' cnt' hk hu;obtain⟨t3,k3⟩:=h.fin t2 (k1.trans k2) hk hu;exact⟨t3,(fun l hl=>by cases hl),(fun x hx y1 y2 _ _=>k3.old x hx y1 y2),k3.up⟩
 rcases hx with⟨rfl,hI⟩|⟨rfl,hI⟩
 ·rw[if_neg (fun hh=>by rw[hI]at hh;cases hh.1)]
  simp only[go_sem,kK,hI];exact fall (fun x hx hy=>by simp only[hy.set]) (by(repeat refine upS ?_ (by omega));exact aO _)
 by_cases hn2:(w.obj v.n).n=q.n
 case neg=>
  have dn:decide ((w.obj v.n).n=q.n)=false:=D_f hn2;rw[if_neg (fun hh=>hn2 hh.2.1)]
  simp only[go_sem,kK,hI,dn,p5,q5.set];exact fall (fun x hx hy=>by simp only[hy.set]) (by(repeat refine upS ?_ (by omega));exact aO _)
 have dn:decide ((w.obj v.n).n=q.n)=true:=D_t hn2
 by_cases hl:(w.obj v.n).vals.length=q.parts.length
 case neg=>
  have dl:decide ((w.obj v.n).vals.length=q.parts.length)=false:=D_f hl;rw[if_neg (fun hh=>hl hh.2.2)]
  simp only[go_sem,kK,hI,dn,dl,p5,q5.set];exact fall (fun x hx hy=>by simp only[hy.set]) (by(repeat refine upS ?_ (by omega));exact aO _)
 have dl:decide ((w.obj v.n).vals.length=q.parts.length)=true:=D_t hl;rw[if_pos ⟨hI,hn2,hl⟩];obtain⟨_,a2,_,_⟩:=fI hF hv hI;simp only[go_sem,kK,hI,dn,dl,p5,q5.set];have u1: ∀t,cnt 0 t<=c1 0 t:=fun t=>bP2 (k1.up t) (k2.up t)
 have e0: ∀x,Old x cnt->x≠kt->x≠kr->e1 x=en x:=fun x hx y1 y2=>(k1.trans k2).old x hx y1 y2
 have hA1:Acc e1 c1 kl ko xs:=hA.to (fun x hx hy=>e0 x hx (fun e=>by rcases hy with hy|hy;exact nl1 (e▸hy);exact no1 (e▸hy)) (fun e=>by rcases hy with hy|hy;exact nl2 (e▸hy);exact no2 (e▸hy))) u1
 refine bQ q.parts.length (fun k st=> ∃fr en2 cnt2 ko2 l,st=⟨fr,en2,cnt2⟩/\ fr 0= .ptr kt 0/\ fr 3= .ptr kl 0/\ fr 9= .ptr ⟨0,9,c1 0 9⟩ 0/\ en2 ⟨0,9,c1 0 9⟩=some (.box [.i (w.obj v.n).form,.i (w.obj v.n).n,.fz ((w.obj v.n).vals.map aD.enc),.fz ((w.obj v.n).frames.map aB.enc)] false)/\ fr 72= .fz (q.parts.map Pat.enc)/\ fr 73= .i q.parts.length/\ fr 74= .i k/\
  nP w q.parts (w.obj v.n).vals k=some l/\ (∃bv2,TS kt kr en2 cnt2 p w a left f n back bv2)/\ Acc en2 cnt2 kl ko2 (xs++l)/\ (ko2=ko \/ ∀x,ko2=some x-> ¬Old x cnt)/\ (∀x,Old x cnt->x≠kt->x≠kr->x≠kl->some x≠ko->en2 x=en x)/\ (∀t,cnt 0 t<=cnt2 0 t)/\ c1 0 9<cnt2 0 9) 0 (bPx _)
  ⟨_,_,_,ko,[],rfl,by simp only[go_sem],by simp only[go_sem],by simp only[go_sem],by simp only[go_sem],by simp only[go_sem],by simp only[go_sem],by simp only[go_sem],by simp[nP,fB],(t2.stay (fun k hk=>by simp only[hk.set]) (by(repeat refine upS ?_ (by omega));exact aO _)).1,by rw[bQr];exact hA1.to (fun x hx _=>by simp only[hx.set]) (by(repeat refine upS ?_ (by omega));exact aO _),.inl rfl,fun x hx y1 y2 _ _=>by simp only[(hx.up u1).set];exact e0 x hx y1 y2,fun t=>bP2 (u1 t) (((by(repeat refine upS ?_ (by omega));exact aO _): ∀t,c1 0 t<=aC c1 0 9 (c1 0 9+1) 0 t) t),by simp[aC]⟩ ?_
 rintro k st hk ⟨fr,en2,cnt2,ko2,l,rfl,k0,k3,k9,e9,k72,k73,k74,hm,⟨bv3,t3⟩,hA3,hko,hold,hup,h9⟩
 have q9:Old ⟨0,9,c1 0 9⟩ cnt2:=⟨rfl,h9⟩;have hlp:=aCc q.parts;have hl3:=aAm _ hm;have hl4:=aAl q.parts k;rw[uD]at hq hlen;simp only[go_sem,kK,k73,k74]
 refine aG (fun hq2=>?_) (fun hq2=>?_)
 ·have h':k<q.parts.length:=D_o hq2;have h'':k<(w.obj v.n).vals.length:=by omega
  have hr2:=xC (bPz h');have hr3:=aMd q.parts h';have hst:=aGl (w:=w) h' h'';rw[hm]at hst;simp only[go_sem,k0,k3,k9,e9,k72,k74,h',h'',q9.set];obtain⟨⟨bv4,t4⟩,k4⟩:=t3.stay (cnt':=aC cnt2 0 12 (cnt2 0 12+1)) (en':=(en2.set ⟨0,12,cnt2 0 12⟩ (some (.box [.i 0,.i 0,.str ⟨#[]⟩,.cl []] false))).set ⟨0,12,cnt2 0 12⟩ (some (.box [.i q.parts[k].form,.i q.parts[k].n,.str q.parts[k].text,.fz (q.parts[k].parts.map Pat.enc)] false))) (fun k hk=>by simp only[hk.set]) (by(repeat refine upS ?_ (by omega));exact aO _)
  have n9:some (⟨0,9,c1 0 9⟩:Key)≠ko2:=by
   rintro rfl
   rcases hA3.v with⟨z,_⟩|⟨t,g,b,z1,_,z3,_⟩
   ·cases z
   ·simp only[bPo]at z1;rw[<-z1,e9]at z3;cases z3
  have u3: ∀t,cnt2 0 t<=aC cnt2 0 12 (cnt2 0 12+1) 0 t:=(by(repeat refine upS ?_ (by omega));exact aO _)
  have hA4:=hA3.to (cnt':=aC cnt2 0 12 (cnt2 0 12+1)) (en':=(en2.set ⟨0,12,cnt2 0 12⟩ (some (.box [.i 0,.i 0,.str ⟨#[]⟩,.cl []] false))).set ⟨0,12,cnt2 0 12⟩ (some (.box [.i q.parts[k].form,.i q.parts[k].n,.str q.parts[k].text,.fz (q.parts[k].parts.map Pat.enc)] false))) (fun x hx _=>by simp only[hx.set]) u3
  have hpo:sJ cons q.parts[k]=true:=bPv.1 hok.2 _ (bPz h')
  refine(ih q.parts[k] (bPz h') hpo (by omega) (w.obj v.n).vals[k] (a2.vals (bPz h'')) t4 hA4 (by rw[bP9];omega)).mono ?_
  rintro r e5 c5 ⟨rfl,F5⟩
  have up5: ∀t,cnt 0 t<=c5 0 t:=fun t=>bP2 (hup t) (bP2 (u3 t) (F5.up t))
  have old5: ∀x,Old x cnt->x≠kt->x≠kr->x≠kl->some x≠ko->e5 x=en x:=fun x hx y1 y2 y3 y4=>by
   have hx2:=hx.up hup;rw[F5.old x (hx2.up u3) y1 y2 y3 (fun e=>by
    rcases hko with hko|hko
    ·exact y4 (e.trans hko)
    ·exact hko x e.symm hx),hx2.set,hx2.set]
   exact hold x hx y1 y2 y3 y4
  have e59:e5 ⟨0,9,c1 0 9⟩=some (.box [.i (w.obj v.n).form,.i (w.obj v.n).n,.fz ((w.obj v.n).vals.map aD.enc),.fz ((w.obj v.n).frames.map aB.enc)] false):=by
   rw[F5.old _ (q9.up u3) t2.okt.ne.symm t2.okr.ne.symm hA1.ok.ne.symm n9,q9.set,q9.set];exact e9
  cases hx:fP w q.parts[k] (w.obj v.n).vals[k]with
  |none=>
   rw[hx]at F5 hst;have hnone:=aGk hl.symm hst;rw[hnone];simp only[go_sem,kK,bRx];exact⟨F5.ts,(fun l hl=>by cases hl),old5,up5⟩
  |some r=>
   rw[hx]at F5 hst;obtain⟨ko5,hA5,hko5⟩:=F5.acc r rfl;simp only[go_sem,kK,bRm,k74,aT h' (show Few q.parts.length by unfold Few;omega)]
   refine⟨_,_,_,ko5,l++r,rfl,?_⟩
   simp only[go_sem,k0,k3,k9,k72,k73]
   refine⟨e59,hst,F5.ts,by rw[<-List.append_assoc];exact hA5,?_,old5,up5,bQf h9 (bP2 (u3 9) (F5.up 9))⟩
   rcases hko5 with hko5|hko5
   ·rw[hko5];exact hko
   ·exact .inr fun x hx ho=>hko5 x hx ((ho.up hup).up u3)
 ·have:k=q.parts.length:=by simp at hq2;omega
  subst this;have hfull:fB w q.parts (w.obj v.n).vals=some l:=by
   unfold nP at hm;rw[bQ6,<-hl,bQ6]at hm;exact hm
  rw[hfull];simp only[go_sem,bRm];exact⟨⟨bv3,t3⟩,fun l' hl'=>by cases hl';exact⟨ko2,hA3,hko⟩,hold,hup⟩
end
theorem aMe (v:aD):v.enc= .agg [.i v.kind,.i v.n]:=rfl
theorem aS (h:0<l.length):oU 2 en (.fz (l.map aD.enc)) (.i 0)=some {v:= .fp [.i (aE l 0).kind,.i (aE l 0).n] 0}:=
 aDr (f:=aD.enc) (size:=2) (i:=0) jL (by simp only[inR,bTe];omega) fun _=>rfl
theorem gK (h:1<l.length):oU 2 en (.fz (l.map aD.enc)) (.i 1)=some {v:= .fp [.i (aE l 1).kind,.i (aE l 1).n] 0}:=
 aDr (f:=aD.enc) (size:=2) (i:=1) jL (by simp only[inR,bTe];omega) fun _=>rfl
noncomputable def aT8 :{c//L 188=some c}:=by
 have hL:=at_ func188
 conv at hL=>rhs;reduce
 exact⟨_,hL⟩
theorem aZa (h:cM p w0 S w)(ha:inR a 0 ((w.tasks.length:Int)-1)=true)(hv:VOk p S w v):
  PC L 188 [.agg w.cs,.i a,.fz (left.map aB.enc),.agg [.i v.kind,.i v.n]] (.agg [.fz ((gJ w a left v).w.objs.map aQ.enc),.fz ((gJ w a left v).w.tasks.map (.int .i64)),.fz ((gJ w a left v).w.outs.map bJ.enc),.fz ((gJ w a left v).w.ins.map (.int .i64)),.i (gJ w a left v).w.used,.i (gJ w a left v).what,.i (gJ w a left v).e.task,.i (gJ w a left v).e.act,.i (gJ w a left v).e.n,.i (gJ w a left v).e.v.kind,.i (gJ w a left v).e.v.n]):=by
 have hfit:=vY h ha;have hF:=gG w a 2 hfit;have hO:=pR w v 6 (fZ hv)
 by_cases h6:cK w v 6=true
 ·obtain⟨_,a2,a3,_⟩:=fI h hv h6;rw[vX,if_pos h6,h6]at hO;have hF3:=gG w a (w.obj v.n).n hfit
  by_cases h0:(w.obj v.n).n=0
  ·have d0:decide ((w.obj v.n).n=0)=true:=D_t h0;have e:gJ w a left v=mL w:=by unfold gJ;rw[if_pos h6,if_pos h0]
   rw[e]
   refine aI aT8.2 rfl rfl ?_
   simp only[go_sem,kK,aT8,hO.ret,d0,mL,eB,jL]
  ·have d0:decide ((w.obj v.n).n=0)=false:=D_f h0
   by_cases h1:(w.obj v.n).n=1
   ·have d1:decide ((w.obj v.n).n=1)=true:=D_t h1;have e:gJ w a left v=dF (bV w a left (aE (w.obj v.n).vals 0)) a 20 0 (aE (w.obj v.n).vals 0):=by unfold gJ;rw[if_pos h6,if_neg h0,if_neg (by rw[h1];decide)]
    rw[e];have hk:=a2.ok;rw[dQ,if_pos a3,kG,if_neg h0,if_pos h1]at hk;simp only[bPp,bTe]at hk;have hB:=jW w a left (aE (w.obj v.n).vals 0) hfit;have hE:=nC (bV w a left (aE (w.obj v.n).vals 0)) a 20 0 (aE (w.obj v.n).vals 0)
    refine aI aT8.2 rfl rfl ?_
    simp only[go_sem,kK,aT8,hO.ret,d0,d1]
    refine aH ?_
    simp only[go_sem,aS (l:=(w.obj v.n).vals) (by omega),hB.ret,hE.ret,kA,bPs,if_false]
   ·have d1:decide ((w.obj v.n).n=1)=false:=D_f h1;have e:gJ w a left v=bE w a (w.obj v.n).n:=by unfold gJ;rw[if_pos h6,if_neg h0,if_pos h1]
    rw[e]
    refine aI aT8.2 rfl rfl ?_
    simp only[go_sem,kK,aT8,hO.ret,d0,d1,hF3.ret]
 ·have e:gJ w a left v=bE w a 2:=by unfold gJ;rw[if_neg h6]
  rw[e];rw[bQ0]at h6;rw[h6]at hO
  refine aI aT8.2 rfl rfl ?_
  simp only[go_sem,kK,aT8,hO.ret,hF.ret]
theorem aQ2 {n:Int}{o:aQ}(hf:Fit w a):Fit (dW w n o) a:=by
 refine⟨?_,hf.at_,?_⟩
 ·rw[rB];exact hf.len
 ·rw[rB];exact hf.rng
noncomputable def aT9 :{c//L 186=some c}:=by
 have hL:=at_ func186
 conv at hL=>rhs;reduce
 exact⟨_,hL⟩
theorem aHv (h:cM p w0 S w)(ha:inR a 0 ((w.tasks.length:Int)-1)=true)(hv: ∀v∈l,VOk p S w v)(h0:0<l.length)(ho:op=16 \/op=17 \/op=18/\ 1<l.length):
  PC L 186 [.agg w.cs,.i a,.fz (left.map aB.enc),.i op,.fz (l.map aD.enc)] (.agg [.fz ((eS w a left op l).w.objs.map aQ.enc),.fz ((eS w a left op l).w.tasks.map (.int .i64)),.fz ((eS w a left op l).w.outs.map bJ.enc),.fz ((eS w a left op l).w.ins.map (.int .i64)),.i (eS w a left op l).w.used,.i (eS w a left op l).what,.i (eS w a left op l).e.task,.i (eS w a left op l).e.act,.i (eS w a left op l).e.n,.i (eS w a left op l).e.v.kind,.i (eS w a left op l).e.v.n]):=by
 have hfit:=vY h ha;have hF:=gG w a 2 hfit;have hv0:=hv _ (dJ h0);have hO:=pR w (aE l 0) 3 (fZ hv0)
 by_cases h16:op=16
 ·subst h16;have e:eS w a left 16 l=dF (iN w a left ⟨3,0,[aE l 0],[]⟩) a 16 0 (aE l 0):=by unfold eS;rw[if_pos rfl]
  rw[e];have hM:=aJq w a left ⟨3,0,[aE l 0],[]⟩ hfit;have hE:=nC (iN w a left ⟨3,0,[aE l 0],[]⟩) a 16 0 (aE l 0);simp only[bQj,bP1,aMe]at hM
  refine aI aT9.2 rfl rfl ?_
  simp only[go_sem,kK,aT9]
  refine aH ?_
  simp only[go_sem,aS h0,qO,lR,hM.ret,hE.ret,kA,bPs,if_false]
 ·have d16:decide (op=16)=false:=D_f h16
  by_cases h3:cK w (aE l 0) 3=true
  ·obtain⟨a1,a2,a3,_⟩:=fI h hv0 h3;rw[vX,if_pos h3,h3]at hO;have hk:=a2.ok;simp only[dQ,a3]at hk
   simp at hk
   by_cases h17:op=17
   ·subst h17;have e:eS w a left 17 l=dF (bV w a left (aE (w.obj (aE l 0).n).vals 0)) a 17 0 (aE (w.obj (aE l 0).n).vals 0):=by
     unfold eS;rw[if_neg (by decide),if_pos h3,if_pos rfl]
    rw[e];have hB:=jW w a left (aE (w.obj (aE l 0).n).vals 0) hfit;have hE:=nC (bV w a left (aE (w.obj (aE l 0).n).vals 0)) a 17 0 (aE (w.obj (aE l 0).n).vals 0)
    refine aI aT9.2 rfl rfl ?_
    simp only[go_sem,kK,aT9]
    refine aH ?_
    simp only[go_sem,kK,aS h0,hO.ret,kA,bPs,if_false]
    refine aH ?_
    simp only[go_sem,aS (l:=(w.obj (aE l 0).n).vals) (by omega),hB.ret,hE.ret,kA,bPs,if_false]
   ·have d17:decide (op=17)=false:=D_f h17;have h18:op=18:=by omega
    have hl1:1<l.length:=by omega
    subst h18;have e:eS w a left 18 l=dF (bV (dW w (aE l 0).n ⟨3,0,[aE l 1],[]⟩) a left bO) a 18 0 (aE l 1):=by
     unfold eS;rw[if_neg (by decide),if_pos h3,if_neg (by decide)]
    rw[e];simp only[inR,bTe]at ha;have hS:=aL4 w (aE l 0).n ⟨3,0,[aE l 1],[]⟩ a1 (by omega) hfit.len
    have hB:=jW (dW w (aE l 0).n ⟨3,0,[aE l 1],[]⟩) a left bO (aQ2 hfit);have hE:=nC (bV (dW w (aE l 0).n ⟨3,0,[aE l 1],[]⟩) a left bO) a 18 0 (aE l 1);simp only[bQj,bP1,aMe]at hS
    refine aI aT9.2 rfl rfl ?_
    simp only[go_sem,kK,aT9]
    refine aH ?_
    simp only[go_sem,kK,aS h0,hO.ret,kA,bPs,if_false]
    refine aH ?_
    simp only[go_sem,aS h0,gK hl1,qO,lR,hS.ret,kA,bPs,if_false]
    refine aH ?_
    simp only[go_sem,gK hl1,nN.ret,hB.ret,hE.ret,kA,bPs,if_false]
  ·have e:eS w a left op l=bE w a 2:=by unfold eS;rw[if_neg h16,if_neg h3]
   rw[e];rw[bQ0]at h3;rw[h3]at hO
   refine aI aT9.2 rfl rfl ?_
   simp only[go_sem,kK,aT9,d16]
   refine aH ?_
   simp only[go_sem,kK,aS h0,hO.ret,kA,bPs,if_false];simp only[go_sem,hF.ret]
variable {size:Nat}{xs:List Val}
theorem aDd {k:IntKind}(h:1<=xs.length)(hs:cU size xs=true):kP false size en (.fz xs) (some (.int k 1)) none none=some {v:= .fz (xs.drop 1)}:=aK0 (i:=1) h hs
noncomputable def aNi :{c//L 190=some c}:=by
 have hL:=at_ func190
 conv at hL=>rhs;reduce
 exact⟨_,hL⟩
theorem aGn (h:cM p w0 S w)(ha:inR a 0 ((w.tasks.length:Int)-1)=true)(hv: ∀v∈l,VOk p S w v)(h0:0<l.length)(ho:op=22/\ 1<l.length \/op=23):
  PC L 190 [.agg w.cs,.i a,.fz (left.map aB.enc),.i op,.fz (l.map aD.enc)] (.agg [.fz ((cD w a left op l).w.objs.map aQ.enc),.fz ((cD w a left op l).w.tasks.map (.int .i64)),.fz ((cD w a left op l).w.outs.map bJ.enc),.fz ((cD w a left op l).w.ins.map (.int .i64)),.i (cD w a left op l).w.used,.i (cD w a left op l).what,.i (cD w a left op l).e.task,.i (cD w a left op l).e.act,.i (cD w a left op l).e.n,.i (cD w a left op l).e.v.kind,.i (cD w a left op l).e.v.n]):=by
 have hfit:=vY h ha;have hF:=gG w a 2 hfit;have hv0:=hv _ (dJ h0);have hO:=pR w (aE l 0) 4 (fZ hv0);have ht:0<w.tasks.length:=by simp only[inR,bTe]at ha;omega
 by_cases h3:cK w (aE l 0) 4=true
 ·obtain⟨a1,a2,a3,_⟩:=fI h hv0 h3;rw[vX,if_pos h3,h3]at hO;have hk:=a2.ok;simp only[dQ,a3]at hk;simp[bA]at hk
  by_cases h22:op=22
  ·subst h22;have hl1:1<l.length:=by omega
   by_cases h4:4<=(w.obj (aE l 0).n).vals.length
   ·have d4:decide ((4:Int)<=((w.obj (aE l 0).n).vals.length:Int))=true:=D_t (by omega)
    have e:cD w a left 22 l=mL w:=by unfold cD;rw[if_pos h3,if_pos rfl,if_pos h4]
    rw[e]
    refine aI aNi.2 rfl rfl ?_
    simp only[go_sem,kK,aNi]
    refine aH ?_
    simp only[go_sem,kK,aS h0,hO.ret,kA,bPs,if_false];simp only[go_sem,kK,d4,mL,eB,jL]
   ·have d4:decide ((4:Int)<=((w.obj (aE l 0).n).vals.length:Int))=false:=D_f (by omega)
    have e:cD w a left 22 l=dF (bV (dW w (aE l 0).n ⟨4,0,(w.obj (aE l 0).n).vals++[aE l 1],[]⟩) a left bO) a 22 0 (aE l 1):=by
     unfold cD;rw[if_pos h3,if_pos rfl,if_neg h4]
    rw[e];have hM:=aF6 (w.obj (aE l 0).n).vals (aE l 1) (by omega)
    have hS:=aL4 w (aE l 0).n ⟨4,0,(w.obj (aE l 0).n).vals++[aE l 1],[]⟩ a1 ht hfit.len;have hB:=jW (dW w (aE l 0).n ⟨4,0,(w.obj (aE l 0).n).vals++[aE l 1],[]⟩) a left bO (aQ2 hfit);have hE:=nC (bV (dW w (aE l 0).n ⟨4,0,(w.obj (aE l 0).n).vals++[aE l 1],[]⟩) a left bO) a 22 0 (aE l 1);simp only[bP1]at hS
    refine aI aNi.2 rfl rfl ?_
    simp only[go_sem,kK,aNi]
    refine aH ?_
    simp only[go_sem,kK,aS h0,hO.ret,kA,bPs,if_false];simp only[go_sem,d4]
    refine aH ?_
    simp only[go_sem,aS h0,gK hl1,hM.ret,hS.ret,kA,bPs,if_false]
    refine aH ?_
    simp only[go_sem,gK hl1,nN.ret,hB.ret,hE.ret,kA,bPs,if_false]
  ·have h23:op=23:=by omega
   subst h23
   by_cases hz:(w.obj (aE l 0).n).vals.length=0
   ·have dz:decide (((w.obj (aE l 0).n).vals.length:Int)=0)=true:=D_t (by omega)
    have e:cD w a left 23 l=mL w:=by unfold cD;rw[if_pos h3,if_neg (by decide),if_pos hz]
    rw[e]
    refine aI aNi.2 rfl rfl ?_
    simp only[go_sem,kK,aNi]
    refine aH ?_
    simp only[go_sem,kK,aS h0,hO.ret,kA,bPs,if_false];simp only[go_sem,kK,dz,mL,eB,jL]
   ·have dz:decide (((w.obj (aE l 0).n).vals.length:Int)=0)=false:=D_f (by omega)
    have e:cD w a left 23 l=dF (bV (dW w (aE l 0).n ⟨4,0,(w.obj (aE l 0).n).vals.drop 1,[]⟩) a left (aE (w.obj (aE l 0).n).vals 0)) a 23 0 (aE (w.obj (aE l 0).n).vals 0):=by
     unfold cD;rw[if_pos h3,if_neg (by decide),if_neg hz]
    rw[e];have hS:=aL4 w (aE l 0).n ⟨4,0,(w.obj (aE l 0).n).vals.drop 1,[]⟩ a1 ht hfit.len;have hB:=jW (dW w (aE l 0).n ⟨4,0,(w.obj (aE l 0).n).vals.drop 1,[]⟩) a left (aE (w.obj (aE l 0).n).vals 0) (aQ2 hfit);have hE:=nC (bV (dW w (aE l 0).n ⟨4,0,(w.obj (aE l 0).n).vals.drop 1,[]⟩) a left (aE (w.obj (aE l 0).n).vals 0)) a 23 0 (aE (w.obj (aE l 0).n).vals 0);simp only[bP1]at hS;have hge:1<=(w.obj (aE l 0).n).vals.length:=by omega
    have hl16:((w.obj (aE l 0).n).vals.drop 1).length<=16777216:=by simp only[bR6];omega
    refine aI aNi.2 rfl rfl ?_
    simp only[go_sem,kK,aNi]
    refine aH ?_
    simp only[go_sem,kK,aS h0,hO.ret,kA,bPs,if_false];simp only[go_sem,dz]
    refine aH ?_
    cases hd:((w.obj (aE l 0).n).vals.drop 1).isEmpty with
    |true=>
     have hd':(w.obj (aE l 0).n).vals.drop 1=[]:=by simpa using hd
     rw[hd']at hS hB hE⊢;simp only[bP1]at hS;simp only[go_sem,aS h0,aDd,tP,hge,bM,dY,nB,<-bSp,hd',bP1,qO,lR,hS.ret,kA,bPs,if_false]
     refine aH ?_
     simp only[go_sem,aS (l:=(w.obj (aE l 0).n).vals) (by omega),hB.ret,hE.ret,kA,bPs,if_false]
    |false=>
     generalize hgd:(w.obj (aE l 0).n).vals.drop 1=dl at*;simp only[go_sem,aS h0,aDd,tP,hge,bM,dY,gX,<-bSp,hgd,iR,hd,hl16,bPr,bPq,bQa,rT,lS,hS.ret,kA,bPs,if_false]
     refine aH ?_
     simp only[go_sem,aS (l:=(w.obj (aE l 0).n).vals) (by omega),hB.ret,hE.ret,kA,bPs,if_false]
 ·have e:cD w a left op l=bE w a 2:=by unfold cD;rw[if_neg h3]
  rw[e];rw[bQ0]at h3;rw[h3]at hO
  refine aI aNi.2 rfl rfl ?_
  simp only[go_sem,kK,aNi]
  refine aH ?_
  simp only[go_sem,kK,aS h0,hO.ret,kA,bPs,if_false];simp only[go_sem,hF.ret]
theorem aOy {n:Nat}{k:Key}{kk:IntKind}(hn:1<=n):kP false size en (.bl k 0 n) (some (.int kk 1)) none none=(match en k with
  |some (.blk sz _ _)=>if sz=size then some {v:= .bl k 1 (n-1),rs:=[.val k]}else none
  |_=>none):=by
 have hb:jC (some (.int kk 1)) 0 n=some 1:=tY (i:=1) hn;simp only[kP,uZ,hb,bPs,if_false];cases en k with
 |none=>rfl
 |some e=>cases e<;>simp
theorem bCk (hf:Fit w a)(h1:outs.length<=110)(h2:ins.length<=60):Fit ⟨w.objs,w.tasks,outs,ins,used⟩ a:=⟨⟨hf.len.1,hf.len.2.1,h1,h2⟩,hf.at_,hf.rng⟩
theorem aOz (x:Int)(l:List Int):(x::l).map (Val.int .i64)= .i x::l.map (.int .i64):=rfl
set_option maxHeartbeats 1600000 in
theorem aMf (h:cM p w0 S w)(ha:inR a 0 ((w.tasks.length:Int)-1)=true)(n:aM)(hv: ∀v∈l,VOk p S w v)(ho:n.op=25 \/n.op=24/\ 0<l.length):
  PC L 191 [.agg [.fz (w.objs.map aQ.enc),.fz (w.tasks.map (.int .i64)),.fz (w.outs.map bJ.enc),.fz (w.ins.map (.int .i64)),.i w.used],.i a,.fz (left.map aB.enc),.agg [.i n.op,.i n.n,.fz (n.kids.map (.int .i64)),.fz (n.pats.map Pat.enc)],.fz (l.map aD.enc)] (.agg [.fz ((dH w a left n.op n.n l).w.objs.map aQ.enc),.fz ((dH w a left n.op n.n l).w.tasks.map (.int .i64)),.fz ((dH w a left n.op n.n l).w.outs.map bJ.enc),.fz ((dH w a left n.op n.n l).w.ins.map (.int .i64)),.i (dH w a left n.op n.n l).w.used,.i (dH w a left n.op n.n l).what,.i (dH w a left n.op n.n l).e.task,.i (dH w a left n.op n.n l).e.act,.i (dH w a left n.op n.n l).e.n,.i (dH w a left n.op n.n l).e.v.kind,.i (dH w a left n.op n.n l).e.v.n]):=by
 have hfit:=vY h ha;have hF2:=gG w a 2 hfit;have hF4:=gG w a 4 hfit
 try simp only[aA.cs,Val.is]at hF2 hF4
 obtain⟨b1,b2,b3,b4,b5,b6,b7⟩:=cR.1 h.ok;simp only[nW,bPp,bTe]at b3;simp only[inR,bTe]at b4;have hat:=hfit.at_;have hrng:=hfit.rng;simp only[inR,bTe]at hat hrng;have t1:((w.objs.map aQ.enc).take w.objs.length)=w.objs.map aQ.enc:=bQa (by simp)
 have t2:((w.tasks.map (Val.int .i64)).take w.tasks.length)=w.tasks.map (.int .i64):=bQa (by simp)
 have t3:((w.outs.map bJ.enc).take w.outs.length)=w.outs.map bJ.enc:=bQa (by simp)
 have t4:((w.ins.map (Val.int .i64)).take w.ins.length)=w.ins.map (.int .i64):=bQa (by simp)
 have hL:=at_ func191
 conv at hL=>rhs;reduce
 refine aI hL rfl rfl ?_
 simp only[go_sem,kK]
 refine(aGe w (by omega) (by omega) hfit.len (aB7 _ _ w)).mono ?_
 rintro x en1 cnt1 ⟨⟨g5,g8,vU,vI,rfl,e5,l5,m5,e8,l8,m8,mU,mI⟩,old,up⟩
 have q5:=old 5 0 (by simp[aC])
 have q8:=old 8 0 (by simp[aC])
 have q10:=old 10 0 (by simp[aC])
 have n5: ¬g5=0:=by simp[aC]at l5;omega
 have n8: ¬g8=0:=by simp[aC]at l8;omega
 have n5': ¬0=g5:=by omega
 have n8': ¬0=g8:=by omega
 try simp only[go_sem]at q5 q8 q10
 obtain⟨g11,hg11⟩: ∃g,g=cnt1 0 11:=⟨_,rfl⟩
 have eU:=True.intro;have eI:=True.intro;have nU:=True.intro
 by_cases h25:n.op=25
 ·rw[h25];cases hins:w.ins with
  |nil=>
   have e:dH w a left 25 n.n l=mL w:=by unfold dH;rw[if_pos rfl,hins]
   rw[e];rcases mI with⟨rfl,hi⟩|⟨gI,rfl,eI,lI,hi⟩
   ·rcases mU with⟨rfl,hu⟩|⟨gU,rfl,eU,lU,hu⟩
    all_goals simp only[go_sem,kK,q5,q8,q10,n5,h25,e5,e8,eU,t1,t2,t3,bPr,bPq,mL,eB,jL,hu,hins,bP1]
   ·rw[hins]at hi;cases hi
  |cons x xs=>
   have hx:inR x (-1000000000) 1000000000=true:=by rw[hins]at b3;simp only[bR3,bPp]at b3;exact b3.2.1
   have hlx:xs.length+1<=50:=by rw[hins]at b3;have:=b3.1;simp only[bPy]at this;omega
   have hlen:w.ins.length=xs.length+1:=by rw[hins];rfl
   rcases mI with⟨rfl,hi⟩|⟨gI,rfl,eI,lI,hi⟩
   ·rw[hins]at hi;cases hi
   rw[hins,aOz]at eI;have tx:(xs.map (Val.int .i64)).take xs.length=xs.map (.int .i64):=bQa (by simp)
   have dpos:(0:Int)<((xs.length+1:Nat):Int):=by omega
   have di:decide (((xs.length+1:Nat):Int)=0)=false:=D_f (by omega)
   by_cases hus:1000000000<=w.used
   ·have du:decide ((1000000000:Int)<=w.used)=true:=D_t hus;have e:dH w a left 25 n.n l=bE w a 4:=by unfold dH;rw[if_pos rfl,hins];simp only;rw[if_pos hus]
    rw[e];rw[hins,aOz]at hF4;rcases mU with⟨rfl,hu⟩|⟨gU,rfl,eU,lU,hu⟩
    ·rw[hu]at hF4;simp only[go_sem,kK,q5,q8,q10,n5,h25,e5,e8,eI,t1,t2,bPr,bPy,bPq,hlen,di,dpos,Int.le_refl,bR9,tx,(aEm _).ret,<-hg11,du,hF4.ret]
    ·have nU: ¬gU=g11:=by omega
     simp only[go_sem,kK,q5,q8,q10,n5,h25,e5,e8,eI,eU,nU,t1,t2,t3,bPr,bPy,bPq,hlen,di,dpos,Int.le_refl,bR9,tx,(aEm _).ret,<-hg11,du,hF4.ret]
   ·have du:decide ((1000000000:Int)<=w.used)=false:=D_f hus;have e:dH w a left 25 n.n l=dF (bV ⟨w.objs,w.tasks,w.outs,xs,w.used+1⟩ a left (nG x)) a 25 0 (nG x):=by unfold dH;rw[if_pos rfl,hins];simp only;rw[if_neg hus]
    rw[e];have hwu:IntKind.i64.wrap (w.used+1)=w.used+1:=aW (by omega)
    have hB:=jW ⟨w.objs,w.tasks,w.outs,xs,w.used+1⟩ a left (nG x) (bCk hfit (by omega) (by omega))
    have hE:=nC (bV ⟨w.objs,w.tasks,w.outs,xs,w.used+1⟩ a left (nG x)) a 25 0 (nG x);dsimp only[aA.cs,Val.is]at hB;have hx1:1<=xs.length+1:=by omega
    have hx2:xs.length+1-1=xs.length:=by omega
    have hx3:1+xs.length<=xs.length+1:=by omega
    have hx4:xs.length<=16777216:=by omega
    cases hxe:xs.isEmpty
    all_goals
     try(have hxe':xs=[]:=(by simpa using hxe);subst hxe')
     try simp only[bP1]at hB
     rcases mU with⟨rfl,hu⟩|⟨gU,rfl,eU,lU,hu⟩
     ·rw[hu]at hB;simp only[go_sem,kK,q5,q8,h25,eI,bPr,bPy,bPq,hlen,di,dpos,Int.le_refl,bR9,(aEm _).ret,<-hg11,du]
      refine aH ?_
      simp only[go_sem,kB,eI,hx1,hx2,hx3,hx4,hxe,tx,aOy,aL3,bM,dY,nB,gX,iR,aC4,bPr,bPy,bP7,bPq,hwu,bP1,kA,bPs,if_false]
      refine aH ?_
      simp only[go_sem,q8,q10,n5,n8',h25,e5,e8,hB.ret,hE.ret,t1,t2,tx,bPr,bPq,bP1,kA,bPs,if_false]
     ·have nU: ¬gU=g11:=by omega
      have nU': ¬g11=gU:=by omega
      simp only[go_sem,kK,q5,q8,h25,eI,bPr,bPy,bPq,hlen,di,dpos,Int.le_refl,bR9,(aEm _).ret,<-hg11,du]
      refine aH ?_
      simp only[go_sem,kB,eI,hx1,hx2,hx3,hx4,hxe,tx,aOy,aL3,bM,dY,nB,gX,iR,aC4,bPr,bPy,bP7,bPq,hwu,bP1,kA,bPs,if_false]
      refine aH ?_
      simp only[go_sem,q8,q10,n5,n8',h25,e5,e8,eU,nU,nU',hB.ret,hE.ret,t1,t2,t3,tx,bPr,bPq,bP1,kA,bPs,if_false]
 ·have h24:n.op=24:=by omega
  have h0:0<l.length:=by omega
  rw[h24]
  by_cases hk:(aE l 0).kind=1
  ·have dk:decide ((aE l 0).kind=1)=true:=D_t hk
   by_cases h100:100<=w.outs.length
   ·have d1:decide ((100:Int)<=(w.outs.length:Int))=true:=D_t (by omega)
    have e:dH w a left 24 n.n l=bE w a 4:=by unfold dH;rw[if_neg (by decide),if_neg (fun h=>h hk),if_pos h100]
    rw[e];rcases mU with⟨rfl,hu⟩|⟨gU,rfl,eU,lU,hu⟩
    ·have:w.outs=[]:=by simpa using hu
     rw[this]at h100;simp at h100
    ·rcases mI with⟨rfl,hi⟩|⟨gI,rfl,eI,lI,hi⟩
     ·rw[hi]at hF4;simp only[go_sem,kK,q5,q8,q10,n5,h24,aS h0,dk,d1,e5,e8,eU,t1,t2,t3,bPr,bPq,hF4.ret]
     ·simp only[go_sem,kK,q5,q8,q10,n5,h24,aS h0,dk,d1,e5,e8,eU,eI,t1,t2,t3,t4,bPr,bPq,hF4.ret]
   ·have e:dH w a left 24 n.n l=dF (bV ⟨w.objs,w.tasks,w.outs++[⟨n.n,(aE l 0).n⟩],w.ins,w.used⟩ a left bO) a 24 n.n (aE l 0):=by
     unfold dH;rw[if_neg (by decide),if_neg (fun h=>h hk),if_neg h100]
    rw[e];have hB:=jW ⟨w.objs,w.tasks,w.outs++[⟨n.n,(aE l 0).n⟩],w.ins,w.used⟩ a left bO (bCk hfit (by simp only[bP9,bPy,bP7];omega) (by omega))
    have hE:=nC (bV ⟨w.objs,w.tasks,w.outs++[⟨n.n,(aE l 0).n⟩],w.ins,w.used⟩ a left bO) a 24 n.n (aE l 0);simp only[aA.cs,Val.is,bQs,bQj,bP1,bJ.enc]at hB;have hl1:w.outs.length+1<=16777216:=by omega
    rcases mU with⟨rfl,hu⟩|⟨gU,rfl,eU,lU,hu⟩
    ·have d1:decide ((100:Int)<=0)=false:=D_f (by omega)
     have hu':List.map (fun x:bJ=>Val.agg [.i x.port,.i x.n]) w.outs=[]:=hu
     have hu2:w.outs=[]:=by simpa using hu
     rw[hu2]at hB hE⊢;simp only[bP1,bQt]at hB hE⊢;rcases mI with⟨rfl,hi⟩|⟨gI,rfl,eI,lI,hi⟩
     all_goals
      try rw[hi]at hB
      simp only[go_sem,kK,q5,q8,h24,aS h0,dk,bPr,bPq]
      refine aH ?_
      simp only[go_sem,q8,h24,aS h0,kB,bPq,bM,dY,gX,List.isEmpty_cons,bF9,kA,bPs,if_false]
      refine aH ?_
      simp only[go_sem,q8,q10,n5,n8',h24,aS h0,e5,e8,eI,t1,t2,t4,bPr,bPq,nN.ret,hB.ret,hE.ret,kA,bPs,if_false]
    ·have d1:decide ((100:Int)<=(w.outs.length:Int))=false:=D_f (by omega)
     rcases mI with⟨rfl,hi⟩|⟨gI,rfl,eI,lI,hi⟩
     all_goals
      try rw[hi]at hB
      simp only[go_sem,kK,q5,q8,h24,aS h0,dk,d1,bPr,bPq]
      refine aH ?_
      simp only[go_sem,q8,h24,aS h0,kB,eU,bPr,bPq,hl1,bM,dY,tE,kL,bSd,bF9,kA,bPs,if_false]
      refine aH ?_
      simp only[go_sem,q8,q10,n5,n8',h24,aS h0,e5,e8,eI,t1,t2,t4,bPr,bPq,bP9,bSd,bQa,nN.ret,hB.ret,hE.ret,kA,bPs,if_false]
  ·have dk:decide ((aE l 0).kind=1)=false:=D_f hk;have e:dH w a left 24 n.n l=bE w a 2:=by unfold dH;rw[if_neg (by decide),if_pos hk]
   rw[e];rcases mU with⟨rfl,hu⟩|⟨gU,rfl,eU,lU,hu⟩<;>rcases mI with⟨rfl,hi⟩|⟨gI,rfl,eI,lI,hi⟩
   all_goals
    try rw[hu]at hF2
    try rw[hi]at hF2
    simp only[go_sem,kK,q5,q8,q10,n5,h24,aS h0,dk,e5,e8,eU,eI,t1,t2,t3,t4,bPr,bPq,hF2.ret]
theorem fR (hf:FOk p S w f):inR f.node 0 ((p.nodes.length:Int)-1)=true:=by
 have:=hf.ok;simp only[dI,bPp]at this;exact this.1.1
theorem pT :fX p left (k+1)=if(p.node (left.getD k default).node).op=26 then k+1 else fX p left k:=rfl
set_option maxHeartbeats 1600000 in
theorem aWb (h:cM p w0 S w)(ha:inR a 0 ((w.tasks.length:Int)-1)=true)(hl:LOk p S w left){env:List aD}(he:env.length<=30):
  PC L 185 [.agg p.cs,.agg w.cs,.i a,.fz (left.map aB.enc),.i kid,.fz (env.map aD.enc)] (.agg [.fz ((fH p w a left kid env).w.objs.map aQ.enc),.fz ((fH p w a left kid env).w.tasks.map (.int .i64)),.fz ((fH p w a left kid env).w.outs.map bJ.enc),.fz ((fH p w a left kid env).w.ins.map (.int .i64)),.i (fH p w a left kid env).w.used,.i (fH p w a left kid env).what,.i (fH p w a left kid env).e.task,.i (fH p w a left kid env).e.act,.i (fH p w a left kid env).e.n,.i (fH p w a left kid env).e.v.kind,.i (fH p w a left kid env).e.v.n]):=by
 have hfit:=vY h ha;have hF3:=gG w a 3 hfit;have hF4:=gG w a 4 hfit;have hlen:=hl.len;have hwl:IntKind.i64.wrap ((left.length:Int)-1)=(left.length:Int)-1:=aW (by omega)
 have hL:=at_ func185
 conv at hL=>rhs;reduce
 refine aI hL rfl rfl ?_
 simp only[go_sem,kK,hwl]
 refine Go.Abs.wp_loop (fun(k:Nat) st=> ∃fr en cnt,st=⟨fr,en,cnt⟩/\ fr 2= .i a/\ fr 3= .fz (left.map aB.enc)/\ fr 4= .i kid/\ fr 5= .fz (env.map aD.enc)/\ fr 6= .ptr ⟨0,6,0⟩ 0/\ en ⟨0,6,0⟩=some (.box [.fz (p.nodes.map aM.enc),.fz (p.funs.map (.int .i64)),.i p.main,.fz (p.cons.map cS.enc)] false)/\ fr 7= .ptr ⟨0,7,0⟩ 0/\ en ⟨0,7,0⟩=some (.box [.fz (w.objs.map aQ.enc),.fz (w.tasks.map (.int .i64)),.fz (w.outs.map bJ.enc),.fz (w.ins.map (.int .i64)),.i w.used] false)/\ fr 12= .ptr ⟨0,12,0⟩ 0/\ en ⟨0,12,0⟩=some (.box [.cl [],.cl [],.cl [],.cl [],.i 0,.i 0,.i 0,.i 0,.i 0,.i 0,.i 0] false)/\ fr 13= .i ((k:Int)-1)/\ (cnt 0 7=1/\ cnt 0 12=1/\ cnt 0 14=0)/\ k<=left.length/\ fX p left k=fX p left left.length) (fun k=>k) left.length ⟨_,_,_,rfl,by simp only[go_sem],by simp only[go_sem],by simp only[go_sem],by simp only[go_sem],by simp only[go_sem],by simp only[go_sem],by simp only[go_sem],by simp only[go_sem],by simp only[go_sem],by simp only[go_sem],by simp only[go_sem],by simp[aC],bPq _,rfl⟩ ?_
 rintro k st ⟨fr,en,cnt,rfl,k2,k3,k4,k5,k6,e6,k7,e7,k12,e12,k13,kc,hk,hR⟩
 cases k with
 |zero=>
  have k13':fr 13= .i (-1):=by simpa using k13
  have e:fH p w a left kid env=bE w a 3:=by unfold fH;rw[<-hR];rfl
  rw[e];simp only[go_sem,kK,k2,k7,e7,k12,e12,k13',hF3.ret]
 |succ k=>
  have k13':fr 13= .i (k:Int):=by rw[k13];congr 1;omega
  have h':k<left.length:=by omega
  have d0:decide ((0:Int)<=(k:Int))=true:=D_t (by omega)
  have hfk:=hl.ok _ (bPz h');have hgd:left.getD k default=left[k]:=by simp[bPu,h']
  have hwk:IntKind.i64.wrap ((k:Int)-1)=(k:Int)-1:=aW (by omega)
  rw[pT,hgd]at hR
  by_cases h26:(p.node left[k].node).op=26
  ·rw[if_pos h26]at hR;have d26:decide ((p.node left[k].node).op=26)=true:=D_t h26;have dneg:decide ((k:Int)<0)=false:=D_f (by omega)
   by_cases h120:120<=w.objs.length
   ·have d120:decide ((120:Int)<=(w.objs.length:Int))=true:=D_t (by omega)
    have e:fH p w a left kid env=bE w a 4:=by unfold fH;rw[<-hR];simp only;rw[if_pos h120]
    rw[e];simp only[go_sem,kK,k2,k3,k6,e6,k7,e7,k12,e12,k13',h',d0,bK (fR hfk),d26,dneg,d120,hF4.ret]
   ·have d120:decide ((120:Int)<=(w.objs.length:Int))=false:=D_f (by omega)
    have hat:=hfit.at_;have hrng:=hfit.rng;simp only[inR,bTe]at hat hrng;have hK:Fit (eC w ⟨5,0,[],left.drop k⟩) a:=aXi hfit (by omega)
    have hN:=aC8 (eC w ⟨5,0,[],left.drop k⟩) a (left.take (k+1)) kid (env++[dN w.objs.length]) hK (by simp only[bQx];omega)
    have hM:=aF6 env (dN w.objs.length) (by omega)
    have hF:=gG w a (gW (eC w ⟨5,0,[],left.drop k⟩) a (left.take (k+1)) kid (env++[dN w.objs.length])).e.n hfit;have e:fH p w a left kid env=if(gW (eC w ⟨5,0,[],left.drop k⟩) a (left.take (k+1)) kid (env++[dN w.objs.length])).what=1 then bE w a (gW (eC w ⟨5,0,[],left.drop k⟩) a (left.take (k+1)) kid (env++[dN w.objs.length])).e.n else gW (eC w ⟨5,0,[],left.drop k⟩) a (left.take (k+1)) kid (env++[dN w.objs.length]):=by
     unfold fH;rw[<-hR];simp only;rw[if_neg h120]
    rw[e];generalize hD:gW (eC w ⟨5,0,[],left.drop k⟩) a (left.take (k+1)) kid (env++[dN w.objs.length])=D at hN hF⊢
    try simp only[aA.cs,Val.is]at hN
    rw[show((eC w ⟨5,0,[],left.drop k⟩).objs.map aQ.enc)=w.objs.map aQ.enc++[aQ.enc ⟨5,0,[],left.drop k⟩]from by simp[eC]]at hN
    simp only[eC,bP1,aQ.enc]at hN;have hde:(left.drop k).isEmpty=false:=aLt (by simp only[bR6];omega)
    have hdl:(left.drop k).length<=16777216:=by simp only[bR6];omega
    have hkl:k<=left.length:=by omega
    have hkl1:k+1<=left.length:=by omega
    have hol:w.objs.length+1<=16777216:=by omega
    have hwr:IntKind.i64.wrap (((w.objs.length+1:Nat):Int)-1)=(w.objs.length:Int):=by rw[aW (by omega)];omega
    have hwk1:IntKind.i64.wrap ((k:Int)+1)=((k+1:Nat):Int):=by rw[aW (by omega)];omega
    obtain⟨c7,c12,c14⟩:=kc;simp only[go_sem,kK,k3,k6,e6,k7,e7,k12,e12,k13',h',d0,bK (fR hfk),d26,dneg,d120,c14]
    refine(aGe w (by omega) (by omega) hfit.len (aB7 _ _ w)).mono ?_
    rintro x en1 cnt1 ⟨⟨g5,g8,vU,vI,rfl,e5,l5,m5,e8,l8,m8,mU,mI⟩,old,up⟩
    have q7:=old 7 0 (by simp[aC];omega)
    have q12:=old 12 0 (by simp[aC];omega)
    have q14:=old 14 0 (by simp[aC])
    try simp only[go_sem,e7,e12]at q7 q12 q14
    have eU:=True.intro;have eI:=True.intro;have t2:((w.tasks.map (Val.int .i64)).take w.tasks.length)=w.tasks.map (.int .i64):=bQa (by simp)
    have t3:((w.outs.map bJ.enc).take w.outs.length)=w.outs.map bJ.enc:=bQa (by simp)
    have t4:((w.ins.map (Val.int .i64)).take w.ins.length)=w.ins.map (.int .i64):=bQa (by simp)
    obtain⟨g15,hg15⟩: ∃g,g=cnt1 0 15:=⟨_,rfl⟩
    simp only[go_sem,q7]
    refine aH ?_
    simp only[go_sem,k3,k7,k13',e5,aK0,jM,hkl,<-bSp,bM,dY,gX,tE,kL,iR,hde,hdl,hol,bGb,bPr,bPq,bQa,rT,lS,kA,bPs,if_false];have n14: ∀{g:Nat},g<cnt1 0 14->True:=fun _=>trivial
    by_cases hw:D.what=1
    ·have dw:decide (D.what=1)=true:=D_t hw;rw[if_pos hw];rcases mU with⟨rfl,hu⟩|⟨gU,rfl,eU,lU,hu⟩<;>rcases mI with⟨rfl,hi⟩|⟨gI,rfl,eI,lI,hi⟩
     all_goals
      try rw[hu]at hN
      try rw[hi]at hN
      have nI:=True.intro
      try(have nI: ¬0=gI:=by(rintro rfl;rw[q14]at eI;cases eI))
      refine aH ?_
      simp only[go_sem,kK,k2,k3,k4,k5,k7,k13',e8,eU,eI,t2,t3,t4,vA,hkl1,hwk1,<-bRe,bPr,bP9,bSd,bPq,bQa,hwr,(aLu _).ret,hM.ret,hN.ret,<-hg15,kA,bPs,if_false];simp only[go_sem,kK,k2,k12,q12,q14,nI,dw,hF.ret]
    ·have dw:decide (D.what=1)=false:=D_f hw;rw[if_neg hw];rcases mU with⟨rfl,hu⟩|⟨gU,rfl,eU,lU,hu⟩<;>rcases mI with⟨rfl,hi⟩|⟨gI,rfl,eI,lI,hi⟩
     all_goals
      try rw[hu]at hN
      try rw[hi]at hN
      have nI:=True.intro
      try(have nI: ¬0=gI:=by(rintro rfl;rw[q14]at eI;cases eI))
      refine aH ?_
      simp only[go_sem,kK,k2,k3,k4,k5,k7,k13',e8,eU,eI,t2,t3,t4,vA,hkl1,hwk1,<-bRe,bPr,bP9,bSd,bPq,bQa,hwr,(aLu _).ret,hM.ret,hN.ret,<-hg15,kA,bPs,if_false];simp only[go_sem,k12,q12,dw]
  ·rw[if_neg h26]at hR;have d26:decide ((p.node left[k].node).op=26)=false:=D_f h26;simp only[go_sem,kK,k3,k6,e6,k13',h',d0,bK (fR hfk),d26,hwk]
   refine⟨k,⟨_,_,_,rfl,?_⟩,Nat.lt_succ_self _⟩
   simp only[go_sem,k2,k3,k4,k5,k6,e6,k7,e7,k12,e12];exact⟨kc,by omega,hR⟩
structure bH0 (p:aF) (w:aA) (a:Int) (left:List aB) (f:aD) (fr:Nat->Val) (en:En) (cnt:Nat->Nat->Nat) (o:aQ) (oa ob:Val):Prop where
 form:o.form=6
 n:o.n=0
 pa:aDz oa (.fz (o.vals.map aD.enc))
 pb:aDz ob (.fz (o.frames.map aB.enc))
 is:eK p w a left f=aA2 w a left o
 k2:fr 2= .i a
 k3:fr 3= .fz (left.map aB.enc)
 k6:fr 6= .ptr ⟨0,6,0⟩ 0
 e6:en ⟨0,6,0⟩=some (.box [.fz (w.objs.map aQ.enc),.fz (w.tasks.map (.int .i64)),.fz (w.outs.map bJ.enc),.fz (w.ins.map (.int .i64)),.i w.used] false)
 k10:fr 10= .ptr ⟨0,10,0⟩ 0
 e10:en ⟨0,10,0⟩=some (.box [.cl [],.cl [],.cl [],.cl [],.i 0,.i 0,.i 0,.i 0,.i 0,.i 0,.i 0] false)
 k11:fr 11= .ptr ⟨0,11,0⟩ 0
 e11:en ⟨0,11,0⟩=some (.box [.i 6,.i 0,oa,ob] false)
 c6:cnt 0 6=1
 c10:cnt 0 10=1
def bEl (p:aF)(w:aA)(a:Int)(left:List aB)(f:aD)(st:St):Prop:= ∃o oa ob,bH0 p w a left f st.fr st.en st.cnt o oa ob
set_option maxHeartbeats 1600000 in
theorem aWc (hp:dU p)(h:cM p w0 S w)(ha:inR a 0 ((w.tasks.length:Int)-1)=true){f:aD}(hf:VOk p S w f):
  PC L 187 [.agg p.cs,.agg w.cs,.i a,.fz (left.map aB.enc),.agg [.i f.kind,.i f.n]] (.agg [.fz ((eK p w a left f).w.objs.map aQ.enc),.fz ((eK p w a left f).w.tasks.map (.int .i64)),.fz ((eK p w a left f).w.outs.map bJ.enc),.fz ((eK p w a left f).w.ins.map (.int .i64)),.i (eK p w a left f).w.used,.i (eK p w a left f).what,.i (eK p w a left f).e.task,.i (eK p w a left f).e.act,.i (eK p w a left f).e.n,.i (eK p w a left f).e.v.kind,.i (eK p w a left f).e.v.n]):=by
 have hfit:=vY h ha;have hO:=pR w f 5 (fZ hf);have hF4:=gG w a 4 hfit;have hF2:=gG w a 2 hfit;have hB:=aT4 hp h hf (rC (p:=p) (S:=S) (w:=w));have hL:=at_ func187
 conv at hL=>rhs;reduce
 refine aI hL rfl rfl ?_
 simp only[go_sem,aEe,Go.Abs.start]
 refine aC2 (bEl p w a left f) ?_ ?_
 ·by_cases h5:cK w f 5=true
  ·rw[vX,if_pos h5,h5]at hO;simp only[go_sem,kK,hO.ret]
   refine aH ?_
   simp only[go_sem,nN.ret,qO,lR,kA,bPs,if_false];exact⟨⟨6,0,[bO],(w.obj f.n).frames⟩,.cl [.agg [.i bO.kind,.i bO.n]],.fz ((w.obj f.n).frames.map aB.enc),⟨rfl,rfl,aGf _,sQ _,by unfold eK;rw[if_pos h5],by simp only[go_sem],by simp only[go_sem],by simp only[go_sem],by simp only[go_sem],by simp only[go_sem],by simp only[go_sem],by simp only[go_sem],by simp only[go_sem],by simp[aC],by simp[aC]⟩⟩
  ·rw[bQ0]at h5;rw[h5]at hO;cases hb:eP p w f bO with
   |none=>
    have e:eK p w a left f=bE w a 2:=by unfold eK;rw[if_neg (by rw[h5];decide),hb]
    rw[hb]at hB;rw[e];simp only[go_sem,kK,hO.ret]
    refine aH ?_
    simp only[go_sem,kK,nN.ret,hB.ret,bRx,kA,bPs,if_false];simp only[go_sem,hF2.ret]
   |some b=>
    have hv:xW p w f bO=b:=by rw[xW,hb];rfl
    rw[hb,hv]at hB;obtain⟨b1,b2,b3⟩:=aEn hp h hf rC hb
    by_cases h30:30<b.env.length
    ·have d30:decide ((30:Int)<(b.env.length:Int))=true:=D_t (by omega)
     have e:eK p w a left f=bE w a 4:=by unfold eK;rw[if_neg (by rw[h5];decide),hb];simp only;rw[if_pos h30]
     rw[e];simp only[go_sem,kK,hO.ret]
     refine aH ?_
     simp only[go_sem,kK,nN.ret,hB.ret,bRm,kA,bPs,if_false];simp only[go_sem,kK,d30,hF4.ret]
    ·have d30:decide ((30:Int)<(b.env.length:Int))=false:=D_f (by omega)
     have e:eK p w a left f=aA2 w a left ⟨6,0,[],[b]⟩:=by unfold eK;rw[if_neg (by rw[h5];decide),hb];simp only;rw[if_neg h30]
     simp only[go_sem,kK,hO.ret]
     refine aH ?_
     simp only[go_sem,kK,nN.ret,hB.ret,bRm,kA,bPs,if_false];simp only[go_sem,d30,qO,lR];exact⟨⟨6,0,[],[b]⟩,.cl [],.cl [.agg [.i b.node,.fz (b.env.map aD.enc),.fz (b.vals.map aD.enc)]],⟨rfl,rfl,aGf _,aGf _,e,by simp only[go_sem],by simp only[go_sem],by simp only[go_sem],by simp only[go_sem],by simp only[go_sem],by simp only[go_sem],by simp only[go_sem],by simp only[go_sem],by simp[aC],by simp[aC]⟩⟩
 ·rintro fr en cnt ⟨o,oa,ob,hs⟩
  obtain⟨of_,on,pa,pb,is,k2,k3,k6,e6,k10,e10,k11,e11,c6,c10⟩:=hs;dsimp only at k2 k3 k6 e6 k10 e10 k11 e11 c6 c10;have hF:=aT5 w a left o (sQ _) pa pb hfit (en:=en) (cnt:=cnt);rw[of_,on]at hF;rw[is];simp only[go_sem,kK,k2,k3,k6,e6,k11,e11]
  refine hF.mono ?_
  rintro x en1 cnt1 (⟨h120,rfl,old,up⟩|⟨h120,hO1⟩)
  ·have q10:=old 10 0 (by omega)
   rw[e10]at q10;obtain⟨g16,hg16⟩: ∃g,g=cnt1 0 16:=⟨_,rfl⟩
   have e:aA2 w a left o=dF (bE w a 4) a 19 0 bO:=by
    unfold aA2 iN;simp only[if_pos h120];rw[if_pos (show(bE w a 4).what=1 from rfl)]
   rw[e];have hE:=nC (bE w a 4) a 19 0 bO;have dw:decide ((bE w a 4).what=1)=true:=rfl;simp only[go_sem,kK,<-hg16,dw]
   refine aH ?_
   simp only[go_sem,k2,k10,q10,nN.ret,hE.ret,kA,bPs,if_false]
  ·have q10:=hO1.old 10 0 (by omega)
   rw[e10]at q10;obtain⟨g16,hg16⟩: ∃g,g=cnt1 0 16:=⟨_,rfl⟩
   obtain⟨g71,hg71⟩: ∃g,g=cnt1 0 71:=⟨_,rfl⟩
   have e:aA2 w a left o=dF ⟨qZ (bV (eC w o) a left (dN w.objs.length)).w,0,eB⟩ a 19 0 bO:=by
    unfold aA2 iN;simp only[if_neg (show¬120<=w.objs.length by omega)];rw[if_neg (by simp[bV])];rfl
   rw[e];have hE:=nC ⟨qZ (bV (eC w o) a left (dN w.objs.length)).w,0,eB⟩ a 19 0 bO
   try simp only[]at hE
   have hle:(bV (eC w o) a left (dN w.objs.length)).w.objs.length=w.objs.length+1:=by simp only[bV,rB,nO]
   have hlt:(bV (eC w o) a left (dN w.objs.length)).w.tasks.length=w.tasks.length:=rfl;have hfl:=hfit.len;generalize hW:(bV (eC w o) a left (dN w.objs.length)).w=W at hO1 hE hle hlt⊢;obtain⟨⟨g5,g8,vU,vI,rfl,e5,l5,m5,e8,l8,m8,mU,mI⟩,old,up⟩:=hO1;have hwr:IntKind.i64.wrap ((W.objs.length:Int)-1)=(W.objs.length:Int)-1:=aW (by omega)
   have hl16:W.tasks.length+1<=16777216:=by omega
   have t1:((W.objs.map aQ.enc).take W.objs.length)=W.objs.map aQ.enc:=bQa (by simp)
   have t3:((W.outs.map bJ.enc).take W.outs.length)=W.outs.map bJ.enc:=bQa (by simp)
   have t4:((W.ins.map (Val.int .i64)).take W.ins.length)=W.ins.map (.int .i64):=bQa (by simp)
   simp only[qZ,eB,jL,bQs,bQj,bP1]at hE;have eU:=True.intro;have eI:=True.intro;rcases mU with⟨rfl,hu⟩|⟨gU,rfl,eU,lU,hu⟩<;>rcases mI with⟨rfl,hi⟩|⟨gI,rfl,eI,lI,hi⟩
   all_goals
    try rw[hu]at hE
    try rw[hi]at hE
    simp only[go_sem,kK,<-hg16,<-hg71,e8,kB,hwr,bM,dY,tE,kL,bCe,hl16,bPr,bPq]
    refine aH ?_
    simp only[go_sem,k2,k10,q10,e5,eU,eI,t1,t3,t4,bPr,bP9,bSd,bQa,bPq,nN.ret,hE.ret,kA,bPs,if_false];rfl
theorem aMg (h:eN p n=true):1<=n.op/\ n.op<=28:=by
 have:=oK h;unfold fK at this
 repeat' split at this
 all_goals omega
theorem aMh {q:Pat}{cons:List cS}(h:nL cons q=true):pS q<=1000:=by
 simp only[nL,bPp,bTe]at h;have:=aT6 q 12 (by omega) h.1
 omega
theorem aXk (h:inR i 0 ((l.length:Int)-1)=true):oU 2 en (.fz (l.map aD.enc)) (.i i)=some {v:= .fp [.i (aE l i.toNat).kind,.i (aE l i.toNat).n] 0}:=aDr (f:=aD.enc) (size:=2) jL h fun _=>rfl
theorem aXl (h:inR i 0 ((n.kids.length:Int)-1)=true):oU 1 en (.fz (n.kids.map (.int .i64))) (.i i)=some {v:= .fp [.i (oY n i)] 0}:=vB h
theorem aQ3 (h:0<n.kids.length):oU 1 en (.fz (n.kids.map (.int .i64))) (.i 0)=some {v:= .fp [.i (oY n 0)] 0}:=vB (i:=0) (by simp only[inR,bTe];omega)
theorem bEm (h:1<n.kids.length):oU 1 en (.fz (n.kids.map (.int .i64))) (.i 1)=some {v:= .fp [.i (oY n 1)] 0}:=vB (i:=1) (by simp only[inR,bTe];omega)
structure D0 (p:aF) (w0:aA) (S:Nat->Prop) (w:aA) (a:Int) (left:List aB) (f:aB) (n:aM) (k:Int):Prop where
 hp:dU p
 hsp:aR p=true
 h:cM p w0 S w
 ha:inR a 0 ((w.tasks.length:Int)-1)=true
 hl:LOk p S w left
 hf:FOk p S w f
 hn:p.node f.node=n
 hfull:(f.vals.length:Int)=n.asks
 hop:n.op=k
theorem D0.all {k:Int}(d:D0 p w0 S w a left f n k):dU p/\ aR p=true/\ cM p w0 S w/\ inR a 0 ((w.tasks.length:Int)-1)=true/\ LOk p S w left/\ FOk p S w f/\ p.node f.node=n/\ (f.vals.length:Int)=n.asks/\ n.op=k/\ Fit w a/\ inR f.node 0 ((p.nodes.length:Int)-1)=true/\ eN p n=true/\ (n.kids.length:Int)=fK n.op n.pats.length (pN p n)/\ left.length<=40/\ (f.env.length:Int)<=30:=by
 obtain⟨hp,hsp,h,ha,hl,hf,hn,hfull,hop⟩:=d;have hni:=fR hf;have hok:=hp.nodes _ (iV hni);rw[hn]at hok;have hfo:=hf.ok;simp only[dI,bA,bPp,bTe]at hfo;exact⟨hp,hsp,h,ha,hl,hf,hn,hfull,hop,vY h ha,hni,hok,oK hok,hl.len,hfo.1.2.1⟩
abbrev PD (p:aF)(w:aA)(a:Int)(left:List aB)(f:aB)(r:Did):Prop:=PC L 131 [.agg p.cs,.agg w.cs,.i a,.fz (left.map aB.enc),.agg [.i f.node,.fz (f.env.map aD.enc),.fz (f.vals.map aD.enc)]] (.agg [.fz (r.w.objs.map aQ.enc),.fz (r.w.tasks.map (.int .i64)),.fz (r.w.outs.map bJ.enc),.fz (r.w.ins.map (.int .i64)),.i r.w.used,.i r.what,.i r.e.task,.i r.e.act,.i r.e.n,.i r.e.v.kind,.i r.e.v.n])
noncomputable def gH :{c//L 131=some c}:=by
 have hL:=at_ func131
 conv at hL=>rhs;reduce
 exact⟨_,hL⟩
theorem bCl (d:D0 p w0 S w a left f n 1):PD p w a left f (bT p w a left f n):=by
 obtain⟨hp,hsp,h,ha,hl,hf,hn,hfull,hop,hfit,hni,hok,hkd,hlen,hfo⟩:=d.all;have e:bT p w a left f n=bV w a left (nG n.n):=by unfold bT;simp[hop]
 rw[e];have hB:=jW w a left (nG n.n) hfit
 refine aI gH.2 rfl rfl ?_
 simp only[go_sem,kK,gH]
 refine aH ?_
 simp only[go_sem,kK,hop,hn,bK hni,kA,bPs,if_false]
 refine aH ?_
 simp only[go_sem,(aEm _).ret,hB.ret,kA,bPs,if_false]
theorem bCm (d:D0 p w0 S w a left f n 2):PD p w a left f (bT p w a left f n):=by
 obtain⟨hp,hsp,h,ha,hl,hf,hn,hfull,hop,hfit,hni,hok,hkd,hlen,hfo⟩:=d.all;have e:bT p w a left f n=bV w a left (nM (decide (n.n=1))):=by unfold bT;simp[hop]
 rw[e];have hB:=jW w a left (nM (decide (n.n=1))) hfit
 refine aI gH.2 rfl rfl ?_
 simp only[go_sem,kK,gH]
 refine aH ?_
 simp only[go_sem,kK,hop,hn,bK hni,kA,bPs,if_false]
 refine aH ?_
 simp only[go_sem,(aJo _).ret,hB.ret,kA,bPs,if_false]
theorem bCn (d:D0 p w0 S w a left f n 3):PD p w a left f (bT p w a left f n):=by
 obtain⟨hp,hsp,h,ha,hl,hf,hn,hfull,hop,hfit,hni,hok,hkd,hlen,hfo⟩:=d.all;have e:bT p w a left f n=bV w a left bO:=by unfold bT;simp[hop]
 rw[e];have hB:=jW w a left bO hfit
 refine aI gH.2 rfl rfl ?_
 simp only[go_sem,kK,gH]
 refine aH ?_
 simp only[go_sem,kK,hop,hn,bK hni,kA,bPs,if_false]
 refine aH ?_
 simp only[go_sem,nN.ret,hB.ret,kA,bPs,if_false]
theorem bCo (d:D0 p w0 S w a left f n 4):PD p w a left f (bT p w a left f n):=by
 obtain⟨hp,hsp,h,ha,hl,hf,hn,hfull,hop,hfit,hni,hok,hkd,hlen,hfo⟩:=d.all;have e:bT p w a left f n=if n.n<0 then bV w a left ⟨4,-1-n.n⟩else if(f.env.length:Int)<=n.n then bE w a 2 else bV w a left (aE f.env n.n.toNat):=by unfold bT;simp[hop]
 rw[e];have hF:=gG w a 2 hfit;have hnum:oL p n=true:=by simp only[eN,bPp]at hok;exact hok.1.1.1
 simp only[oL,hop]at hnum;simp[inR]at hnum;have hwn:IntKind.i64.wrap (-1-n.n)= -1-n.n:=aW (by have:=hp.main;simp only[inR,bTe]at this;have hsl:=hsp;simp only[aR,bPp,bTe]at hsl;omega)
 by_cases hneg:n.n<0
 ·have d0:decide (n.n<0)=true:=D_t hneg;rw[if_pos hneg];have hB:=jW w a left ⟨4,-1-n.n⟩ hfit
  refine aI gH.2 rfl rfl ?_
  simp only[go_sem,kK,gH]
  refine aH ?_
  simp only[go_sem,kK,hop,hn,bK hni,d0,hwn,hB.ret,kA,bPs,if_false]
 ·have d0:decide (n.n<0)=false:=D_f hneg;rw[if_neg hneg]
  by_cases hge:(f.env.length:Int)<=n.n
  ·have d1:decide ((f.env.length:Int)<=n.n)=true:=D_t hge;rw[if_pos hge]
   refine aI gH.2 rfl rfl ?_
   simp only[go_sem,kK,gH]
   refine aH ?_
   simp only[go_sem,kK,hop,hn,bK hni,d0,d1,hF.ret,kA,bPs,if_false]
  ·have d1:decide ((f.env.length:Int)<=n.n)=false:=D_f hge;rw[if_neg hge];have hB:=jW w a left (aE f.env n.n.toNat) hfit;have hi:=aDr (f:=aD.enc) (size:=2) (k:= .i64) (l:=f.env) (i:=n.n) jL (by simp only[inR,bTe];omega) (fun _=>rfl) (en:=fun _=>none)
   refine aI gH.2 rfl rfl ?_
   simp only[go_sem,kK,gH]
   refine aH ?_
   simp only[go_sem,kK,hop,hn,bK hni,d0,d1,aXk (show inR n.n 0 ((f.env.length:Int)-1)=true by simp only[inR,bTe];omega),hB.ret,kA,bPs,if_false]
theorem bCp (d:D0 p w0 S w a left f n 5):PD p w a left f (bT p w a left f n):=by
 obtain⟨hp,hsp,h,ha,hl,hf,hn,hfull,hop,hfit,hni,hok,hkd,hlen,hfo⟩:=d.all;have e:bT p w a left f n=iN w a left ⟨2,f.node,f.env,[]⟩:=by unfold bT;simp[hop]
 rw[e];have hM:=aJq w a left ⟨2,f.node,f.env,[]⟩ hfit;simp only[bP1]at hM
 refine aI gH.2 rfl rfl ?_
 simp only[go_sem,kK,gH]
 refine aH ?_
 simp only[go_sem,kK,hop,hn,bK hni,hM.ret,kA,bPs,if_false]
theorem bCq (d:D0 p w0 S w a left f n 6):PD p w a left f (bT p w a left f n):=by
 obtain⟨hp,hsp,h,ha,hl,hf,hn,hfull,hop,hfit,hni,hok,hkd,hlen,hfo⟩:=d.all;have e:bT p w a left f n=fG p w a left (aE f.vals 0) (aE f.vals 1):=by unfold bT;simp[hop]
 rw[e];have hq:n.asks=2:=by simp[aM.asks,hop]
 have h0:0<f.vals.length:=by omega
 have h1:1<f.vals.length:=by omega
 have v0:=hf.vals (dJ h0);have v1:=hf.vals (dJ h1);have hA:=aV9 hp h ha hl v0 v1
 refine aI gH.2 rfl rfl ?_
 simp only[go_sem,kK,gH]
 refine aH ?_
 simp only[go_sem,kK,hop,hn,bK hni,aS h0,gK h1,hA.ret,kA,bPs,if_false]
theorem bCr (d:D0 p w0 S w a left f n 7):PD p w a left f (bT p w a left f n):=by
 obtain⟨hp,hsp,h,ha,hl,hf,hn,hfull,hop,hfit,hni,hok,hkd,hlen,hfo⟩:=d.all;have e:bT p w a left f n=gW w a left (oY n 1) (f.env++[aE f.vals 0]):=by unfold bT;simp[hop]
 rw[e];have hq:n.asks=1:=by simp[aM.asks,hop]
 have h0:0<f.vals.length:=by omega
 have hkc:(n.kids.length:Int)=2:=by rw[hkd];simp[fK,hop]
 have hk1:1<n.kids.length:=by omega
 have hM:=aF6 f.env (aE f.vals 0) (by omega)
 have hN:=aC8 w a left (oY n 1) (f.env++[aE f.vals 0]) hfit (by omega)
 refine aI gH.2 rfl rfl ?_
 simp only[go_sem,kK,gH]
 refine aH ?_
 simp only[go_sem,kK,hop,hn,bK hni,kA,bPs,if_false]
 refine aH ?_
 simp only[go_sem,aS h0,bEm hk1,hM.ret,hN.ret,kA,bPs,if_false]
theorem bCs (d:D0 p w0 S w a left f n 8):PD p w a left f (bT p w a left f n):=by
 obtain⟨hp,hsp,h,ha,hl,hf,hn,hfull,hop,hfit,hni,hok,hkd,hlen,hfo⟩:=d.all;have e:bT p w a left f n=if¬(aE f.vals 0).kind=2 then bE w a 2 else gW w a left (oY n (2-(aE f.vals 0).n)) f.env:=by unfold bT;simp[hop]
 rw[e];have hF:=gG w a 2 hfit;have hq:n.asks=1:=by simp[aM.asks,hop]
 have h0:0<f.vals.length:=by omega
 have v0:=hf.vals (dJ h0);have hkc:(n.kids.length:Int)=3:=by rw[hkd];simp[fK,hop]
 by_cases hk2:(aE f.vals 0).kind=2
 ·have d1:decide ((aE f.vals 0).kind=2)=true:=D_t hk2;rw[if_neg (fun h=>h hk2)]
  have hvo:=v0.ok;simp only[dM,hk2]at hvo;simp[inR]at hvo;have hw2:IntKind.i64.wrap (2-(aE f.vals 0).n)=2-(aE f.vals 0).n:=aW (by omega)
  have hN:=aC8 w a left (oY n (2-(aE f.vals 0).n)) f.env hfit (by omega)
  refine aI gH.2 rfl rfl ?_
  simp only[go_sem,kK,gH]
  refine aH ?_
  simp only[go_sem,kK,hop,hn,bK hni,aS h0,d1,hw2,aXl (show inR (2-(aE f.vals 0).n) 0 ((n.kids.length:Int)-1)=true by simp only[inR,bTe];omega),hN.ret,kA,bPs,if_false]
 ·have d1:decide ((aE f.vals 0).kind=2)=false:=D_f hk2;rw[if_pos hk2]
  refine aI gH.2 rfl rfl ?_
  simp only[go_sem,kK,gH]
  refine aH ?_
  simp only[go_sem,kK,hop,hn,bK hni,aS h0,d1,hF.ret,kA,bPs,if_false]
theorem bCt (d:D0 p w0 S w a left f n 9):PD p w a left f (bT p w a left f n):=by
 obtain⟨hp,hsp,h,ha,hl,hf,hn,hfull,hop,hfit,hni,hok,hkd,hlen,hfo⟩:=d.all;have e:bT p w a left f n=cJ w a left 9 (aE f.vals 0) (aE f.vals 1):=by unfold bT;simp[hop]
 rw[e];have hq:n.asks=2:=by simp[aM.asks,hop]
 have h0:0<f.vals.length:=by omega
 have h1:1<f.vals.length:=by omega
 have v0:=hf.vals (dJ h0);have v1:=hf.vals (dJ h1);have hA:=wA (left:=left) (op:=9) h ha v0 v1 (by omega)
 refine aI gH.2 rfl rfl ?_
 simp only[go_sem,kK,gH]
 refine aH ?_
 simp only[go_sem,kK,hop,hn,bK hni,aS h0,gK h1,hA.ret,kA,bPs,if_false]
theorem aZb (d:D0 p w0 S w a left f n 10):PD p w a left f (bT p w a left f n):=by
 obtain⟨hp,hsp,h,ha,hl,hf,hn,hfull,hop,hfit,hni,hok,hkd,hlen,hfo⟩:=d.all;have e:bT p w a left f n=cJ w a left 10 (aE f.vals 0) (aE f.vals 1):=by unfold bT;simp[hop]
 rw[e];have hq:n.asks=2:=by simp[aM.asks,hop]
 have h0:0<f.vals.length:=by omega
 have h1:1<f.vals.length:=by omega
 have v0:=hf.vals (dJ h0);have v1:=hf.vals (dJ h1);have hA:=wA (left:=left) (op:=10) h ha v0 v1 (by omega)
 refine aI gH.2 rfl rfl ?_
 simp only[go_sem,kK,gH]
 refine aH ?_
 simp only[go_sem,kK,hop,hn,bK hni,aS h0,gK h1,hA.ret,kA,bPs,if_false]
theorem aZc (d:D0 p w0 S w a left f n 11):PD p w a left f (bT p w a left f n):=by
 obtain⟨hp,hsp,h,ha,hl,hf,hn,hfull,hop,hfit,hni,hok,hkd,hlen,hfo⟩:=d.all;have e:bT p w a left f n=cJ w a left 11 (aE f.vals 0) (aE f.vals 1):=by unfold bT;simp[hop]
 rw[e];have hq:n.asks=2:=by simp[aM.asks,hop]
 have h0:0<f.vals.length:=by omega
 have h1:1<f.vals.length:=by omega
 have v0:=hf.vals (dJ h0);have v1:=hf.vals (dJ h1);have hA:=wA (left:=left) (op:=11) h ha v0 v1 (by omega)
 refine aI gH.2 rfl rfl ?_
 simp only[go_sem,kK,gH]
 refine aH ?_
 simp only[go_sem,kK,hop,hn,bK hni,aS h0,gK h1,hA.ret,kA,bPs,if_false]
theorem aZd (d:D0 p w0 S w a left f n 12):PD p w a left f (bT p w a left f n):=by
 obtain⟨hp,hsp,h,ha,hl,hf,hn,hfull,hop,hfit,hni,hok,hkd,hlen,hfo⟩:=d.all;have e:bT p w a left f n=cJ w a left 12 (aE f.vals 0) (aE f.vals 1):=by unfold bT;simp[hop]
 rw[e];have hq:n.asks=2:=by simp[aM.asks,hop]
 have h0:0<f.vals.length:=by omega
 have h1:1<f.vals.length:=by omega
 have v0:=hf.vals (dJ h0);have v1:=hf.vals (dJ h1);have hA:=wA (left:=left) (op:=12) h ha v0 v1 (by omega)
 refine aI gH.2 rfl rfl ?_
 simp only[go_sem,kK,gH]
 refine aH ?_
 simp only[go_sem,kK,hop,hn,bK hni,aS h0,gK h1,hA.ret,kA,bPs,if_false]
theorem aZe (d:D0 p w0 S w a left f n 13):PD p w a left f (bT p w a left f n):=by
 obtain⟨hp,hsp,h,ha,hl,hf,hn,hfull,hop,hfit,hni,hok,hkd,hlen,hfo⟩:=d.all;have e:bT p w a left f n=cJ w a left 13 (aE f.vals 0) (aE f.vals 1):=by unfold bT;simp[hop]
 rw[e];have hq:n.asks=2:=by simp[aM.asks,hop]
 have h0:0<f.vals.length:=by omega
 have h1:1<f.vals.length:=by omega
 have v0:=hf.vals (dJ h0);have v1:=hf.vals (dJ h1);have hA:=wA (left:=left) (op:=13) h ha v0 v1 (by omega)
 refine aI gH.2 rfl rfl ?_
 simp only[go_sem,kK,gH]
 refine aH ?_
 simp only[go_sem,kK,hop,hn,bK hni,aS h0,gK h1,hA.ret,kA,bPs,if_false]
theorem aZf (d:D0 p w0 S w a left f n 14):PD p w a left f (bT p w a left f n):=by
 obtain⟨hp,hsp,h,ha,hl,hf,hn,hfull,hop,hfit,hni,hok,hkd,hlen,hfo⟩:=d.all;have e:bT p w a left f n=iN w a left ⟨1,n.n,f.vals,[]⟩:=by unfold bT;simp[hop]
 rw[e];have hM:=aJq w a left ⟨1,n.n,f.vals,[]⟩ hfit;simp only[bP1]at hM
 refine aI gH.2 rfl rfl ?_
 simp only[go_sem,kK,gH]
 refine aH ?_
 simp only[go_sem,kK,hop,hn,bK hni,hM.ret,kA,bPs,if_false]
theorem aZg (d:D0 p w0 S w a left f n 15):PD p w a left f (bT p w a left f n):=by
 obtain⟨hp,hsp,h,ha,hl,hf,hn,hfull,hop,hfit,hni,hok,hkd,hlen,hfo⟩:=d.all;have e:bT p w a left f n=kR w a left n f.env (aE f.vals 0):=by unfold bT;simp[hop]
 rw[e];have hq:n.asks=1:=by simp[aM.asks,hop]
 have h0:0<f.vals.length:=by omega
 have v0:=hf.vals (dJ h0);have hkc:(n.kids.length:Int)=1+n.pats.length:=by rw[hkd];simp[fK,hop]
 have hsn:gE n=true:=by rw[<-hn];simp only[aR,bPp,bPv]at hsp;exact hsp.2 _ (iV hni)
 simp only[gE,bPp,bTe]at hsn;have hpf: ∀q∈n.pats,pS q<=1000:=fun q hq=>by simp only[eN,bPp,bPv]at hok;exact aMh (hok.1.2 q hq)
 have hA:=aWa h ha hl n f.env v0 (by omega) (by omega) hpf (by omega)
 rw[hop]at hA
 refine aI gH.2 rfl rfl ?_
 simp only[go_sem,kK,gH]
 refine aH ?_
 simp only[go_sem,kK,hop,hn,bK hni,aS h0,hA.ret,kA,bPs,if_false]
theorem aZh (d:D0 p w0 S w a left f n 26):PD p w a left f (bT p w a left f n):=by
 obtain⟨hp,hsp,h,ha,hl,hf,hn,hfull,hop,hfit,hni,hok,hkd,hlen,hfo⟩:=d.all;have e:bT p w a left f n=bV w a left (aE f.vals 0):=by unfold bT;simp[hop]
 rw[e];have hq:n.asks=1:=by simp[aM.asks,hop]
 have h0:0<f.vals.length:=by omega
 have hB:=jW w a left (aE f.vals 0) hfit
 refine aI gH.2 rfl rfl ?_
 simp only[go_sem,kK,gH]
 refine aH ?_
 simp only[go_sem,kK,hop,hn,bK hni,aS h0,hB.ret,kA,bPs,if_false]
theorem aZi (d:D0 p w0 S w a left f n 27):PD p w a left f (bT p w a left f n):=by
 obtain⟨hp,hsp,h,ha,hl,hf,hn,hfull,hop,hfit,hni,hok,hkd,hlen,hfo⟩:=d.all;have e:bT p w a left f n=fH p w a left (oY n 0) f.env:=by unfold bT;simp[hop]
 rw[e];have hkc:(n.kids.length:Int)=1:=by rw[hkd];simp[fK,hop]
 have hk0:0<n.kids.length:=by omega
 have hA:=aWb h ha hl (kid:=oY n 0) (env:=f.env) (by omega)
 refine aI gH.2 rfl rfl ?_
 simp only[go_sem,kK,gH]
 refine aH ?_
 simp only[go_sem,kK,hop,hn,bK hni,aQ3 hk0,hA.ret,kA,bPs,if_false]
theorem aZj (d:D0 p w0 S w a left f n 16):PD p w a left f (bT p w a left f n):=by
 obtain⟨hp,hsp,h,ha,hl,hf,hn,hfull,hop,hfit,hni,hok,hkd,hlen,hfo⟩:=d.all;have e:bT p w a left f n=eS w a left 16 f.vals:=by unfold bT;simp[hop]
 rw[e];have hq:n.asks=1:=by simp[aM.asks,hop]
 have h0:0<f.vals.length:=by omega
 have hA:=aHv (left:=left) (op:=16) h ha (fun v hv=>hf.vals hv) h0 (by omega)
 refine aI gH.2 rfl rfl ?_
 simp only[go_sem,kK,gH]
 refine aH ?_
 simp only[go_sem,kK,hop,hn,bK hni,hA.ret,kA,bPs,if_false]
theorem aZk (d:D0 p w0 S w a left f n 17):PD p w a left f (bT p w a left f n):=by
 obtain⟨hp,hsp,h,ha,hl,hf,hn,hfull,hop,hfit,hni,hok,hkd,hlen,hfo⟩:=d.all;have e:bT p w a left f n=eS w a left 17 f.vals:=by unfold bT;simp[hop]
 rw[e];have hq:n.asks=1:=by simp[aM.asks,hop]
 have h0:0<f.vals.length:=by omega
 have hA:=aHv (left:=left) (op:=17) h ha (fun v hv=>hf.vals hv) h0 (by omega)
 refine aI gH.2 rfl rfl ?_
 simp only[go_sem,kK,gH]
 refine aH ?_
 simp only[go_sem,kK,hop,hn,bK hni,hA.ret,kA,bPs,if_false]
theorem aZl (d:D0 p w0 S w a left f n 18):PD p w a left f (bT p w a left f n):=by
 obtain⟨hp,hsp,h,ha,hl,hf,hn,hfull,hop,hfit,hni,hok,hkd,hlen,hfo⟩:=d.all;have e:bT p w a left f n=eS w a left 18 f.vals:=by unfold bT;simp[hop]
 rw[e];have hq:n.asks=2:=by simp[aM.asks,hop]
 have h0:0<f.vals.length:=by omega
 have hA:=aHv (left:=left) (op:=18) h ha (fun v hv=>hf.vals hv) h0 (by omega)
 refine aI gH.2 rfl rfl ?_
 simp only[go_sem,kK,gH]
 refine aH ?_
 simp only[go_sem,kK,hop,hn,bK hni,hA.ret,kA,bPs,if_false]
theorem aZm (d:D0 p w0 S w a left f n 19):PD p w a left f (bT p w a left f n):=by
 obtain⟨hp,hsp,h,ha,hl,hf,hn,hfull,hop,hfit,hni,hok,hkd,hlen,hfo⟩:=d.all;have e:bT p w a left f n=eK p w a left (aE f.vals 0):=by unfold bT;simp[hop]
 rw[e];have hq:n.asks=1:=by simp[aM.asks,hop]
 have h0:0<f.vals.length:=by omega
 have v0:=hf.vals (dJ h0);have hA:=aWc (left:=left) hp h ha v0
 refine aI gH.2 rfl rfl ?_
 simp only[go_sem,kK,gH]
 refine aH ?_
 simp only[go_sem,kK,hop,hn,bK hni,aS h0,hA.ret,kA,bPs,if_false]
theorem aZn (d:D0 p w0 S w a left f n 20):PD p w a left f (bT p w a left f n):=by
 obtain⟨hp,hsp,h,ha,hl,hf,hn,hfull,hop,hfit,hni,hok,hkd,hlen,hfo⟩:=d.all;have e:bT p w a left f n=gJ w a left (aE f.vals 0):=by unfold bT;simp[hop]
 rw[e];have hq:n.asks=1:=by simp[aM.asks,hop]
 have h0:0<f.vals.length:=by omega
 have v0:=hf.vals (dJ h0);have hA:=aZa (left:=left) h ha v0
 refine aI gH.2 rfl rfl ?_
 simp only[go_sem,kK,gH]
 refine aH ?_
 simp only[go_sem,kK,hop,hn,bK hni,aS h0,hA.ret,kA,bPs,if_false]
theorem aZo (d:D0 p w0 S w a left f n 21):PD p w a left f (bT p w a left f n):=by
 obtain⟨hp,hsp,h,ha,hl,hf,hn,hfull,hop,hfit,hni,hok,hkd,hlen,hfo⟩:=d.all;have e:bT p w a left f n=dF (iN w a left ⟨4,0,[],[]⟩) a 21 0 bO:=by unfold bT;simp[hop]
 rw[e];have hM:=aJq w a left ⟨4,0,[],[]⟩ hfit;have hE:=nC (iN w a left ⟨4,0,[],[]⟩) a 21 0 bO;simp only[bP1]at hM
 refine aI gH.2 rfl rfl ?_
 simp only[go_sem,kK,gH]
 refine aH ?_
 simp only[go_sem,kK,hop,hn,bK hni,kA,bPs,if_false]
 refine aH ?_
 simp only[go_sem,hM.ret,nN.ret,hE.ret,kA,bPs,if_false]
theorem aZp (d:D0 p w0 S w a left f n 22):PD p w a left f (bT p w a left f n):=by
 obtain⟨hp,hsp,h,ha,hl,hf,hn,hfull,hop,hfit,hni,hok,hkd,hlen,hfo⟩:=d.all;have e:bT p w a left f n=cD w a left 22 f.vals:=by unfold bT;simp[hop]
 rw[e];have hq:n.asks=2:=by simp[aM.asks,hop]
 have h0:0<f.vals.length:=by omega
 have hA:=aGn (left:=left) (op:=22) h ha (fun v hv=>hf.vals hv) h0 (by omega)
 refine aI gH.2 rfl rfl ?_
 simp only[go_sem,kK,gH]
 refine aH ?_
 simp only[go_sem,kK,hop,hn,bK hni,hA.ret,kA,bPs,if_false]
theorem aZq (d:D0 p w0 S w a left f n 23):PD p w a left f (bT p w a left f n):=by
 obtain⟨hp,hsp,h,ha,hl,hf,hn,hfull,hop,hfit,hni,hok,hkd,hlen,hfo⟩:=d.all;have e:bT p w a left f n=cD w a left 23 f.vals:=by unfold bT;simp[hop]
 rw[e];have hq:n.asks=1:=by simp[aM.asks,hop]
 have h0:0<f.vals.length:=by omega
 have hA:=aGn (left:=left) (op:=23) h ha (fun v hv=>hf.vals hv) h0 (by omega)
 refine aI gH.2 rfl rfl ?_
 simp only[go_sem,kK,gH]
 refine aH ?_
 simp only[go_sem,kK,hop,hn,bK hni,hA.ret,kA,bPs,if_false]
theorem aZr (d:D0 p w0 S w a left f n 24):PD p w a left f (bT p w a left f n):=by
 obtain⟨hp,hsp,h,ha,hl,hf,hn,hfull,hop,hfit,hni,hok,hkd,hlen,hfo⟩:=d.all;have e:bT p w a left f n=dH w a left 24 n.n f.vals:=by unfold bT;simp[hop]
 rw[e];have hq:n.asks=1:=by simp[aM.asks,hop]
 have h0:0<f.vals.length:=by omega
 have hA:=aMf (left:=left) h ha n (fun v hv=>hf.vals hv) (.inr ⟨hop,h0⟩)
 rw[hop]at hA
 refine aI gH.2 rfl rfl ?_
 simp only[go_sem,kK,gH]
 refine aH ?_
 simp only[go_sem,kK,hop,hn,bK hni,hA.ret,kA,bPs,if_false]
theorem aZs (d:D0 p w0 S w a left f n 25):PD p w a left f (bT p w a left f n):=by
 obtain⟨hp,hsp,h,ha,hl,hf,hn,hfull,hop,hfit,hni,hok,hkd,hlen,hfo⟩:=d.all;have e:bT p w a left f n=dH w a left 25 n.n f.vals:=by unfold bT;simp[hop]
 rw[e];have hA:=aMf (left:=left) h ha n (fun v hv=>hf.vals hv) (.inl hop)
 rw[hop]at hA
 refine aI gH.2 rfl rfl ?_
 simp only[go_sem,kK,gH]
 refine aH ?_
 simp only[go_sem,kK,hop,hn,bK hni,hA.ret,kA,bPs,if_false]
theorem aZt (d:D0 p w0 S w a left f n 28):PD p w a left f (bT p w a left f n):=by
 obtain⟨hp,hsp,h,ha,hl,hf,hn,hfull,hop,hfit,hni,hok,hkd,hlen,hfo⟩:=d.all;have e:bT p w a left f n=dF (bV w a left bO) a 28 0 bO:=by unfold bT;simp[hop]
 rw[e];have hB:=jW w a left bO hfit;have hE:=nC (bV w a left bO) a 28 0 bO
 refine aI gH.2 rfl rfl ?_
 simp only[go_sem,kK,gH]
 refine aH ?_
 simp only[go_sem,kK,hop,hn,bK hni,kA,bPs,if_false]
 refine aH ?_
 simp only[go_sem,nN.ret,hB.ret,hE.ret,kA,bPs,if_false]
theorem bEn (hp:dU p)(hsp:aR p=true)(h:cM p w0 S w)(ha:inR a 0 ((w.tasks.length:Int)-1)=true)(hl:LOk p S w left)(hf:FOk p S w f)(hfull:(f.vals.length:Int)=(p.node f.node).asks):
  PC L 131 [.agg p.cs,.agg w.cs,.i a,.fz (left.map aB.enc),.agg [.i f.node,.fz (f.env.map aD.enc),.fz (f.vals.map aD.enc)]] (.agg [.fz ((rN p w a left f).w.objs.map aQ.enc),.fz ((rN p w a left f).w.tasks.map (.int .i64)),.fz ((rN p w a left f).w.outs.map bJ.enc),.fz ((rN p w a left f).w.ins.map (.int .i64)),.i (rN p w a left f).w.used,.i (rN p w a left f).what,.i (rN p w a left f).e.task,.i (rN p w a left f).e.act,.i (rN p w a left f).e.n,.i (rN p w a left f).e.v.kind,.i (rN p w a left f).e.v.n]):=by
 obtain⟨o1,o2⟩:=aMg (hp.nodes _ (iV (fR hf)));have ho:(p.node f.node).op=1 \/(p.node f.node).op=2 \/(p.node f.node).op=3 \/(p.node f.node).op=4 \/(p.node f.node).op=5 \/(p.node f.node).op=6 \/(p.node f.node).op=7 \/(p.node f.node).op=8 \/(p.node f.node).op=9 \/(p.node f.node).op=10 \/(p.node f.node).op=11 \/(p.node f.node).op=12 \/(p.node f.node).op=13 \/(p.node f.node).op=14 \/(p.node f.node).op=15 \/(p.node f.node).op=16 \/(p.node f.node).op=17 \/(p.node f.node).op=18 \/(p.node f.node).op=19 \/(p.node f.node).op=20 \/(p.node f.node).op=21 \/(p.node f.node).op=22 \/(p.node f.node).op=23 \/(p.node f.node).op=24 \/(p.node f.node).op=25 \/(p.node f.node).op=26 \/(p.node f.node).op=27 \/(p.node f.node).op=28:=by omega
 unfold rN;rcases ho with ho|ho|ho|ho|ho|ho|ho|ho|ho|ho|ho|ho|ho|ho|ho|ho|ho|ho|ho|ho|ho|ho|ho|ho|ho|ho|ho|ho
 ·exact bCl ⟨hp,hsp,h,ha,hl,hf,rfl,hfull,ho⟩
 ·exact bCm ⟨hp,hsp,h,ha,hl,hf,rfl,hfull,ho⟩
 ·exact bCn ⟨hp,hsp,h,ha,hl,hf,rfl,hfull,ho⟩
 ·exact bCo ⟨hp,hsp,h,ha,hl,hf,rfl,hfull,ho⟩
 ·exact bCp ⟨hp,hsp,h,ha,hl,hf,rfl,hfull,ho⟩
 ·exact bCq ⟨hp,hsp,h,ha,hl,hf,rfl,hfull,ho⟩
 ·exact bCr ⟨hp,hsp,h,ha,hl,hf,rfl,hfull,ho⟩
 ·exact bCs ⟨hp,hsp,h,ha,hl,hf,rfl,hfull,ho⟩
 ·exact bCt ⟨hp,hsp,h,ha,hl,hf,rfl,hfull,ho⟩
 ·exact aZb ⟨hp,hsp,h,ha,hl,hf,rfl,hfull,ho⟩
 ·exact aZc ⟨hp,hsp,h,ha,hl,hf,rfl,hfull,ho⟩
 ·exact aZd ⟨hp,hsp,h,ha,hl,hf,rfl,hfull,ho⟩
 ·exact aZe ⟨hp,hsp,h,ha,hl,hf,rfl,hfull,ho⟩
 ·exact aZf ⟨hp,hsp,h,ha,hl,hf,rfl,hfull,ho⟩
 ·exact aZg ⟨hp,hsp,h,ha,hl,hf,rfl,hfull,ho⟩
 ·exact aZj ⟨hp,hsp,h,ha,hl,hf,rfl,hfull,ho⟩
 ·exact aZk ⟨hp,hsp,h,ha,hl,hf,rfl,hfull,ho⟩
 ·exact aZl ⟨hp,hsp,h,ha,hl,hf,rfl,hfull,ho⟩
 ·exact aZm ⟨hp,hsp,h,ha,hl,hf,rfl,hfull,ho⟩
 ·exact aZn ⟨hp,hsp,h,ha,hl,hf,rfl,hfull,ho⟩
 ·exact aZo ⟨hp,hsp,h,ha,hl,hf,rfl,hfull,ho⟩
 ·exact aZp ⟨hp,hsp,h,ha,hl,hf,rfl,hfull,ho⟩
 ·exact aZq ⟨hp,hsp,h,ha,hl,hf,rfl,hfull,ho⟩
 ·exact aZr ⟨hp,hsp,h,ha,hl,hf,rfl,hfull,ho⟩
 ·exact aZs ⟨hp,hsp,h,ha,hl,hf,rfl,hfull,ho⟩
 ·exact aZh ⟨hp,hsp,h,ha,hl,hf,rfl,hfull,ho⟩
 ·exact aZi ⟨hp,hsp,h,ha,hl,hf,rfl,hfull,ho⟩
 ·exact aZt ⟨hp,hsp,h,ha,hl,hf,rfl,hfull,ho⟩
variable {V:Val}{g:Nat}
section
theorem aMi (h:TS kt kr en cnt p w a left f n back bv)(hp:dU p)(hF:cM p w0 S w)(hu:VOk p S w u)(hb:eP p w u v=some b)(hc:b.env.length<=30):
  WIn L (.fn 328 [] []) [.ptr kt 0,.agg [.i u.kind,.i u.n],.agg [.i v.kind,.i v.n]] en cnt fun r en' cnt'=>(∃ev,iO ev (b.env.map aD.enc)/\ b.vals=[]/\ r= .tup [.agg [.i b.node,ev,.cl []],.bool true])/\ (∃bv',TS kt kr en' cnt' p w a left f n back bv')/\ dT kt kr en cnt en' cnt':=by
 have H:=h.pre;have ht:=h.t;have hr:=h.r;have hL:=at_ func328
 conv at hL=>rhs;reduce
 refine bD hL rfl rfl ?_
 unfold eP at hb
 by_cases h4:u.kind=4
 ·rw[if_pos h4]at hb;simp only[bPo]at hb;subst hb;have d4:decide (u.kind=4)=true:=D_t h4;have hfn:inR u.n 0 ((p.funs.length:Int)-1)=true:=by
   have:=hu.ok;simp only[dM,h4]at this
   simpa using this
  simp only[go_sem,kK,d4]
  refine aH ?_
  simp only[go_sem,ht,hr,H,kB,vB hfn,kA,kF];exact⟨⟨_,.inr rfl,rfl⟩,h.stay (fun k hk=>by simp only[hk.set]) (by(repeat refine upS ?_ (by omega));exact aO _)⟩
 ·rw[if_neg h4]at hb;have d4:decide (u.kind=4)=false:=D_f h4
  split at hb
  case isFalse=>cases hb
  rename_i h2;simp only[bPo]at hb;subst hb;obtain⟨a1,a2,a3,a4⟩:=fI hF hu h2;have hk:=a2.ok;simp only[dQ,a3]at hk
  simp at hk
  obtain⟨_,⟨b1,b2⟩,b3⟩:=hk;have hkk:=oK (hp.nodes _ (iV b1));rw[b2]at hkk;simp[fK]at hkk;have hk0:inR 0 0 (((p.node (w.obj u.n).n).kids.length:Int)-1)=true:=by simp only[inR,bTe];omega
  simp only[bP9,bPy,bP7]at hc;have hW:PC L 330 [.fz ((w.obj u.n).vals.map aD.enc),.fz [.agg [.i v.kind,.i v.n]]] (.fz (((w.obj u.n).vals++[v]).map aD.enc)):=aGc (w.obj u.n).vals [v] (by simpa using hc)
  simp only[go_sem,kK,d4];obtain⟨⟨bv1,h1⟩,k1⟩:=h.stay (cnt':=aC (aC (aC cnt 0 4 (cnt 0 4+1)) 0 5 (cnt 0 5+1)) 0 6 (cnt 0 6+1)) (en':=((en.set ⟨0,4,cnt 0 4⟩ (some (.box [.i u.kind,.i u.n] false))).set ⟨0,5,cnt 0 5⟩ (some (.box [.i v.kind,.i v.n] false))).set ⟨0,6,cnt 0 6⟩ (some (.box [.i 0,.cl [],.cl []] false))) (fun k hk=>by simp only[hk.set]) (by(repeat refine upS ?_ (by omega));exact aO _)
  refine(rW h1 (fZ hu) 2).mono ?_
  rintro r e1 c1 ⟨⟨x,rfl,hx⟩,⟨bv2,h2'⟩,k2⟩
  rcases hx with⟨_,hx⟩|⟨rfl,_⟩
  ·rw[h2]at hx;cases hx
  obtain⟨p5,q5⟩:=k2.loc (d:=5) (g:=cnt 0 5) (by simp only[go_sem];omega) h.okt.ne.symm h.okr.ne.symm
  obtain⟨p6,q6⟩:=k2.loc (d:=6) (g:=cnt 0 6) (by simp only[go_sem];omega) h.okt.ne.symm h.okr.ne.symm
  simp only[go_sem]at p5 p6;have ht2:=h2'.t;have hr2:=h2'.r;have z1:=h2'.okt.set;have z2:=h2'.okr.set;simp only[go_sem,kK,h2]
  refine jQ ?_
  simp only[go_sem,ht2,hr2,z1,z2,p5,p6,q5.set,q6.set,bK b1,aQ3 (n:=p.node (w.obj u.n).n) (by omega),hW.ret,kA,kF]
  exact⟨⟨_,.inl rfl,rfl⟩,h.fin h2' (k1.trans k2) (fun k hk hj=>by simp only[hk.set,hj.set]) (by(repeat refine upS ?_ (by omega));exact aO _)⟩
theorem aI2 (h:TS kt kr en cnt p w a left f n back bv)(hu:VOk p S w u)(hb:eP p w u v=none):
  WIn L (.fn 328 [] []) [.ptr kt 0,.agg [.i u.kind,.i u.n],.agg [.i v.kind,.i v.n]] en cnt fun r en' cnt'=>(∃x,r= .tup [.agg [.i 0,.cl [],.cl []],.bool x]/\ x=false)/\ (∃bv',TS kt kr en' cnt' p w a left f n back bv')/\ dT kt kr en cnt en' cnt':=by
 have H:=h.pre;have hL:=at_ func328
 conv at hL=>rhs;reduce
 refine bD hL rfl rfl ?_
 unfold eP at hb
 by_cases h4:u.kind=4
 ·rw[if_pos h4]at hb;cases hb
 rw[if_neg h4]at hb;have d4:decide (u.kind=4)=false:=D_f h4
 split at hb
 case isTrue=>cases hb
 rename_i h2;rw[bQ0]at h2;simp only[go_sem,kK,d4];obtain⟨⟨bv1,h1⟩,k1⟩:=h.stay (cnt':=aC (aC (aC cnt 0 4 (cnt 0 4+1)) 0 5 (cnt 0 5+1)) 0 6 (cnt 0 6+1)) (en':=((en.set ⟨0,4,cnt 0 4⟩ (some (.box [.i u.kind,.i u.n] false))).set ⟨0,5,cnt 0 5⟩ (some (.box [.i v.kind,.i v.n] false))).set ⟨0,6,cnt 0 6⟩ (some (.box [.i 0,.cl [],.cl []] false))) (fun k hk=>by simp only[hk.set]) (by(repeat refine upS ?_ (by omega));exact aO _)
 refine(rW h1 (fZ hu) 2).mono ?_
 rintro r e1 c1 ⟨⟨x,rfl,hx⟩,⟨bv2,h2'⟩,k2⟩
 rcases hx with⟨rfl,_⟩|⟨_,hx⟩
 case inr=>rw[h2]at hx;cases hx
 obtain⟨p6,q6⟩:=k2.loc (d:=6) (g:=cnt 0 6) (by simp only[go_sem];omega) h.okt.ne.symm h.okr.ne.symm
 simp only[go_sem]at p6;simp only[go_sem,kK,h2,p6,q6.set];exact⟨⟨false,rfl,rfl⟩,h.fin h2' (k1.trans k2) (fun k hk hj=>by simp only[hk.set,hj.set]) (by(repeat refine upS ?_ (by omega));exact aO _)⟩
theorem aMj (h:TS kt kr en cnt p w a left f n back bv)(hp:dU p)(hF:cM p w0 S w)(hu:VOk p S w u)(hb:eP p w u v=some b)(hc:30<b.env.length):
  xQ L 328 [.ptr kt 0,.agg [.i u.kind,.i u.n],.agg [.i v.kind,.i v.n]] en cnt (pP kt kr en cnt p 4):=by
 have H:=h.pre;have hL:=at_ func328
 conv at hL=>rhs;reduce
 refine cC hL rfl rfl ?_
 unfold eP at hb
 by_cases h4:u.kind=4
 ·rw[if_pos h4]at hb;simp only[bPo]at hb;subst hb
  simp at hc
 rw[if_neg h4]at hb;have d4:decide (u.kind=4)=false:=D_f h4
 split at hb
 case isFalse=>cases hb
 rename_i h2;simp only[bPo]at hb;subst hb;obtain⟨a1,a2,a3,a4⟩:=fI hF hu h2;have hk:=a2.ok;simp only[dQ,a3]at hk
 simp at hk
 obtain⟨_,⟨b1,b2⟩,b3⟩:=hk;have hlen:=aEo a2.ok;have hkk:=oK (hp.nodes _ (iV b1));rw[b2]at hkk;simp[fK]at hkk;simp only[bP9,bPy,bP7]at hc;have hW:PX L 330 [.fz ((w.obj u.n).vals.map aD.enc),.fz [.agg [.i v.kind,.i v.n]]] (aF7 4):=aJp (w.obj u.n).vals [v] (by simpa using hc) (by simp only[bPy,bP7];omega)
 simp only[go_sem,kK,d4];obtain⟨⟨bv1,h1⟩,k1⟩:=h.stay (cnt':=aC (aC (aC cnt 0 4 (cnt 0 4+1)) 0 5 (cnt 0 5+1)) 0 6 (cnt 0 6+1)) (en':=((en.set ⟨0,4,cnt 0 4⟩ (some (.box [.i u.kind,.i u.n] false))).set ⟨0,5,cnt 0 5⟩ (some (.box [.i v.kind,.i v.n] false))).set ⟨0,6,cnt 0 6⟩ (some (.box [.i 0,.cl [],.cl []] false))) (fun k hk=>by simp only[hk.set]) (by(repeat refine upS ?_ (by omega));exact aO _)
 refine(rW h1 (fZ hu) 2).mono ?_
 rintro r e1 c1 ⟨⟨x,rfl,hx⟩,⟨bv2,h2'⟩,k2⟩
 rcases hx with⟨_,hx⟩|⟨rfl,_⟩
 ·rw[h2]at hx;cases hx
 obtain⟨p5,q5⟩:=k2.loc (d:=5) (g:=cnt 0 5) (by simp only[go_sem];omega) h.okt.ne.symm h.okr.ne.symm
 simp only[go_sem]at p5;have ht2:=h2'.t;have hr2:=h2'.r;have z1:=h2'.okt.set;have z2:=h2'.okr.set;simp only[go_sem,kK,h2]
 refine mF 19 rfl rfl ?_
 simp only[go_sem,bP0,bPw,ht2,hr2,z1,z2,p5,q5.set,bK b1,aQ3 (n:=p.node (w.obj u.n).n) (by omega),hW.ret,bQ5,bQ4,sI,kA,kF]
 exact⟨rfl,h.fell h2' (k1.trans k2) (fun k hk hj=>by simp only[hj.set]) (by(repeat refine upS ?_ (by omega));exact aO _)⟩
def aO0 :Option iD->Val
 |none=>aQo
 |some e=>aIz e
def rI (fn:Nat)(kt kr:Key)(en:En)(cnt:Nat->Nat->Nat)(p:aF)(w:aA)(a:Int)(left:List aB)(f:aB)(n:aM):OpR->Prop
 | .go ev w' left' back=>WIn L (.fn fn [] []) [.ptr kt 0] en cnt fun r en' cnt'=>r=aO0 ev/\ (∃bv',TS kt kr en' cnt' p w' a left' f n back bv')/\ dT kt kr en cnt en' cnt'
 | .wait=>WIn L (.fn fn [] []) [.ptr kt 0] en cnt fun r en' cnt'=>r=aXc/\ (∃bv',TS kt kr en' cnt' p w a left f n [] bv')/\ dT kt kr en cnt en' cnt'
 | .fail s=>xQ L fn [.ptr kt 0] en cnt (pP kt kr en cnt p s)
structure Pre (p:aF) (w0:aA) (S:Nat->Prop) (w:aA) (a:Int) (left:List aB) (f:aB) (n:aM):Prop where
 hp:dU p
 hsp:aR p=true
 hF:cM p w0 S w
 ha:inR a 0 ((w.tasks.length:Int)-1)=true
 hl:LOk p S w left
 hf:FOk p S w f
 hn:p.node f.node=n
 full:(f.vals.length:Int)=n.asks
theorem Pre.env30 (h:Pre p w0 S w a left f n):f.env.length<=30:=by
 have:=h.hf.ok;simp only[dI,bA,bPp,bTe]at this;omega
theorem Pre.objs (h:Pre p w0 S w a left f n):w.objs.length<=120:=(cR.1 h.hF.ok).1
theorem Pre.left40 (h:Pre p w0 S w a left f n):left.length<=40:=by have:=h.hl.len;omega
theorem Pre.kids (h:Pre p w0 S w a left f n):(n.kids.length:Int)=fK n.op n.pats.length (pN p n):=by
 have hok:=h.hp.nodes _ (iV (fR h.hf));rw[h.hn]at hok;exact oK hok
theorem Pre.node (h:Pre p w0 S w a left f n):eN p n=true:=by
 have hok:=h.hp.nodes _ (iV (fR h.hf));rw[h.hn]at hok;exact hok
theorem Pre.val (h:Pre p w0 S w a left f n){i:Nat}(hi:i<f.vals.length):VOk p S w (aE f.vals i):=by
 refine h.hf.vals ?_
 simp only[aE,bPu,bQz hi,bQg];exact bPz hi
theorem bH1 (h:TS kt kr en cnt p w a left f n [] bv)(hop:n.op=1):rI 266 kt kr en cnt p w a left f n (opR p w a left f n):=by
 have e:opR p w a left f n=jB w left (nG n.n):=by unfold opR;rw[hop];rfl
 rw[e];have H:=h.pre;have ht:=h.t;have hL:=at_ func266
 conv at hL=>rhs;reduce
 refine bD hL rfl rfl ?_
 simp only[go_sem,kK,ht,hop,(uB _).ret]
 refine(jA h (nG n.n)).mono ?_
 rintro r e1 c1 ⟨rfl,t1,k1⟩
 exact⟨rfl,t1,k1⟩
theorem bH2 (P0:Pre p w0 S w a left f n)(h:TS kt kr en cnt p w a left f n [] bv)(hop:n.op=7):rI 270 kt kr en cnt p w a left f n (opR p w a left f n):=by
 have e:opR p w a left f n=kC w left (oY n 1) (f.env++[aE f.vals 0]):=by unfold opR;rw[hop];rfl
 rw[e];have hfull:=P0.full;simp[aM.asks,hop]at hfull;have hk:=P0.kids;simp[fK,hop]at hk;have hv0:0<f.vals.length:=by omega
 have h30:=P0.env30;have h40:=P0.left40;have H:=h.pre;have ht:=h.t;unfold kC
 by_cases hc:30<(f.env++[aE f.vals 0]).length
 ·rw[if_pos hc];simp only[bP9,bPy,bP7]at hc;have hW:PX L 330 [.fz (f.env.map aD.enc),.fz [.agg [.i (aE f.vals 0).kind,.i (aE f.vals 0).n]]] (aF7 4):=aJp f.env [aE f.vals 0] (by simpa using hc) (by simp only[bPy,bP7];omega)
  have hL:=at_ func270
  conv at hL=>rhs;reduce
  refine cC hL rfl rfl ?_
  simp only[go_sem,kK]
  refine mF 14 rfl rfl ?_
  simp only[go_sem,bP0,bPw,ht,aS hv0,hW.ret,bQ5,bQ4,sI,kA,kF];exact⟨rfl,h.fell0 (fun _ _=>rfl) (aO _)⟩
 ·rw[if_neg hc];simp only[bP9,bPy,bP7]at hc;have hW:PC L 330 [.fz (f.env.map aD.enc),.fz [.agg [.i (aE f.vals 0).kind,.i (aE f.vals 0).n]]] (.fz ((f.env++[aE f.vals 0]).map aD.enc)):=aGc f.env [aE f.vals 0] (by simp only[bPy,bP7];omega)
  unfold rO
  by_cases hc2:40<(left++[(⟨oY n 1,f.env++[aE f.vals 0],[]⟩:aB)]).length
  ·rw[if_pos hc2];simp only[bP9,bPy,bP7]at hc2;have hL:=at_ func270
   conv at hL=>rhs;reduce
   refine cC hL rfl rfl ?_
   simp only[go_sem,kK]
   refine mF 15 rfl rfl ?_
   simp only[go_sem,bP0,bPw,ht,aS hv0,hW.ret,bQ5,bQ4,sI,kA,kF];exact⟨rfl,zB h (i:=1) (env:=f.env++[aE f.vals 0]) (by omega) (.inl rfl) (by omega)⟩
  ·rw[if_neg hc2];simp only[bP9,bPy,bP7]at hc2;have hL:=at_ func270
   conv at hL=>rhs;reduce
   refine bD hL rfl rfl ?_
   simp only[go_sem,kK]
   refine jQ ?_
   simp only[go_sem,ht,aS hv0,hW.ret,kA,kF];exact zA h (i:=1) (env:=f.env++[aE f.vals 0]) (by omega) (.inl rfl) (by omega)
theorem bH3 (h:TS kt kr en cnt p w a left f n [] bv)(hop:n.op=2):rI 266 kt kr en cnt p w a left f n (opR p w a left f n):=by
 have e:opR p w a left f n=jB w left (nM (decide (n.n=1))):=by unfold opR;rw[hop];rfl
 rw[e];have H:=h.pre;have ht:=h.t;have hL:=at_ func266
 conv at hL=>rhs;reduce
 refine bD hL rfl rfl ?_
 simp only[go_sem,kK,ht,hop,(aF8 _).ret];exact jA h _
theorem bH4 (h:TS kt kr en cnt p w a left f n [] bv)(hop:n.op=3):rI 266 kt kr en cnt p w a left f n (opR p w a left f n):=by
 have e:opR p w a left f n=jB w left bO:=by unfold opR;rw[hop];rfl
 rw[e];have H:=h.pre;have ht:=h.t;have hL:=at_ func266
 conv at hL=>rhs;reduce
 refine bD hL rfl rfl ?_
 simp only[go_sem,kK,ht,hop,kU.ret];exact jA h _
theorem bH5 (P0:Pre p w0 S w a left f n)(h:TS kt kr en cnt p w a left f n [] bv)(hop:n.op=4):rI 267 kt kr en cnt p w a left f n (opR p w a left f n):=by
 have e:opR p w a left f n=(if n.n<0 then jB w left ⟨4,-1-n.n⟩else if(f.env.length:Int)<=n.n then .fail 2 else jB w left (aE f.env n.n.toNat)):=by unfold opR;rw[hop];rfl
 rw[e];have H:=h.pre;have ht:=h.t
 by_cases h0:n.n<0
 ·rw[if_pos h0];have d0:decide (n.n<0)=true:=D_t h0;have hw:IntKind.i64.wrap (-1-n.n)= -1-n.n:=by
   have hok:=P0.node;have hnum:oL p n=true:=by simp only[eN,bPp]at hok;exact hok.1.1.1
   simp only[oL,hop]at hnum;simp[inR]at hnum;exact aW (by have hsl:=P0.hsp;simp only[aR,bPp,bTe]at hsl;omega)
  have hL:=at_ func267
  conv at hL=>rhs;reduce
  refine bD hL rfl rfl ?_
  simp only[go_sem,kK,ht,d0,hw];exact jA h ⟨4,-1-n.n⟩
 ·rw[if_neg h0];have d0:decide (n.n<0)=false:=D_f h0
  by_cases h1:(f.env.length:Int)<=n.n
  ·rw[if_pos h1];have d1:decide (n.n<(f.env.length:Int))=false:=D_f (by omega)
   have hL:=at_ func267
   conv at hL=>rhs;reduce
   refine cC hL rfl rfl ?_
   simp only[go_sem,kK,ht,d0]
   refine mF 12 rfl rfl ?_
   simp only[go_sem,bP0,bPw,ht,bPr,d1,(kT _).ret,bQ5,bQ4,sI];exact⟨rfl,h.fell0 (fun _ _=>rfl) (aO _)⟩
  ·rw[if_neg h1];have d1:decide (n.n<(f.env.length:Int))=true:=D_t (by omega)
   have hi:inR n.n 0 ((f.env.length:Int)-1)=true:=by simp only[inR,bTe];omega
   have hL:=at_ func267
   conv at hL=>rhs;reduce
   refine bD hL rfl rfl ?_
   simp only[go_sem,kK,ht,d0]
   refine jQ ?_
   simp only[go_sem,ht,bPr,d1,(iG _).ret,aXk hi,kF];exact jA h _
theorem bEo (P0:Pre p w0 S w a left f n)(h:TS kt kr en cnt p w a left f n [] bv)(hop:n.op=26):rI 287 kt kr en cnt p w a left f n (opR p w a left f n):=by
 have e:opR p w a left f n=jB w left (aE f.vals 0):=by unfold opR;rw[hop];rfl
 rw[e];have hfull:=P0.full;simp[aM.asks,hop]at hfull;have H:=h.pre;have ht:=h.t;have hL:=at_ func287
 conv at hL=>rhs;reduce
 refine bD hL rfl rfl ?_
 simp only[go_sem,kK,ht,aS (l:=f.vals) (by omega)]
 exact jA h _
theorem bEp (h:TS kt kr en cnt p w a left f n [] bv)(hop:n.op=28):rI 289 kt kr en cnt p w a left f n (opR p w a left f n):=by
 have e:opR p w a left f n=kS w a left 28 0 bO bO:=by unfold opR;rw[hop];rfl
 rw[e];have H:=h.pre;have hL:=at_ func289
 conv at hL=>rhs;reduce
 refine bD hL rfl rfl ?_
 simp only[go_sem,kK,kU.ret]
 refine(rA h bO bO).mono ?_
 rintro r e1 c1 ⟨rfl,t1,k1⟩
 refine⟨?_,t1,k1⟩
 rw[hop];rfl
theorem bH6 (P0:Pre p w0 S w a left f n)(h:TS kt kr en cnt p w a left f n [] bv)(hop:n.op=5):rI 268 kt kr en cnt p w a left f n (opR p w a left f n):=by
 have e:opR p w a left f n=iU w ⟨2,f.node,f.env,[]⟩ fun w' v=>jB w' left v:=by unfold opR;rw[hop];rfl
 rw[e];have h120:=P0.objs;have H:=h.pre;have ht:=h.t;unfold iU
 by_cases hc:120<=w.objs.length
 ·rw[if_pos hc];have hL:=at_ func268
  conv at hL=>rhs;reduce
  refine cC hL rfl rfl ?_
  simp only[go_sem,kK]
  refine mF 13 rfl rfl ?_
  simp only[go_sem,bP0,bPw,bQ5,bQ4,sI,ht];exact⟨rfl,pQ h (o:=⟨2,f.node,f.env,[]⟩) hc (by omega)⟩
 ·rw[if_neg hc];have hL:=at_ func268
  conv at hL=>rhs;reduce
  refine bD hL rfl rfl ?_
  simp only[go_sem,kK]
  refine jQ ?_
  simp only[go_sem,ht]
  refine(rV h (o:=⟨2,f.node,f.env,[]⟩) (.inl rfl) (.inr rfl) (by omega)).mono ?_
  rintro v e1 c1 ⟨rfl,⟨bv1,t1⟩,k1⟩
  refine(jA t1 (dN w.objs.length)).mono ?_
  rintro v e2 c2 ⟨rfl,t2,k2⟩
  exact⟨rfl,t2,k1.trans k2⟩
theorem bEq (P0:Pre p w0 S w a left f n)(h:TS kt kr en cnt p w a left f n [] bv)(hop:n.op=14):rI 275 kt kr en cnt p w a left f n (opR p w a left f n):=by
 have e:opR p w a left f n=iU w ⟨1,n.n,f.vals,[]⟩ fun w' v=>jB w' left v:=by unfold opR;rw[hop];rfl
 rw[e];have h120:=P0.objs;have H:=h.pre;have ht:=h.t;unfold iU
 by_cases hc:120<=w.objs.length
 ·rw[if_pos hc];have hL:=at_ func275
  conv at hL=>rhs;reduce
  refine cC hL rfl rfl ?_
  simp only[go_sem,kK]
  refine mF 13 rfl rfl ?_
  simp only[go_sem,bP0,bPw,bQ5,bQ4,sI,ht];exact⟨rfl,pQ h (o:=⟨1,n.n,f.vals,[]⟩) hc (by omega)⟩
 ·rw[if_neg hc];have hL:=at_ func275
  conv at hL=>rhs;reduce
  refine bD hL rfl rfl ?_
  simp only[go_sem,kK]
  refine jQ ?_
  simp only[go_sem,ht]
  refine(rV h (o:=⟨1,n.n,f.vals,[]⟩) (.inl rfl) (.inr rfl) (by omega)).mono ?_
  rintro v e1 c1 ⟨rfl,⟨bv1,t1⟩,k1⟩
  refine(jA t1 (dN w.objs.length)).mono ?_
  rintro v e2 c2 ⟨rfl,t2,k2⟩
  exact⟨rfl,t2,k1.trans k2⟩
theorem bH7 (P0:Pre p w0 S w a left f n)(h:TS kt kr en cnt p w a left f n [] bv)(hop:n.op=8):rI 271 kt kr en cnt p w a left f n (opR p w a left f n):=by
 have e:opR p w a left f n=(if¬(aE f.vals 0).kind=2 then .fail 2 else kC w left (oY n (2-(aE f.vals 0).n)) f.env):=by unfold opR;rw[hop];rfl
 rw[e];have hfull:=P0.full;simp[aM.asks,hop]at hfull;have hk:=P0.kids;simp[fK,hop]at hk;have hv0:0<f.vals.length:=by omega
 have h30:=P0.env30;have h40:=P0.left40;have H:=h.pre;have ht:=h.t
 by_cases h2:(aE f.vals 0).kind=2
 ·rw[if_neg (fun h=>h h2)]
  have d2:decide ((aE f.vals 0).kind=2)=true:=D_t h2;have hvk:=(P0.val hv0).ok;simp only[dM,h2]at hvk;simp[inR]at hvk;obtain⟨j,hj⟩: ∃j:Nat,2-(aE f.vals 0).n=(j:Int):=⟨(2-(aE f.vals 0).n).toNat,by omega⟩
  have hw:IntKind.i64.wrap (2-(aE f.vals 0).n)=(j:Int):=by rw[hj];exact aW (by omega)
  have hkn:oY n (2-(aE f.vals 0).n)=n.kids.getD j 0:=by rw[hj];rfl
  unfold kC;rw[if_neg (by omega),hkn]
  unfold rO
  by_cases hc2:40<(left++[(⟨n.kids.getD j 0,f.env,[]⟩:aB)]).length
  ·rw[if_pos hc2];simp only[bP9,bPy,bP7]at hc2;have hL:=at_ func271
   conv at hL=>rhs;reduce
   refine cC hL rfl rfl ?_
   simp only[go_sem,kK]
   refine cA ?_
   simp only[go_sem,ht,aS hv0,d2,(iG _).ret]
   refine mF 15 rfl rfl ?_
   simp only[go_sem,bP0,bPw,bQ5,bQ4,sI,ht,aS hv0,hw];exact⟨rfl,zB h (i:=j) (env:=f.env) (by omega) (.inl rfl) (by omega)⟩
  ·rw[if_neg hc2];simp only[bP9,bPy,bP7]at hc2;have hL:=at_ func271
   conv at hL=>rhs;reduce
   refine bD hL rfl rfl ?_
   simp only[go_sem,kK]
   refine cA ?_
   simp only[go_sem,ht,aS hv0,d2,(iG _).ret]
   refine jQ ?_
   simp only[go_sem,ht,aS hv0,hw];exact zA h (i:=j) (env:=f.env) (by omega) (.inl rfl) (by omega)
 ·rw[if_pos h2];have d2:decide ((aE f.vals 0).kind=2)=false:=D_f h2;have hL:=at_ func271
  conv at hL=>rhs;reduce
  refine cC hL rfl rfl ?_
  simp only[go_sem,kK]
  refine dK 9 rfl ?_
  simp only[go_sem,bP0,bPw,ht,aS hv0,d2,(kT _).ret];exact h.fell0 (fun _ _=>rfl) (aO _)
theorem bEr (P0:Pre p w0 S w a left f n)(h:TS kt kr en cnt p w a left f n [] bv)(hop:n.op=12):rI 273 kt kr en cnt p w a left f n (opR p w a left f n):=by
 have e:opR p w a left f n=(if¬(aE f.vals 0).kind=1 \/ ¬(aE f.vals 1).kind=1 then .fail 2 else jB w left (nM (decide ((aE f.vals 0).n<(aE f.vals 1).n)))):=by unfold opR;rw[hop];rfl
 rw[e];have hfull:=P0.full;simp[aM.asks,hop]at hfull;have H:=h.pre
 by_cases h12: ¬(aE f.vals 0).kind=1 \/ ¬(aE f.vals 1).kind=1
 ·rw[if_pos h12];have hL:=at_ func273
  conv at hL=>rhs;reduce
  refine cC hL rfl rfl ?_
  simp only[go_sem,kK]
  refine dK 1 rfl ?_
  simp only[go_sem,bP0,bPw];exact aTu h (by omega) h12
 ·rw[if_neg h12];have k1:(aE f.vals 0).kind=1:=Decidable.byContradiction fun hh=>h12 (.inl hh)
  have k2:(aE f.vals 1).kind=1:=Decidable.byContradiction fun hh=>h12 (.inr hh)
  have hL:=at_ func273
  conv at hL=>rhs;reduce
  refine bD hL rfl rfl ?_
  simp only[go_sem,kK]
  refine cA ?_
  simp only[go_sem]
  refine(aTt h (by omega) k1 k2).mono ?_
  rintro v e1 c1 ⟨rfl,rfl,rfl⟩
  simp only[go_sem,(aF8 _).ret];exact jA h _
theorem aMk (P0:Pre p w0 S w a left f n)(h:TS kt kr en cnt p w a left f n [] bv)(hop:n.op=9 \/n.op=10 \/n.op=11):rI 272 kt kr en cnt p w a left f n (opR p w a left f n):=by
 have e:opR p w a left f n=(if¬(aE f.vals 0).kind=1 \/ ¬(aE f.vals 1).kind=1 then .fail 2
  else if inR (rM n.op (aE f.vals 0).n (aE f.vals 1).n) (-1000000000) 1000000000=true then jB w left (nG (rM n.op (aE f.vals 0).n (aE f.vals 1).n))else .fail 4):=by
  unfold opR;rcases hop with h|h|h<;>rw[h]<;>rfl
 rw[e];have hfull:f.vals.length=2:=by
  have:=P0.full;rcases hop with h|h|h<;>simp[aM.asks,h]at this<;>omega
 have H:=h.pre;have ht:=h.t
 by_cases h12: ¬(aE f.vals 0).kind=1 \/ ¬(aE f.vals 1).kind=1
 ·rw[if_pos h12];have hL:=at_ func272
  conv at hL=>rhs;reduce
  refine cC hL rfl rfl ?_
  simp only[go_sem,kK]
  refine dK 1 rfl ?_
  simp only[go_sem,bP0,bPw];exact aTu h (by omega) h12
 ·rw[if_neg h12];have k1:(aE f.vals 0).kind=1:=Decidable.byContradiction fun hh=>h12 (.inl hh)
  have k2:(aE f.vals 1).kind=1:=Decidable.byContradiction fun hh=>h12 (.inr hh)
  have v1:=(P0.val (show 0<f.vals.length by omega)).ok
  have v2:=(P0.val (show 1<f.vals.length by omega)).ok
  simp only[dM,k1,k2]at v1 v2;simp[inR]at v1 v2;have hI:=aTt h (by omega) k1 k2
  generalize (aE f.vals 0).n=x at v1 hI⊢;generalize (aE f.vals 1).n=y at v2 hI⊢;have w1:IntKind.i64.wrap (x+y)=x+y:=aW (by omega)
  have w2:IntKind.i64.wrap (x-y)=x-y:=aW (by omega)
  have hm: -1000000000000000000<=x*y/\ x*y<=1000000000000000000:=by
   have:=Int.natAbs_mul x y;have a1:x.natAbs<=1000000000:=by omega
   have a2:y.natAbs<=1000000000:=by omega
   have:=Nat.mul_le_mul a1 a2;omega
  have w3:IntKind.i64.wrap (x*y)=x*y:=aW (by omega)
  by_cases hr2:inR (rM n.op x y) (-1000000000) 1000000000=true
  ·rw[if_pos hr2];have hL:=at_ func272
   conv at hL=>rhs;reduce
   refine bD hL rfl rfl ?_
   simp only[go_sem,kK]
   refine cA ?_
   simp only[go_sem]
   refine hI.mono ?_
   rintro v e1 c1 ⟨rfl,rfl,rfl⟩
   rcases hop with ho|ho|ho
   ·rw[ho,show rM 9 x y=x+y from rfl]at hr2⊢
    simp only[go_sem,kK,ht,ho,w1]
    refine cA ?_
    simp only[go_sem,(fW _).ret,hr2,(iG _).ret,(uB _).ret];exact jA h (nG (x+y))
   ·rw[ho,show rM 10 x y=x-y from rfl]at hr2⊢
    simp only[go_sem,kK,ht,ho,w1,w2]
    refine cA ?_
    simp only[go_sem,(fW _).ret,hr2,(iG _).ret,(uB _).ret];exact jA h (nG (x-y))
   ·rw[ho,show rM 11 x y=x*y from rfl]at hr2⊢
    simp only[go_sem,kK,ht,ho,w1,w3]
    refine cA ?_
    simp only[go_sem,(fW _).ret,hr2,(iG _).ret,(uB _).ret];exact jA h (nG (x*y))
  ·rw[if_neg hr2];rw[bQ0]at hr2;have hL:=at_ func272
   conv at hL=>rhs;reduce
   refine cC hL rfl rfl ?_
   simp only[go_sem,kK]
   refine cA ?_
   simp only[go_sem]
   refine hI.mono ?_
   rintro v e1 c1 ⟨rfl,rfl,rfl⟩
   rcases hop with ho|ho|ho
   ·rw[ho,show rM 9 x y=x+y from rfl]at hr2
    simp only[go_sem,kK,ht,ho,w1]
    refine dK 2 rfl ?_
    simp only[go_sem,bP0,bPw,(fW _).ret,hr2,(kT _).ret];exact h.fell0 (fun _ _=>rfl) (aO _)
   ·rw[ho,show rM 10 x y=x-y from rfl]at hr2
    simp only[go_sem,kK,ht,ho,w1,w2]
    refine dK 2 rfl ?_
    simp only[go_sem,bP0,bPw,(fW _).ret,hr2,(kT _).ret];exact h.fell0 (fun _ _=>rfl) (aO _)
   ·rw[ho,show rM 11 x y=x*y from rfl]at hr2
    simp only[go_sem,kK,ht,ho,w1,w3]
    refine dK 2 rfl ?_
    simp only[go_sem,bP0,bPw,(fW _).ret,hr2,(kT _).ret];exact h.fell0 (fun _ _=>rfl) (aO _)
theorem aD1 {kids:List Int}{env:List aD}{l:List Pat}(hk:k<l.length):eL w left kids env u k (l.drop k)=(match fP w l[k] u with|some r=>kC w left (kids.getD (1+k) 0) (env++r)|none=>eL w left kids env u (k+1) (l.drop (k+1))):=by
 rw[bQu hk,eL];cases fP w l[k] u<;>rfl
theorem aD2 {kids:List Int}{env:List aD}{u:aD}: ∀(l:List Pat) (i:Nat),eL w left kids env u i l≠ .wait
 |[],i=>by simp[eL]
 |q::l,i=>by
  rw[eL];split
  ·unfold kC rO;split
   ·simp
   ·split<;>simp
  ·exact aD2 l _
theorem bEs (P0:Pre p w0 S w a left f n)(h:TS kt kr en cnt p w a left f n [] bv)(hop:n.op=15):rI 276 kt kr en cnt p w a left f n (opR p w a left f n):=by
 have e:opR p w a left f n=eL w left n.kids f.env (aE f.vals 0) 0 n.pats:=by unfold opR;rw[hop];rfl
 rw[e];have hfull:=P0.full;simp[aM.asks,hop]at hfull;have hv0:0<f.vals.length:=by omega
 have hu:=P0.val hv0;have hkd:=P0.kids;simp[fK,hop]at hkd;have hok:=P0.node;have hpf: ∀q∈n.pats,sJ p.cons q=true/\ pS q<=1000:=fun q hq=>by
  simp only[eN,bPp,bPv]at hok;have:=hok.1.2 q hq;exact⟨by simp only[nL,bPp]at this;exact this.2,aMh this⟩
 have hfew:n.kids.length<=1000:=by
  have hsp:=P0.hsp;have hsn:gE n=true:=by rw[<-P0.hn];simp only[aR,bPp,bPv]at hsp;exact hsp.2 _ (iV (fR P0.hf))
  simp only[gE,bPp,bTe]at hsn;omega
 have h30:=P0.env30;have h40:=P0.left40;have H:=h.pre;have ht:=h.t;cases hR0:eL w left n.kids f.env (aE f.vals 0) 0 n.pats with
 |wait=>exact absurd hR0 (aD2 _ _)
 |fail s=>
  have hL:=at_ func276
  conv at hL=>rhs;reduce
  refine cC hL rfl rfl ?_
  simp only[go_sem,kK,ht]
  refine bQ n.pats.length (fun k st=> ∃fr en2 cnt2,st=⟨fr,en2,cnt2⟩/\ fr 0= .ptr kt 0/\ fr 10= .fz (n.pats.map Pat.enc)/\ fr 11= .i n.pats.length/\ fr 12= .i k/\ (∃bv2,TS kt kr en2 cnt2 p w a left f n [] bv2)/\ dT kt kr en cnt en2 cnt2/\ eL w left n.kids f.env (aE f.vals 0) k (n.pats.drop k)=eL w left n.kids f.env (aE f.vals 0) 0 n.pats) 0 (bPx _) ⟨_,_,_,rfl,by simp only[go_sem],by simp only[go_sem],by simp only[go_sem],by simp only[go_sem],⟨bv,h⟩,dT.refl _ _ _ _,by rw[bRy]⟩ ?_
  rintro k st hk ⟨fr,en2,cnt2,rfl,k0,k10,k11,k12,⟨bv2,t2⟩,K2,hR⟩
  simp only[go_sem,kK,k11,k12]
  refine aG (fun hq2=>?_) (fun hq2=>?_)
  ·have h':k<n.pats.length:=D_o hq2;have ht2:=t2.t;have y1:=t2.okt.set;have y2:=t2.okr.set;rw[aD1 h']at hR;simp only[go_sem,kK,k0,k10,k12,h',ht2,y1,aS hv0];have hpk:=hpf _ (bPz h');have u3: ∀t,cnt2 0 t<=aC (aC cnt2 0 4 (cnt2 0 4+1)) 0 5 (cnt2 0 5+1) 0 t:=(by(repeat refine upS ?_ (by omega));exact aO _)
   obtain⟨⟨bv3,t3⟩,k3⟩:=t2.stay (cnt':=aC (aC cnt2 0 4 (cnt2 0 4+1)) 0 5 (cnt2 0 5+1)) (en':=((en2.set ⟨0,4,cnt2 0 4⟩ (some (.box [.i 0,.i 0,.str ⟨#[]⟩,.cl []] false))).set ⟨0,4,cnt2 0 4⟩ (some (.box [.i n.pats[k].form,.i n.pats[k].n,.str n.pats[k].text,.fz (n.pats[k].parts.map Pat.enc)] false))).set ⟨0,5,cnt2 0 5⟩ (some (.box [.cl []] false))) (fun k hk=>by simp only[hk.set]) u3
   refine(aT7 P0.hF p.cons n.pats[k] hpk.1 hpk.2 (aE f.vals 0) hu (kl:=⟨0,5,cnt2 0 5⟩) (ko:=none) (xs:=[]) t3 ⟨⟨rfl,by simp[aC]⟩,.inl ⟨rfl,rfl,cG⟩⟩ (by have:=hpk.2;simp only[bP7];omega)).mono ?_
   rintro r e5 c5 ⟨rfl,F5⟩
   obtain⟨bv5,t5⟩:=F5.ts;have K5:dT kt kr en cnt e5 c5:=K2.trans ⟨fun x hx y1 y2=>by rw[F5.old x (hx.up u3) y1 y2 hx.ne (by simp),hx.set,hx.set,hx.set],fun t=>bP2 (u3 t) (F5.up t)⟩
   cases hx:fP w n.pats[k] (aE f.vals 0)with
   |none=>
    rw[hx]at hR;simp only[go_sem,bRx,k12,aT h' (show Few n.pats.length by unfold Few;omega)]
    refine⟨_,_,_,rfl,?_⟩
    simp only[go_sem,k0,k10,k11];exact⟨⟨bv5,t5⟩,K5,hR⟩
   |some l=>
    rw[hx]at hR
    simp only at hR
    rw[hR0]at hR;obtain⟨ko5,⟨_,hv5⟩,hk5⟩:=F5.acc l hx;rw[bQt]at hv5;have ht5:=t5.t;simp only[go_sem,kK,bRm];have hwk:IntKind.i64.wrap ((k:Int)+1)=((k+1:Nat):Int):=by rw[aW (by omega)];omega
    unfold kC at hR
    by_cases hc:30<(f.env++l).length
    ·rw[if_pos hc,OpR.fail.injEq]at hR;subst hR;have hll:=aDb _ hx;have hW:=aJp f.env l (by simpa using hc) (by have:=hpk.2;omega)
     rcases hv5 with⟨_,z2,z3⟩|⟨t,g,b,_,z2,z3,z4⟩
     ·subst z2;simp at hc;omega
     ·refine mF 9 rfl rfl ?_
      simp only[go_sem,bP0,bPw,bQ5,bQ4,sI,k0,ht5,z4,z3,hW.ret,hwk,bPr,bRy,bQa,bPq,bQh,kF];exact⟨rfl,pP.then K5 (t5.fell0 (fun _ _=>rfl) (aO _))⟩
    ·rw[if_neg hc]at hR;simp only[bP9]at hc;unfold rO at hR;have hW:=aGc f.env l (by omega)
     by_cases hc2:40<(left++[(⟨n.kids.getD (1+k) 0,f.env++l,[]⟩:aB)]).length
     ·rw[if_pos hc2,OpR.fail.injEq]at hR;subst hR;simp only[bP9,bPy,bP7]at hc2;have hG:=zB t5 (i:=k+1) (env:=f.env++l) (by omega) (.inl rfl) (by omega)
      rcases hv5 with⟨_,z2,z3⟩|⟨t,g,b,z1,z2,z3,z4⟩
      ·subst z2;rw[bQr]at hW hG;simp only[bP1]at hW
       refine mF 10 rfl rfl ?_
       simp only[go_sem,bP0,bPw,bQ5,bQ4,sI,k0,ht5,z3,hW.ret,hwk,kF];exact⟨rfl,hG.mono fun _ _ _=>pP.then K5⟩
      ·have hr5:=t5.r;have bt:(⟨0,t,g⟩:Key)≠kt:=by rintro rfl;rw[ht5]at z3;cases z3
       have br:(⟨0,t,g⟩:Key)≠kr:=by rintro rfl;rw[hr5]at z3;cases z3
       have t6:TS kt kr (e5.set ⟨0,t,g⟩ (some (.blk 2 (l.map aD.enc) true))) c5 p w a left f n [] bv5:=t5.to (aK bt.symm) (aK br.symm) (aO _);have K6:dT kt kr en cnt (e5.set ⟨0,t,g⟩ (some (.blk 2 (l.map aD.enc) true))) c5:=⟨fun x hxo y1 y2=>by
        have hne:x≠⟨0,t,g⟩:=by
         rintro rfl
         rcases hk5 with hk5|hk5
         ·rw[z1]at hk5;cases hk5
         ·exact hk5 _ z1 (hxo.up fun t=>bP2 (K2.up t) (u3 t))
        rw[aK hne];exact K5.old x hxo y1 y2,K5.up⟩
       have hG:=zB t6 (i:=k+1) (env:=f.env++l) (by omega) (.inl rfl) (by omega)
       refine mF 10 rfl rfl ?_
       simp only[go_sem,bP0,bPw,bQ5,bQ4,sI,k0,ht5,z4,z3,hW.ret,hwk,bPr,bRy,bQa,bPq,bQh,kF];exact⟨rfl,hG.mono fun _ _ _=>pP.then K6⟩
     ·rw[if_neg hc2]at hR;cases hR
  ·have:k=n.pats.length:=by simp at hq2;omega
   subst this;rw[bRf,eL]at hR;rw[hR0,OpR.fail.injEq]at hR;subst hR;simp only[go_sem]
   refine dK 2 rfl ?_
   simp only[go_sem,bP0,bPw];exact⟨rfl,rfl,K2,t2.rb⟩
 |go ev w' left' back'=>
  have hL:=at_ func276
  conv at hL=>rhs;reduce
  refine bD hL rfl rfl ?_
  simp only[go_sem,kK,ht]
  refine bQ n.pats.length (fun k st=> ∃fr en2 cnt2,st=⟨fr,en2,cnt2⟩/\ fr 0= .ptr kt 0/\ fr 10= .fz (n.pats.map Pat.enc)/\ fr 11= .i n.pats.length/\ fr 12= .i k/\ (∃bv2,TS kt kr en2 cnt2 p w a left f n [] bv2)/\ dT kt kr en cnt en2 cnt2/\ eL w left n.kids f.env (aE f.vals 0) k (n.pats.drop k)=eL w left n.kids f.env (aE f.vals 0) 0 n.pats) 0 (bPx _) ⟨_,_,_,rfl,by simp only[go_sem],by simp only[go_sem],by simp only[go_sem],by simp only[go_sem],⟨bv,h⟩,dT.refl _ _ _ _,by rw[bRy]⟩ ?_
  rintro k st hk ⟨fr,en2,cnt2,rfl,k0,k10,k11,k12,⟨bv2,t2⟩,K2,hR⟩
  simp only[go_sem,kK,k11,k12]
  refine aG (fun hq2=>?_) (fun hq2=>?_)
  ·have h':k<n.pats.length:=D_o hq2;have ht2:=t2.t;have y1:=t2.okt.set;have y2:=t2.okr.set;rw[aD1 h']at hR;simp only[go_sem,kK,k0,k10,k12,h',ht2,y1,aS hv0];have hpk:=hpf _ (bPz h');have u3: ∀t,cnt2 0 t<=aC (aC cnt2 0 4 (cnt2 0 4+1)) 0 5 (cnt2 0 5+1) 0 t:=(by(repeat refine upS ?_ (by omega));exact aO _)
   obtain⟨⟨bv3,t3⟩,k3⟩:=t2.stay (cnt':=aC (aC cnt2 0 4 (cnt2 0 4+1)) 0 5 (cnt2 0 5+1)) (en':=((en2.set ⟨0,4,cnt2 0 4⟩ (some (.box [.i 0,.i 0,.str ⟨#[]⟩,.cl []] false))).set ⟨0,4,cnt2 0 4⟩ (some (.box [.i n.pats[k].form,.i n.pats[k].n,.str n.pats[k].text,.fz (n.pats[k].parts.map Pat.enc)] false))).set ⟨0,5,cnt2 0 5⟩ (some (.box [.cl []] false))) (fun k hk=>by simp only[hk.set]) u3
   refine(aT7 P0.hF p.cons n.pats[k] hpk.1 hpk.2 (aE f.vals 0) hu (kl:=⟨0,5,cnt2 0 5⟩) (ko:=none) (xs:=[]) t3 ⟨⟨rfl,by simp[aC]⟩,.inl ⟨rfl,rfl,cG⟩⟩ (by have:=hpk.2;simp only[bP7];omega)).mono ?_
   rintro r e5 c5 ⟨rfl,F5⟩
   obtain⟨bv5,t5⟩:=F5.ts;have K5:dT kt kr en cnt e5 c5:=K2.trans ⟨fun x hx y1 y2=>by rw[F5.old x (hx.up u3) y1 y2 hx.ne (by simp),hx.set,hx.set,hx.set],fun t=>bP2 (u3 t) (F5.up t)⟩
   cases hx:fP w n.pats[k] (aE f.vals 0)with
   |none=>
    rw[hx]at hR;simp only[go_sem,bRx,k12,aT h' (show Few n.pats.length by unfold Few;omega)]
    refine⟨_,_,_,rfl,?_⟩
    simp only[go_sem,k0,k10,k11];exact⟨⟨bv5,t5⟩,K5,hR⟩
   |some l=>
    rw[hx]at hR
    simp only at hR
    rw[hR0]at hR;obtain⟨ko5,⟨_,hv5⟩,hk5⟩:=F5.acc l hx;rw[bQt]at hv5;have ht5:=t5.t;simp only[go_sem,kK,bRm];have hwk:IntKind.i64.wrap ((k:Int)+1)=((k+1:Nat):Int):=by rw[aW (by omega)];omega
    unfold kC at hR
    by_cases hc:30<(f.env++l).length
    ·rw[if_pos hc]at hR;cases hR
    ·rw[if_neg hc]at hR;simp only[bP9]at hc;unfold rO at hR;have hW:=aGc f.env l (by omega)
     by_cases hc2:40<(left++[(⟨n.kids.getD (1+k) 0,f.env++l,[]⟩:aB)]).length
     ·rw[if_pos hc2]at hR;cases hR
     ·rw[if_neg hc2,OpR.go.injEq]at hR;obtain⟨rfl,rfl,rfl,rfl⟩:=hR;simp only[bP9,bPy,bP7]at hc2;have hG:=zA t5 (i:=k+1) (env:=f.env++l) (by omega) (.inl rfl) (by omega)
      rcases hv5 with⟨_,z2,z3⟩|⟨t,g,b,z1,z2,z3,z4⟩
      ·subst z2;rw[bQr]at hW hG;simp only[bP1]at hW
       refine jQ ?_
       simp only[go_sem,k0,ht5,z3,hW.ret,hwk,kF]
       refine hG.mono ?_
       rintro v e7 c7 ⟨rfl,t7,k7⟩
       try simp only[go_sem,kK]
       exact⟨rfl,by rw[Nat.add_comm 1 k];exact t7,K5.trans k7⟩
      ·have hr5:=t5.r;have bt:(⟨0,t,g⟩:Key)≠kt:=by rintro rfl;rw[ht5]at z3;cases z3
       have br:(⟨0,t,g⟩:Key)≠kr:=by rintro rfl;rw[hr5]at z3;cases z3
       have t6:TS kt kr (e5.set ⟨0,t,g⟩ (some (.blk 2 (l.map aD.enc) true))) c5 p w a left f n [] bv5:=t5.to (aK bt.symm) (aK br.symm) (aO _);have K6:dT kt kr en cnt (e5.set ⟨0,t,g⟩ (some (.blk 2 (l.map aD.enc) true))) c5:=⟨fun x hxo y1 y2=>by
        have hne:x≠⟨0,t,g⟩:=by
         rintro rfl
         rcases hk5 with hk5|hk5
         ·rw[z1]at hk5;cases hk5
         ·exact hk5 _ z1 (hxo.up fun t=>bP2 (K2.up t) (u3 t))
        rw[aK hne];exact K5.old x hxo y1 y2,K5.up⟩
       have hG:=zA t6 (i:=k+1) (env:=f.env++l) (by omega) (.inl rfl) (by omega)
       refine jQ ?_
       simp only[go_sem,k0,ht5,z4,z3,hW.ret,hwk,bPr,bRy,bQa,bPq,bQh,kF]
       refine hG.mono ?_
       rintro v e7 c7 ⟨rfl,t7,k7⟩
       try simp only[go_sem,kK]
       exact⟨rfl,by rw[Nat.add_comm 1 k];exact t7,K6.trans k7⟩
  ·have:k=n.pats.length:=by simp at hq2;omega
   subst this;rw[bRf,eL]at hR;rw[hR0]at hR;cases hR
theorem wB (xs:List Val)(h1:cU 3 xs=true)(hl:xs.length<=16777216):PC L 226 [.fz xs] (tD 3 xs):=by
 cases xs with
 |nil=>
  have hL:=at_ func226
  conv at hL=>rhs;reduce
  refine aKt hL rfl rfl (.inl rfl) (qM ?_) (qM ?_)
  ·simp only[go_sem,kK,xV];rfl
  ·simp only[go_sem,kK,xV]
   refine sO (b:=false) (by simp only[go_sem]) (by simp only[go_sem]) ?_
   simp only[go_sem];rfl
 |cons x xs=>
  have hL:=at_ func226
  conv at hL=>rhs;reduce
  refine aI hL rfl rfl ?_
  simp only[go_sem,kK,aF4]
  refine qU (by simp only[go_sem]) (by simp only[go_sem]) h1 hl ?_
  simp only[go_sem];rfl
theorem aEq (h:TS kt kr en cnt p w a left f n back bv){o:aQ}{t:Nat}{b:Bool}(hb:en ⟨0,t,g⟩=some (.blk 3 (o.frames.map aB.enc) b))(hg:g<cnt 0 t)(hV:iO V (o.vals.map aD.enc))(hc:w.objs.length<120):
  WIn L (.fn 327 [] []) [.ptr kt 0,.agg [.i o.form,.i o.n,V,.bl ⟨0,t,g⟩ 0 o.frames.length]] en cnt fun r en' cnt'=>r= .agg [.i (dN w.objs.length).kind,.i (dN w.objs.length).n]/\ (∃bv',TS kt kr en' cnt' p (eC w o) a left f n back bv')/\
   (∀k,Old k cnt->k≠kt->k≠kr->k≠⟨0,t,g⟩->en' k=en k)/\ ∀t,cnt 0 t<=cnt' 0 t:=by
 have s1:=h.okt.set;have s2:=h.okr.set;have n1:=h.okt.new;have n2:=h.okr.new;have hn:=h.ne;have ht:=h.t;have hr:=h.r;have m1:=h.okt.eqF;have m2:=h.okr.eqF;have o1:=h.okt.eqF';have o2:=h.okr.eqF';have x1: ∀(en:En) (e:Option Ent),En.set en kt e kr=en kr:=fun _ _=>aK hn;have x2: ∀(en:En) (e:Option Ent),En.set en kr e kt=en kt:=fun _ _=>aK hn.symm
 have d:decide ((w.objs.length:Int)<120)=true:=D_t (by omega)
 have hl:w.objs.length+1<=16777216:=by omega
 have hw:IntKind.i64.wrap (((w.objs.length+1:Nat):Int)-1)=(w.objs.length:Int):=by rw[aW (by omega)];omega
 have hA:w.objs.map aQ.enc++[.agg [.i o.form,.i o.n,.fz (o.vals.map aD.enc),.fz (o.frames.map aB.enc)]]=(eC w o).objs.map aQ.enc:=by simp[eC,aQ.enc]
 have hAl:w.objs.length+1=((eC w o).objs.map aQ.enc).length:=by simp[eC]
 have hT:List.take o.frames.length (o.frames.map aB.enc)=o.frames.map aB.enc:=by rw[bQa (by simp)]
 have hob:Old ⟨0,t,g⟩ cnt:=⟨rfl,hg⟩;have b1:=hob.set;have b0:=hob.new;have bF:=hob.eqF;have bF':=hob.eqF';have q1:(⟨0,t,g⟩:Key)≠kr:=by rintro rfl;rw[hr]at hb;cases hb
 have q2:(⟨0,t,g⟩:Key)≠kt:=by rintro rfl;rw[ht]at hb;cases hb
 have b2: ∀(en:En) (e:Option Ent),En.set en kr e ⟨0,t,g⟩=en ⟨0,t,g⟩:=fun _ _=>aK q1
 have b4: ∀(en:En) (e:Option Ent),En.set en ⟨0,t,g⟩ e kr=en kr:=fun _ _=>aK q1.symm
 have b5: ∀(en:En) (e:Option Ent),En.set en ⟨0,t,g⟩ e kt=en kt:=fun _ _=>aK q2.symm
 have hL:=at_ func327
 conv at hL=>rhs;reduce
 refine rZ hL rfl rfl ?_
 simp only[go_sem,kK]
 refine cA ?_
 simp only[go_sem,ht,hr,s1,s2,bPr,d,(iG _).ret]
 refine aH ?_
 rcases hV with rfl|rfl<;>
 (simp only[go_sem,ht,hr,s1,s2,n2,m1,x2,kB,b0,b1,b4,b5,hb,bPr,(aIx _).ret,bM,dY,vS,aAh,aXd,hl,sP,hw,hA,bPq,W.apply,Ent.freeze,hT,kA,kF]
  have hu: ∀t,cnt 0 t<=aC (aC (aC cnt 0 3 (cnt 0 3+1)) 0 4 (cnt 0 4+1)) 0 31 (cnt 0 31+1) 0 t:=(by(repeat refine upS ?_ (by omega));exact aO _)
  rw[aV6 (K1:=[⟨0,31,cnt 0 31⟩]) (K2:=[]) (K3:=[]) (K4:=[]) (os:=(eC w o).objs.map aQ.enc) (by simp only[s1,b5,x2];exact ht) (by simp only[s2,cG];rfl) (tQ (by simp only[go_sem,n2];rfl) hAl) rfl rfl rfl (by simp[o2])]
  refine⟨rfl,⟨bv,h.okt.up hu,h.okr.up hu,hn,h.ob,?_,cG⟩,fun k hk k1 k2 k3=>?_,hu⟩
  ·rw[x2,wZ h.okt (aC7 31)];simp only[s1,b5,x2];exact ht
  ·rw[aK k2,wZ hk (aC7 31),hk.set,aK k2,hk.set,aK k3,hk.set,hk.set])
theorem xX (hk:k<=xs.length):kP false size en (.fz xs) none (some (.i (k:Int))) none=some {v:= .fz (xs.take k)}:=by
 simp[kP,tY hk,uZ]
theorem aQ4 (h1:cU size xs=true)(hk:k<=xs.length):kP false size en (.fz xs) (some (.i (k:Int))) none none=some {v:= .fz (xs.drop k)}:=by
 simp[kP,tY hk,uZ,h1]
theorem aMl : ∀{j k:Nat},fX p left j=k+1->k<j/\ (p.node (left.getD k default).node).op=26
 |0,k,h=>by cases h
 |j+1,k,h=>by
  rw[pT]at h
  split at h
  ·rename_i h2
   obtain rfl:j=k:=by omega
   exact⟨by omega,h2⟩
  ·have:=aMl h;exact⟨by omega,this.2⟩
noncomputable def aNj :{c//L 288=some c}:=by
 have hL:=at_ func288
 conv at hL=>rhs;reduce
 exact⟨_,hL⟩
theorem bEt (P0:Pre p w0 S w a left f n)(h:TS kt kr en cnt p w a left f n [] bv)(hop:n.op=27):rI 288 kt kr en cnt p w a left f n (opR p w a left f n):=by
 have e:opR p w a left f n=(match fX p left left.length with
  |0=> .fail 3
  |k+1=>iU w ⟨5,0,[],left.drop k⟩ fun w' v=>kC w' (left.take (k+1)) (oY n 0) (f.env++[v])):=by unfold opR;rw[hop];rfl
 rw[e];have hk:=P0.kids;simp[fK,hop]at hk;have h30:=P0.env30;have h40:=P0.left40;have h120:=P0.objs;have H:=h.pre;have ht:=h.t;have hr:=h.r;have hwl:IntKind.i64.wrap ((left.length:Int)-1)=(left.length:Int)-1:=aW (by omega)
 cases hR:fX p left left.length with
 |zero=>
  simp only
  refine cC aNj.2 rfl rfl ?_
  simp only[go_sem,kK,aNj,ht,bPr,hwl]
  refine Go.Abs.wp_loop (fun(k:Nat) st=> ∃fr,st=⟨fr,en,cnt⟩/\ fr 0= .ptr kt 0/\ fr 3= .i ((k:Int)-1)/\ k<=left.length/\ fX p left k=fX p left left.length) (fun k=>k) left.length ⟨_,rfl,by simp only[go_sem],by simp only[go_sem],bPq _,rfl⟩ ?_
  rintro k st ⟨fr,rfl,k0,k3,hkl,hRk⟩
  rw[hR]at hRk;cases k with
  |zero=>
   have k3':fr 3= .i (-1):=by simpa using k3
   simp only[go_sem,kK,k3']
   refine dK 2 rfl ?_
   simp only[go_sem,bP0,bPw,k3',(kT _).ret];exact h.fell0 (fun _ _=>rfl) (aO _)
  |succ k=>
   have k3':fr 3= .i (k:Int):=by rw[k3];congr 1;omega
   have h':k<left.length:=by omega
   have d0:decide ((0:Int)<=(k:Int))=true:=D_t (by omega)
   have hfk:=P0.hl.ok _ (bPz h');have hgd:left.getD k default=left[k]:=by simp[bPu,h']
   have hwk:IntKind.i64.wrap ((k:Int)-1)=(k:Int)-1:=aW (by omega)
   rw[pT,hgd]at hRk
   split at hRk
   ·cases hRk
   rename_i h26;have d26:decide ((p.node left[k].node).op=26)=false:=D_f h26;simp only[go_sem,kK,k0,k3',ht,hr,h',d0,bK (fR hfk),d26,hwk];exact⟨k,⟨_,rfl,by simp only[go_sem,k0],by simp only[go_sem],by omega,by rw[hR];exact hRk⟩,by omega⟩
 |succ k=>
  simp only
  obtain⟨hk1,hk2⟩:=aMl hR;have hne:(left.drop k).map aB.enc≠[]:=by
   intro he;have h0:=congrArg List.length he
   simp at h0
   omega
  have hC:=wB ((left.drop k).map aB.enc) (jM _) (by simp;omega)
  rw[pY hne,bSp]at hC;have hsl:=fun en=>aQ4 (size:=3) (xs:=left.map aB.enc) (en:=en) (k:=k) (jM _) (by rw[bPr];omega)
  have hsh:=fun en=>xX (size:=3) (xs:=left.map aB.enc) (en:=en) (k:=k+1) (by rw[bPr];omega)
  have hl5:(List.drop k (left.map aB.enc)).length=(left.drop k).length:=by simp
  have hwk1:IntKind.i64.wrap ((k:Int)+1)=((k+1:Nat):Int):=by rw[aW (by omega)];omega
  obtain⟨⟨bv1,h1⟩,kk1⟩:=h.stay (cnt':=aC cnt 0 47 (cnt 0 47+1)) (en':=en.set ⟨0,47,cnt 0 47⟩ (some (.blk 3 (List.drop k (left.map aB.enc)) false))) (fun k hk=>by simp only[hk.set]) (by(repeat refine upS ?_ (by omega));exact aO _)
  unfold iU
  by_cases h20:120<=w.objs.length
  ·rw[if_pos h20]
   refine cC aNj.2 rfl rfl ?_
   simp only[go_sem,kK,aNj,ht,bPr,hwl]
   refine Go.Abs.wp_loop (fun(k:Nat) st=> ∃fr,st=⟨fr,en,cnt⟩/\ fr 0= .ptr kt 0/\ fr 3= .i ((k:Int)-1)/\ k<=left.length/\ fX p left k=fX p left left.length) (fun k=>k) left.length ⟨_,rfl,by simp only[go_sem],by simp only[go_sem],bPq _,rfl⟩ ?_
   rintro j st ⟨fr,rfl,k0,k3,hjl,hRj⟩
   cases j with
   |zero=>rw[hR]at hRj;cases hRj
   |succ j=>
    have k3':fr 3= .i (j:Int):=by rw[k3];congr 1;omega
    have h':j<left.length:=by omega
    have d0:decide ((0:Int)<=(j:Int))=true:=D_t (by omega)
    have hfk:=P0.hl.ok _ (bPz h');have hgd:left.getD j default=left[j]:=by simp[bPu,h']
    have hwk:IntKind.i64.wrap ((j:Int)-1)=(j:Int)-1:=aW (by omega)
    rw[pT,hgd]at hRj
    by_cases h26:(p.node left[j].node).op=26
    ·rw[if_pos h26,hR]at hRj
     obtain rfl:j=k:=by omega
     have d26:decide ((p.node left[j].node).op=26)=true:=D_t h26;simp only[go_sem,kK,k0,k3',ht,hr,h',d0,bK (fR hfk),d26]
     refine cA ?_
     simp only[go_sem,k3',d0,(iG _).ret]
     refine dK 9 rfl ?_
     simp only[go_sem,bP0,bPw,kB,k0,k3',ht,hsl,hC.ret,hl5,bQg];exact(pQ h1 (o:=⟨5,0,[],left.drop j⟩) (by omega) (by omega)).mono fun _ _ _=>pP.then kk1
    ·rw[if_neg h26]at hRj;have d26:decide ((p.node left[j].node).op=26)=false:=D_f h26;simp only[go_sem,kK,k0,k3',ht,hr,h',d0,bK (fR hfk),d26,hwk];exact⟨j,⟨_,rfl,by simp only[go_sem,k0],by simp only[go_sem],by omega,hRj⟩,by omega⟩
  ·rw[if_neg h20];unfold kC;show rI _ _ _ _ _ _ _ _ _ _ _ (if 30<(f.env++[dN w.objs.length]).length then OpR.fail 4 else rO (eC w ⟨5,0,[],left.drop k⟩) (left.take (k+1)) [⟨oY n 0,f.env++[dN w.objs.length],[]⟩])
   by_cases hc:30<(f.env++[dN w.objs.length]).length
   ·rw[if_pos hc];simp only[bP9,bPy,bP7]at hc;have hW:PX L 330 [.fz (f.env.map aD.enc),.fz [.agg [.i (dN w.objs.length).kind,.i (dN w.objs.length).n]]] (aF7 4):=aJp f.env [dN w.objs.length] (by simpa using hc) (by simp only[bPy,bP7];omega)
    refine cC aNj.2 rfl rfl ?_
    simp only[go_sem,kK,aNj,ht,bPr,hwl]
    refine Go.Abs.wp_loop (fun(k:Nat) st=> ∃fr,st=⟨fr,en,cnt⟩/\ fr 0= .ptr kt 0/\ fr 3= .i ((k:Int)-1)/\ k<=left.length/\ fX p left k=fX p left left.length) (fun k=>k) left.length ⟨_,rfl,by simp only[go_sem],by simp only[go_sem],bPq _,rfl⟩ ?_
    rintro j st ⟨fr,rfl,k0,k3,hjl,hRj⟩
    cases j with
    |zero=>rw[hR]at hRj;cases hRj
    |succ j=>
     have k3':fr 3= .i (j:Int):=by rw[k3];congr 1;omega
     have h':j<left.length:=by omega
     have d0:decide ((0:Int)<=(j:Int))=true:=D_t (by omega)
     have hfk:=P0.hl.ok _ (bPz h');have hgd:left.getD j default=left[j]:=by simp[bPu,h']
     have hwk:IntKind.i64.wrap ((j:Int)-1)=(j:Int)-1:=aW (by omega)
     rw[pT,hgd]at hRj
     by_cases h26:(p.node left[j].node).op=26
     ·rw[if_pos h26,hR]at hRj
      obtain rfl:j=k:=by omega
      have d26:decide ((p.node left[j].node).op=26)=true:=D_t h26;simp only[go_sem,kK,k0,k3',ht,hr,h',d0,bK (fR hfk),d26]
      refine cA ?_
      simp only[go_sem,k3',d0,(iG _).ret]
      refine cA ?_
      simp only[go_sem,kB,k0,k3',ht,hsl,hC.ret,hl5,bQg]
      refine(aEq h1 (o:=⟨5,0,[],left.drop j⟩) (t:=47) (g:=cnt 0 47) (b:=false) (by rw[cG,bSp]) (by simp[aC]) (.inr rfl) (by omega)).mono ?_
      rintro v e2 c2 ⟨rfl,⟨bv2,t2⟩,old2,up2⟩
      have ht2:=t2.t;have hr2:=t2.r;have y1:=t2.okt.set;have y2:=t2.okr.set;have y3:=t2.okt.eqF;have y4:=t2.okt.eqF';have y7:=t2.okt.new;simp only[go_sem,k0];simp only[go_sem,k3',ht2,y1,hwk1,hsh];have t3:TS kt kr (((e2.set ⟨0,4,c2 0 4⟩ (some (.box [.i 0,.i 0] false))).set ⟨0,4,c2 0 4⟩ (some (.box [.i (dN w.objs.length).kind,.i (dN w.objs.length).n] false))).set kt (some (.box [.ptr kr 0,.i a,.fz ((left.map aB.enc).take (j+1)),.i f.node,.fz (f.env.map aD.enc),.fz (f.vals.map aD.enc),.i n.op,.i n.n,.is n.kids,.fz (n.pats.map Pat.enc),bv2] false))) (aC c2 0 4 (c2 0 4+1)) p (eC w ⟨5,0,[],left.drop j⟩) a (left.take (j+1)) f n [] bv2:=
       ⟨t2.okt.up (by(repeat refine upS ?_ (by omega));exact aO _),t2.okr.up (by(repeat refine upS ?_ (by omega));exact aO _),t2.ne,t2.ob,by rw[cG,bRe],by rw[aK t2.ne,y2,y2];exact hr2⟩
      have hu3: ∀t,cnt 0 t<=c2 0 t:=fun t=>bP2 (((by(repeat refine upS ?_ (by omega));exact aO _): ∀t,cnt 0 t<=aC cnt 0 47 (cnt 0 47+1) 0 t) t) (up2 t)
      have k3:dT kt kr en cnt (((e2.set ⟨0,4,c2 0 4⟩ (some (.box [.i 0,.i 0] false))).set ⟨0,4,c2 0 4⟩ (some (.box [.i (dN w.objs.length).kind,.i (dN w.objs.length).n] false))).set kt (some (.box [.ptr kr 0,.i a,.fz ((left.map aB.enc).take (j+1)),.i f.node,.fz (f.env.map aD.enc),.fz (f.vals.map aD.enc),.i n.op,.i n.n,.is n.kids,.fz (n.pats.map Pat.enc),bv2] false))) (aC c2 0 4 (c2 0 4+1)):=
       ⟨fun k hk q1 q2=>by rw[aK q1,(hk.up hu3).set,(hk.up hu3).set,old2 k (hk.up (by(repeat refine upS ?_ (by omega));exact aO _)) q1 q2 hk.ne,hk.set],fun t=>bP2 (hu3 t) (((by(repeat refine upS ?_ (by omega));exact aO _): ∀t,c2 0 t<=aC c2 0 4 (c2 0 4+1) 0 t) t)⟩
      refine mF 8 rfl rfl ?_
      simp only[go_sem,bP0,bPw,bQ5,bQ4,sI,k0,y7,hW.ret,kA,kF];exact⟨rfl,pP.then k3 (t3.fell0 (fun _ _=>rfl) (aO _))⟩
     ·rw[if_neg h26]at hRj;have d26:decide ((p.node left[j].node).op=26)=false:=D_f h26;simp only[go_sem,kK,k0,k3',ht,hr,h',d0,bK (fR hfk),d26,hwk];exact⟨j,⟨_,rfl,by simp only[go_sem,k0],by simp only[go_sem],by omega,hRj⟩,by omega⟩
   ·rw[if_neg hc];simp only[bP9,bPy,bP7]at hc;have hW:PC L 330 [.fz (f.env.map aD.enc),.fz [.agg [.i (dN w.objs.length).kind,.i (dN w.objs.length).n]]] (.fz ((f.env++[dN w.objs.length]).map aD.enc)):=aGc f.env [dN w.objs.length] (by simp only[bPy,bP7];omega)
    unfold rO
    by_cases hc2:40<(left.take (k+1)++[(⟨oY n 0,f.env++[dN w.objs.length],[]⟩:aB)]).length
    ·rw[if_pos hc2];simp only[bP9,bPy,bP7,bQx]at hc2
     refine cC aNj.2 rfl rfl ?_
     simp only[go_sem,kK,aNj,ht,bPr,hwl]
     refine Go.Abs.wp_loop (fun(k:Nat) st=> ∃fr,st=⟨fr,en,cnt⟩/\ fr 0= .ptr kt 0/\ fr 3= .i ((k:Int)-1)/\ k<=left.length/\ fX p left k=fX p left left.length) (fun k=>k) left.length ⟨_,rfl,by simp only[go_sem],by simp only[go_sem],bPq _,rfl⟩ ?_
     rintro j st ⟨fr,rfl,k0,k3,hjl,hRj⟩
     cases j with
     |zero=>rw[hR]at hRj;cases hRj
     |succ j=>
      have k3':fr 3= .i (j:Int):=by rw[k3];congr 1;omega
      have h':j<left.length:=by omega
      have d0:decide ((0:Int)<=(j:Int))=true:=D_t (by omega)
      have hfk:=P0.hl.ok _ (bPz h');have hgd:left.getD j default=left[j]:=by simp[bPu,h']
      have hwk:IntKind.i64.wrap ((j:Int)-1)=(j:Int)-1:=aW (by omega)
      rw[pT,hgd]at hRj
      by_cases h26:(p.node left[j].node).op=26
      ·rw[if_pos h26,hR]at hRj
       obtain rfl:j=k:=by omega
       have d26:decide ((p.node left[j].node).op=26)=true:=D_t h26;simp only[go_sem,kK,k0,k3',ht,hr,h',d0,bK (fR hfk),d26]
       refine cA ?_
       simp only[go_sem,k3',d0,(iG _).ret]
       refine cA ?_
       simp only[go_sem,kB,k0,k3',ht,hsl,hC.ret,hl5,bQg]
       refine(aEq h1 (o:=⟨5,0,[],left.drop j⟩) (t:=47) (g:=cnt 0 47) (b:=false) (by rw[cG,bSp]) (by simp[aC]) (.inr rfl) (by omega)).mono ?_
       rintro v e2 c2 ⟨rfl,⟨bv2,t2⟩,old2,up2⟩
       have ht2:=t2.t;have hr2:=t2.r;have y1:=t2.okt.set;have y2:=t2.okr.set;have y3:=t2.okt.eqF;have y4:=t2.okt.eqF';have y7:=t2.okt.new;simp only[go_sem,k0];simp only[go_sem,k3',ht2,y1,hwk1,hsh];have t3:TS kt kr (((e2.set ⟨0,4,c2 0 4⟩ (some (.box [.i 0,.i 0] false))).set ⟨0,4,c2 0 4⟩ (some (.box [.i (dN w.objs.length).kind,.i (dN w.objs.length).n] false))).set kt (some (.box [.ptr kr 0,.i a,.fz ((left.map aB.enc).take (j+1)),.i f.node,.fz (f.env.map aD.enc),.fz (f.vals.map aD.enc),.i n.op,.i n.n,.is n.kids,.fz (n.pats.map Pat.enc),bv2] false))) (aC c2 0 4 (c2 0 4+1)) p (eC w ⟨5,0,[],left.drop j⟩) a (left.take (j+1)) f n [] bv2:=
        ⟨t2.okt.up (by(repeat refine upS ?_ (by omega));exact aO _),t2.okr.up (by(repeat refine upS ?_ (by omega));exact aO _),t2.ne,t2.ob,by rw[cG,bRe],by rw[aK t2.ne,y2,y2];exact hr2⟩
       have hu3: ∀t,cnt 0 t<=c2 0 t:=fun t=>bP2 (((by(repeat refine upS ?_ (by omega));exact aO _): ∀t,cnt 0 t<=aC cnt 0 47 (cnt 0 47+1) 0 t) t) (up2 t)
       have k3:dT kt kr en cnt (((e2.set ⟨0,4,c2 0 4⟩ (some (.box [.i 0,.i 0] false))).set ⟨0,4,c2 0 4⟩ (some (.box [.i (dN w.objs.length).kind,.i (dN w.objs.length).n] false))).set kt (some (.box [.ptr kr 0,.i a,.fz ((left.map aB.enc).take (j+1)),.i f.node,.fz (f.env.map aD.enc),.fz (f.vals.map aD.enc),.i n.op,.i n.n,.is n.kids,.fz (n.pats.map Pat.enc),bv2] false))) (aC c2 0 4 (c2 0 4+1)):=
        ⟨fun k hk q1 q2=>by rw[aK q1,(hk.up hu3).set,(hk.up hu3).set,old2 k (hk.up (by(repeat refine upS ?_ (by omega));exact aO _)) q1 q2 hk.ne,hk.set],fun t=>bP2 (hu3 t) (((by(repeat refine upS ?_ (by omega));exact aO _): ∀t,c2 0 t<=aC c2 0 4 (c2 0 4+1) 0 t) t)⟩
       refine mF 9 rfl rfl ?_
       simp only[go_sem,bP0,bPw,bQ5,bQ4,sI,k0,y7,hW.ret,kA,kF];exact⟨rfl,(zB t3 (i:=0) (env:=f.env++[dN w.objs.length]) (by omega) (.inl rfl) (by rw[bQx];omega)).mono fun _ _ _=>pP.then k3⟩
      ·rw[if_neg h26]at hRj;have d26:decide ((p.node left[j].node).op=26)=false:=D_f h26;simp only[go_sem,kK,k0,k3',ht,hr,h',d0,bK (fR hfk),d26,hwk];exact⟨j,⟨_,rfl,by simp only[go_sem,k0],by simp only[go_sem],by omega,hRj⟩,by omega⟩
    ·rw[if_neg hc2];simp only[bP9,bPy,bP7,bQx]at hc2
     refine bD aNj.2 rfl rfl ?_
     simp only[go_sem,kK,aNj,ht,bPr,hwl]
     refine Go.Abs.wp_loop (fun(k:Nat) st=> ∃fr,st=⟨fr,en,cnt⟩/\ fr 0= .ptr kt 0/\ fr 3= .i ((k:Int)-1)/\ k<=left.length/\ fX p left k=fX p left left.length) (fun k=>k) left.length ⟨_,rfl,by simp only[go_sem],by simp only[go_sem],bPq _,rfl⟩ ?_
     rintro j st ⟨fr,rfl,k0,k3,hjl,hRj⟩
     cases j with
     |zero=>rw[hR]at hRj;cases hRj
     |succ j=>
      have k3':fr 3= .i (j:Int):=by rw[k3];congr 1;omega
      have h':j<left.length:=by omega
      have d0:decide ((0:Int)<=(j:Int))=true:=D_t (by omega)
      have hfk:=P0.hl.ok _ (bPz h');have hgd:left.getD j default=left[j]:=by simp[bPu,h']
      have hwk:IntKind.i64.wrap ((j:Int)-1)=(j:Int)-1:=aW (by omega)
      rw[pT,hgd]at hRj
      by_cases h26:(p.node left[j].node).op=26
      ·rw[if_pos h26,hR]at hRj
       obtain rfl:j=k:=by omega
       have d26:decide ((p.node left[j].node).op=26)=true:=D_t h26;simp only[go_sem,kK,k0,k3',ht,hr,h',d0,bK (fR hfk),d26]
       refine cA ?_
       simp only[go_sem,k3',d0,(iG _).ret]
       refine cA ?_
       simp only[go_sem,kB,k0,k3',ht,hsl,hC.ret,hl5,bQg]
       refine(aEq h1 (o:=⟨5,0,[],left.drop j⟩) (t:=47) (g:=cnt 0 47) (b:=false) (by rw[cG,bSp]) (by simp[aC]) (.inr rfl) (by omega)).mono ?_
       rintro v e2 c2 ⟨rfl,⟨bv2,t2⟩,old2,up2⟩
       have ht2:=t2.t;have hr2:=t2.r;have y1:=t2.okt.set;have y2:=t2.okr.set;have y3:=t2.okt.eqF;have y4:=t2.okt.eqF';have y7:=t2.okt.new;simp only[go_sem,k0];simp only[go_sem,k3',ht2,y1,hwk1,hsh];have t3:TS kt kr (((e2.set ⟨0,4,c2 0 4⟩ (some (.box [.i 0,.i 0] false))).set ⟨0,4,c2 0 4⟩ (some (.box [.i (dN w.objs.length).kind,.i (dN w.objs.length).n] false))).set kt (some (.box [.ptr kr 0,.i a,.fz ((left.map aB.enc).take (j+1)),.i f.node,.fz (f.env.map aD.enc),.fz (f.vals.map aD.enc),.i n.op,.i n.n,.is n.kids,.fz (n.pats.map Pat.enc),bv2] false))) (aC c2 0 4 (c2 0 4+1)) p (eC w ⟨5,0,[],left.drop j⟩) a (left.take (j+1)) f n [] bv2:=
        ⟨t2.okt.up (by(repeat refine upS ?_ (by omega));exact aO _),t2.okr.up (by(repeat refine upS ?_ (by omega));exact aO _),t2.ne,t2.ob,by rw[cG,bRe],by rw[aK t2.ne,y2,y2];exact hr2⟩
       have hu3: ∀t,cnt 0 t<=c2 0 t:=fun t=>bP2 (((by(repeat refine upS ?_ (by omega));exact aO _): ∀t,cnt 0 t<=aC cnt 0 47 (cnt 0 47+1) 0 t) t) (up2 t)
       have k3:dT kt kr en cnt (((e2.set ⟨0,4,c2 0 4⟩ (some (.box [.i 0,.i 0] false))).set ⟨0,4,c2 0 4⟩ (some (.box [.i (dN w.objs.length).kind,.i (dN w.objs.length).n] false))).set kt (some (.box [.ptr kr 0,.i a,.fz ((left.map aB.enc).take (j+1)),.i f.node,.fz (f.env.map aD.enc),.fz (f.vals.map aD.enc),.i n.op,.i n.n,.is n.kids,.fz (n.pats.map Pat.enc),bv2] false))) (aC c2 0 4 (c2 0 4+1)):=
        ⟨fun k hk q1 q2=>by rw[aK q1,(hk.up hu3).set,(hk.up hu3).set,old2 k (hk.up (by(repeat refine upS ?_ (by omega));exact aO _)) q1 q2 hk.ne,hk.set],fun t=>bP2 (hu3 t) (((by(repeat refine upS ?_ (by omega));exact aO _): ∀t,c2 0 t<=aC c2 0 4 (c2 0 4+1) 0 t) t)⟩
       refine jQ ?_
       simp only[go_sem,k0,y7,hW.ret,kA,kF]
       refine(zA t3 (i:=0) (env:=f.env++[dN w.objs.length]) (by omega) (.inl rfl) (by rw[bQx];omega)).mono ?_
       rintro v e5 c5 ⟨rfl,t5,k5⟩
       exact⟨rfl,t5,k3.trans k5⟩
      ·rw[if_neg h26]at hRj;have d26:decide ((p.node left[j].node).op=26)=false:=D_f h26;simp only[go_sem,kK,k0,k3',ht,hr,h',d0,bK (fR hfk),d26,hwk];exact⟨j,⟨_,rfl,by simp only[go_sem,k0],by simp only[go_sem],by omega,hRj⟩,by omega⟩
theorem aMm (hb:eP p w u v=some b):b.vals=[]:=by
 unfold eP at hb
 split at hb
 ·simp only[bPo]at hb;subst hb;rfl
 ·split at hb
  ·simp only[bPo]at hb;subst hb;rfl
  ·cases hb
theorem lC {an:List (List Nat)}{A:Nat}{k:Key}{rs:List Res}(j:Nat){v:Val}{m:En×(Nat->Nat->Nat)}{u:Key->Bool}(hj:rs[j]?=some {v:=v,mem:=some m,unch:=u})(hu:u k=true)(h:pI an A k (rs.set j sI)=true):pI an A k rs=true:=by
 unfold pI at h⊢;rw[bRp]at h
 refine bPv.2 fun i hi=>?_
 have:=bPv.1 h i hi
 by_cases hij:j=i
 ·subst hij;rw[hj];simp only[aPc,hu,bRq]
 ·rw[List.getElem?_set_ne hij]at this;exact this
noncomputable def aJf :{c//L 269=some c}:=by
 have hL:=at_ func269
 conv at hL=>rhs;reduce
 exact⟨_,hL⟩
theorem bH8 (P0:Pre p w0 S w a left f n)(h:TS kt kr en cnt p w a left f n [] bv)(hop:n.op=6):rI 269 kt kr en cnt p w a left f n (opR p w a left f n):=by
 have e:opR p w a left f n=(match eP p w (aE f.vals 0) (aE f.vals 1)with
  |some b=>kC w left b.node b.env
  |none=>if cK w (aE f.vals 0) 5=true then(if 40<(left++(w.obj (aE f.vals 0).n).frames).length then .fail 4 else .go none w (left++(w.obj (aE f.vals 0).n).frames) [aE f.vals 1])else .fail 2):=by unfold opR;rw[hop];rfl
 rw[e];have hfull:=P0.full;simp[aM.asks,hop]at hfull;have hv0:0<f.vals.length:=by omega
 have hv1:1<f.vals.length:=by omega
 have hu:=P0.val hv0;have h40:=P0.left40;have H:=h.pre;have ht:=h.t;obtain⟨⟨bv1,h1⟩,k1⟩:=h.stay (cnt':=aC cnt 0 3 (cnt 0 3+1)) (en':=en.set ⟨0,3,cnt 0 3⟩ (some (.box [.i 0,.cl [],.cl []] false))) (fun k hk=>by simp only[hk.set]) (by(repeat refine upS ?_ (by omega));exact aO _)
 cases hb:eP p w (aE f.vals 0) (aE f.vals 1)with
 |some b=>
  simp only
  have hbv:=aMm hb;unfold kC
  by_cases hc:30<b.env.length
  ·rw[if_pos hc]
   refine cC aJf.2 rfl rfl ?_
   simp only[go_sem,kK,aJf]
   refine aSv rfl 15 rfl rfl ?_
   simp only[go_sem,bP0,bPw,bQ5,bQ4,sI,bRs,bRr,ht,H,aS hv0,gK hv1,kA,kF];exact⟨rfl,(aMj h1 P0.hp P0.hF hu hb hc).mono fun _ _ _=>pP.then k1⟩
  ·rw[if_neg hc];have hC:=aMi h1 P0.hp P0.hF hu hb (by omega)
   unfold rO
   by_cases hc2:40<(left++[(⟨b.node,b.env,[]⟩:aB)]).length
   ·rw[if_pos hc2];simp only[bP9,bPy,bP7]at hc2
    refine cC aJf.2 rfl rfl ?_
    simp only[go_sem,kK,aJf]
    refine oV rfl ?_
    simp only[go_sem,bRs,bRr,ht,H,aS hv0,gK hv1,kA]
    refine hC.mono ?_
    rintro v e1 c1 ⟨⟨ev,hev,_,rfl⟩,⟨bv2,t2⟩,k2⟩
    obtain⟨p3,q3⟩:=k2.loc (d:=3) (g:=cnt 0 3) (by simp only[go_sem];omega) h.okt.ne.symm h.okr.ne.symm
    simp only[go_sem]at p3;simp only[go_sem,kK,p3,kA,kF]
    refine⟨rfl,lC 15 rfl (by simp only[p3,cG];rfl) rfl,?_⟩
    obtain⟨⟨bv3,t3⟩,k3⟩:=h.fin t2 (k1.trans k2) (cnt2:=c1) (en2:=e1.set ⟨0,3,cnt 0 3⟩ (some (.box [.i b.node,ev,.cl []] false))) (fun k hk _=>by simp only[hk.set]) (aO _)
    refine dK 3 rfl ?_
    rcases hev with rfl|rfl<;>
    (simp only[go_sem,bP0,bPw,bQ5,bQ4]
     exact(aL0 t3 (l:=[⟨b.node,b.env,[]⟩]) (.inr rfl) (by simp only[bPy,bP7];omega) (by simp only[bPy,bP7];omega)).mono fun _ _ _=>pP.then k3)
   ·rw[if_neg hc2];simp only[bP9,bPy,bP7]at hc2
    refine bD aJf.2 rfl rfl ?_
    simp only[go_sem,kK,aJf]
    refine oV rfl ?_
    simp only[go_sem,bRs,bRr,ht,H,aS hv0,gK hv1,kA]
    refine hC.mono ?_
    rintro v e1 c1 ⟨⟨ev,hev,_,rfl⟩,⟨bv2,t2⟩,k2⟩
    obtain⟨p3,q3⟩:=k2.loc (d:=3) (g:=cnt 0 3) (by simp only[go_sem];omega) h.okt.ne.symm h.okr.ne.symm
    simp only[go_sem]at p3;simp only[go_sem,kK,p3,kA,kF]
    refine⟨rfl,lC 15 rfl (by simp only[p3,cG];rfl) rfl,?_⟩
    obtain⟨⟨bv3,t3⟩,k3⟩:=h.fin t2 (k1.trans k2) (cnt2:=c1) (en2:=e1.set ⟨0,3,cnt 0 3⟩ (some (.box [.i b.node,ev,.cl []] false))) (fun k hk _=>by simp only[hk.set]) (aO _)
    refine cA ?_
    rcases hev with rfl|rfl<;>
    (simp only[go_sem]
     refine(aGb t3 (l:=[⟨b.node,b.env,[]⟩]) (.inr rfl) (by simp only[bPy,bP7];omega)).mono ?_
     rintro v e4 c4 ⟨_,t4,k4⟩
     exact⟨rfl,t4,k3.trans k4⟩)
 |none=>
  simp only
  have hC:=aI2 h1 hu hb
  by_cases hI:cK w (aE f.vals 0) 5=true
  ·rw[if_pos hI];have hW:=fun e1 c1 bv2 (t2:TS kt kr e1 c1 p w a left f n [] bv2)=>vV t2 (fZ hu) 5 hI
   obtain⟨a1,a2,a3,a4⟩:=fI P0.hF hu hI;have hfl:=(aGi P0.hsp (aC9 a2.ok).2).1;generalize w.obj (aE f.vals 0).n=o at a2 a3 hW hfl⊢
   by_cases hc2:40<(left++o.frames).length
   ·rw[if_pos hc2];simp only[bP9]at hc2
    refine cC aJf.2 rfl rfl ?_
    simp only[go_sem,kK,aJf]
    refine oV rfl ?_
    simp only[go_sem,bRs,bRr,ht,H,aS hv0,gK hv1,kA]
    refine hC.mono ?_
    rintro v e1 c1 ⟨⟨xx,rfl,rfl⟩,⟨bv2,t2⟩,k2⟩
    obtain⟨p3,q3⟩:=k2.loc (d:=3) (g:=cnt 0 3) (by simp only[go_sem];omega) h.okt.ne.symm h.okr.ne.symm
    simp only[go_sem]at p3;simp only[go_sem,kK,p3,kA,kF]
    refine⟨rfl,lC 15 rfl (by simp only[p3,cG];rfl) rfl,?_⟩
    obtain⟨⟨bv3,t3⟩,k3⟩:=h.fin t2 (k1.trans k2) (cnt2:=c1) (en2:=e1.set ⟨0,3,cnt 0 3⟩ (some (.box [.i 0,.cl [],.cl []] false))) (fun k hk _=>by simp only[hk.set]) (aO _)
    have ht2:=t2.t
    refine cA ?_
    simp only[go_sem,H,ht2,aS hv0]
    refine(hW _ _ _ t3).mono ?_
    rintro v e4 c4 ⟨rfl,⟨bv4,t4⟩,k4⟩
    simp only[go_sem]
    refine dK 3 rfl ?_
    simp only[go_sem,bP0,bPw];obtain⟨⟨bv5,t5⟩,k5⟩:=t3.fin t4 k4 (cnt2:=aC c4 0 5 (c4 0 5+1)) (en2:=(e4.set ⟨0,5,c4 0 5⟩ (some (.box [.i 0,.i 0,.cl [],.cl []] false))).set ⟨0,5,c4 0 5⟩ (some (.box [.i o.form,.i o.n,.fz (o.vals.map aD.enc),.fz (o.frames.map aB.enc)] false))) (fun k hk hj=>by simp only[hj.set]) (by(repeat refine upS ?_ (by omega));exact aO _)
    exact(aL0 t5 (l:=o.frames) (.inl rfl) (by omega) (by omega)).mono fun _ _ _=>pP.then (k3.trans k5)
   ·rw[if_neg hc2];simp only[bP9]at hc2
    refine bD aJf.2 rfl rfl ?_
    simp only[go_sem,kK,aJf]
    refine oV rfl ?_
    simp only[go_sem,bRs,bRr,ht,H,aS hv0,gK hv1,kA]
    refine hC.mono ?_
    rintro v e1 c1 ⟨⟨xx,rfl,rfl⟩,⟨bv2,t2⟩,k2⟩
    obtain⟨p3,q3⟩:=k2.loc (d:=3) (g:=cnt 0 3) (by simp only[go_sem];omega) h.okt.ne.symm h.okr.ne.symm
    simp only[go_sem]at p3;simp only[go_sem,kK,p3,kA,kF]
    refine⟨rfl,lC 15 rfl (by simp only[p3,cG];rfl) rfl,?_⟩
    obtain⟨⟨bv3,t3⟩,k3⟩:=h.fin t2 (k1.trans k2) (cnt2:=c1) (en2:=e1.set ⟨0,3,cnt 0 3⟩ (some (.box [.i 0,.cl [],.cl []] false))) (fun k hk _=>by simp only[hk.set]) (aO _)
    have ht2:=t2.t
    refine cA ?_
    simp only[go_sem,H,ht2,aS hv0]
    refine(hW _ _ _ t3).mono ?_
    rintro v e4 c4 ⟨rfl,⟨bv4,t4⟩,k4⟩
    simp only[go_sem];obtain⟨⟨bv5,t5⟩,k5⟩:=t3.fin t4 k4 (cnt2:=aC c4 0 5 (c4 0 5+1)) (en2:=(e4.set ⟨0,5,c4 0 5⟩ (some (.box [.i 0,.i 0,.cl [],.cl []] false))).set ⟨0,5,c4 0 5⟩ (some (.box [.i o.form,.i o.n,.fz (o.vals.map aD.enc),.fz (o.frames.map aB.enc)] false))) (fun k hk hj=>by simp only[hj.set]) (by(repeat refine upS ?_ (by omega));exact aO _)
    refine cA ?_
    simp only[go_sem]
    refine(aGb t5 (l:=o.frames) (.inl rfl) (by omega)).mono ?_
    rintro v e6 c6 ⟨_,⟨bv6,t6⟩,k6⟩
    have ht6:=t6.t;simp only[go_sem,ht6,gK hv1]
    refine(jA t6 (aE f.vals 1)).mono ?_
    rintro r e7 c7 ⟨rfl,t7,k7⟩
    exact⟨rfl,t7,((k3.trans k5).trans k6).trans k7⟩
  ·rw[if_neg hI];rw[bQ0]at hI
   refine cC aJf.2 rfl rfl ?_
   simp only[go_sem,kK,aJf]
   refine oV rfl ?_
   simp only[go_sem,bRs,bRr,ht,H,aS hv0,gK hv1,kA]
   refine hC.mono ?_
   rintro v e1 c1 ⟨⟨xx,rfl,rfl⟩,⟨bv2,t2⟩,k2⟩
   obtain⟨p3,q3⟩:=k2.loc (d:=3) (g:=cnt 0 3) (by simp only[go_sem];omega) h.okt.ne.symm h.okr.ne.symm
   simp only[go_sem]at p3;simp only[go_sem,kK,p3,kA,kF]
   refine⟨rfl,lC 15 rfl (by simp only[p3,cG];rfl) rfl,?_⟩
   obtain⟨⟨bv3,t3⟩,k3⟩:=h.fin t2 (k1.trans k2) (cnt2:=c1) (en2:=e1.set ⟨0,3,cnt 0 3⟩ (some (.box [.i 0,.cl [],.cl []] false))) (fun k hk _=>by simp only[hk.set]) (aO _)
   have ht2:=t2.t
   refine dK 8 rfl ?_
   simp only[go_sem,bP0,bPw,H,ht2,aS hv0];exact(vW t3 (fZ hu) 5 hI).mono fun _ _ _=>pP.then k3
end
theorem sS (ha:inR a 0 ((w.tasks.length:Int)-1)=true):oU 1 en (.fz (w.tasks.map (.int .i64))) (.i a)=some {v:= .fp [.i (bG w a)] 0}:=vB ha
noncomputable def c76 :{c//L 76=some c}:=by
 have hL:=at_ func76
 conv at hL=>rhs;reduce
 exact⟨_,hL⟩
set_option maxHeartbeats 1600000 in
theorem aDe (hp:dU p)(hsp:aR p=true)(h:cM p w0 S w)(ha:inR a 0 ((w.tasks.length:Int)-1)=true):
  PC L 76 [.agg p.cs,.agg w.cs,.i a] (.agg [.fz ((aV p w a).w.objs.map aQ.enc),.fz ((aV p w a).w.tasks.map (.int .i64)),.fz ((aV p w a).w.outs.map bJ.enc),.fz ((aV p w a).w.ins.map (.int .i64)),.i (aV p w a).w.used,.i (aV p w a).what,.i (aV p w a).e.task,.i (aV p w a).e.act,.i (aV p w a).e.n,.i (aV p w a).e.v.kind,.i (aV p w a).e.v.n]):=by
 have hfit:=vY h ha;obtain⟨t1,t2,t3⟩:=h.task ha;have hO:=h.obj t1 t3;have hset:=fun o=>aXf w a o hfit
 have honto:=fun left node env hl=>aC8 w a left node env hfit hl
 unfold aV
 simp only
 have hio:=fun en=>zZ (w:=w) (k:= .i64) (en:=en) t1
 generalize ho:w.obj (bG w a)=o at hO t2 hio⊢;have hk:=hO.ok;rw[dQ,if_pos t2,kG]at hk
 by_cases n0:o.n=0
 ·have d0:decide (o.n=0)=true:=D_t n0;rw[if_neg (fun h=>h n0)]
  rw[if_pos n0]at hk;simp only[bU,bPp,bTe,bPv,bA]at hk;obtain⟨⟨⟨⟨k1,k2⟩,k3,k4⟩,k5⟩,k6⟩:=hk;have hF: ∀f∈o.frames,FOk p S w f:=fun f hf=>hO.frames hf
  have hwt:IntKind.i64.wrap ((o.frames.length:Int)-1)=(o.frames.length:Int)-1:=aW (by omega)
  by_cases hv1:o.vals.length=1
  ·have dv:decide (o.vals.length=1)=true:=D_t hv1;have dv':decide ((o.vals.length:Int)=1)=true:=D_t (by omega)
   rw[if_pos hv1]
   by_cases hf0:o.frames.length=0
   ·rw[if_pos hf0];have hS:=hset ⟨6,1,[aE o.vals 0],[]⟩;simp only[bQj,bP1,aMe]at hS;have df:decide ((o.frames.length:Int)-1<0)=true:=D_t (by omega)
    refine aI c76.2 rfl rfl ?_
    simp only[go_sem,kK,c76]
    refine aH ?_
    simp only[go_sem,kK,sS ha,hio,kA,bPs,if_false];simp only[go_sem,kK,d0,dv',hwt,aS (l:=o.vals) (by omega),df]
    refine aH ?_
    simp only[go_sem,sS ha,qO,lR,hS.ret,(aOn _).ret,kA,bPs,if_false]
   ·rw[if_neg hf0];obtain⟨m,hm⟩: ∃m,o.frames.length=m+1:=⟨o.frames.length-1,by omega⟩
    have hmn:m<o.frames.length:=by omega
    have df:decide ((m:Int)<0)=false:=D_f (by omega)
    have hwt:IntKind.i64.wrap ((o.frames.length:Int)-1)=(m:Int):=by rw[hwt];omega
    have hgd:o.frames.getD (o.frames.length-1) fF=o.frames[m]:=by
     rw[show o.frames.length-1=m by omega];simp[bPu,hmn]
    have hgz:(o.frames.map aB.enc)[m]?=some (aB.enc o.frames[m]):=by simp[hmn]
    have hlF:aDx o.frames (aE o.vals 0)=o.frames.set m ⟨o.frames[m].node,o.frames[m].env,o.frames[m].vals++[aE o.vals 0]⟩:=by
     unfold aDx;rw[hgd,show o.frames.length-1=m by omega]
    rw[hlF];have hS:=hset ⟨6,0,[],o.frames.set m ⟨o.frames[m].node,o.frames[m].env,o.frames[m].vals++[aE o.vals 0]⟩⟩;simp only[bR4,bP1,aB.enc]at hS;have hfm:=(hF _ (bPz hmn)).ok;have hal:=aQy hsp (fR (hF _ (bPz hmn)));simp only[dI,bA,bPp,bTe]at hfm;have hM:=aF6 o.frames[m].vals (aE o.vals 0) (by omega)
    have hfe:o.frames.isEmpty=false:=aLt (by omega)
    have hf16:o.frames.length<=16777216:=by omega
    have hmi:((m:Int)<(o.frames.length:Int)):=by omega
    refine aI c76.2 rfl rfl ?_
    simp only[go_sem,kK,c76]
    refine aH ?_
    simp only[go_sem,kK,sS ha,hio,kA,bPs,if_false];simp only[go_sem,kK,d0,dv',hwt,aS (l:=o.vals) (by omega),df,bM,dY,gX,iR,hfe,hf16,jM,hgz,hmi,sS ha,hM.ret,fD,bSa,bQo,bPr,bRp,bPq,bQa,rT,lS,hS.ret,eB,jL]
  ·have dv':decide ((o.vals.length:Int)=1)=false:=D_f (by omega)
   rw[if_neg hv1];have hz:o.vals.length=0:=by omega
   obtain⟨m,hm⟩: ∃m,o.frames.length=m+1:=⟨o.frames.length-1,by omega⟩
   have hmn:m<o.frames.length:=by omega
   have hwt:IntKind.i64.wrap ((o.frames.length:Int)-1)=(m:Int):=by rw[hwt];omega
   have hgd:o.frames.getD (o.frames.length-1) fF=o.frames[m]:=by
    rw[show o.frames.length-1=m by omega];simp[bPu,hmn]
   rw[hgd];have hfo:=hF _ (bPz hmn);have hni:=fR hfo;have hok:=hp.nodes _ (iV hni);have hak:=aHt hok
   by_cases hop:(o.frames[m].vals.length:Int)<(p.node o.frames[m].node).asks
   ·have dop:decide ((o.frames[m].vals.length:Int)<(p.node o.frames[m].node).asks)=true:=D_t hop;rw[if_pos hop];have hN:=honto o.frames (oY (p.node o.frames[m].node) o.frames[m].vals.length) o.frames[m].env (by omega)
    refine aI c76.2 rfl rfl ?_
    simp only[go_sem,kK,c76]
    refine aH ?_
    simp only[go_sem,kK,sS ha,hio,kA,bPs,if_false];simp only[go_sem,kK,d0,dv',hwt,hmn,bK hni,(wS _).ret,dop,aXl (show inR (o.frames[m].vals.length:Int) 0 (((p.node o.frames[m].node).kids.length:Int)-1)=true by simp only[inR,bTe];omega),hN.ret]
   ·have dop:decide ((o.frames[m].vals.length:Int)<(p.node o.frames[m].node).asks)=false:=D_f hop;rw[if_neg hop];have hfull:(o.frames[m].vals.length:Int)=(p.node o.frames[m].node).asks:=by
     have:=hfo.ok;simp only[dI,bA,bPp,bTe]at this;omega
    have hl:LOk p S w (o.frames.take (o.frames.length-1)):=⟨by simp only[bQx];omega,fun f hf=>hF f (bR0 hf),fun f hf=>k6 f (by rw[hz,bQ9];exact hf)⟩
    have hD:=bEn hp hsp h ha hl hfo hfull;rw[show o.frames.length-1=m by omega]at hD⊢
    have hml:m<=o.frames.length:=by omega
    refine aI c76.2 rfl rfl ?_
    simp only[go_sem,kK,c76]
    refine aH ?_
    simp only[go_sem,kK,sS ha,hio,kA,bPs,if_false];simp only[go_sem,kK,d0,dv',hwt,hmn,bK hni,(wS _).ret,dop]
    refine aH ?_
    cases h0:(o.frames.take m).isEmpty with
    |true=>
     have h0':o.frames.take m=[]:=by simpa using h0
     rw[h0']at hD⊢;simp only[bP1]at hD;simp only[go_sem,vA,hml,<-bRe,h0',bP1,bPr,bM,dY,nB,hD.ret,kA,bPs,if_false]
    |false=>
     have h16:(o.frames.take m).length<=16777216:=by simp only[bQx];omega
     generalize hgm:o.frames.take m=dl at*;simp only[go_sem,vA,hml,<-bRe,hgm,bPr,bM,dY,gX,iR,h0,h16,jM,bPq,bQa,hD.ret,kA,bPs,if_false]
 ·have d0:decide (o.n=0)=false:=D_f n0;rw[if_pos n0]
  refine aI c76.2 rfl rfl ?_
  simp only[go_sem,kK,c76]
  refine aH ?_
  simp only[go_sem,kK,sS ha,hio,kA,bPs,if_false];simp only[go_sem,kK,d0,mL,eB,jL]
theorem aO1 (x:Int)(n:Nat)(hn:0<n)(hf:n<=1000000):PC L 77 [.i x,.i n] (.i (x%(n:Int))):=by
 have hL:=at_ func77
 conv at hL=>rhs;reduce
 refine aI hL rfl rfl ?_
 have h0: ¬((n:Int)=0):=by omega
 have h1:=Int.emod_nonneg x (show(n:Int)≠0 by omega)
 have h2:=Int.emod_lt_of_pos x (show 0<(n:Int)by omega)
 have e:=Int.tmod_eq_emod (a:=x) (b:=n)
 by_cases hc:0<=x \/(n:Int)∣x
 ·rw[if_pos hc]at e;have d:decide (x.tmod n<0)=false:=D_f (by omega)
  simp only[go_sem,kK,h0,d];rw[e];simp
 ·rw[if_neg hc]at e;have d:decide (x.tmod n<0)=true:=D_t (by omega)
  have hw:IntKind.i64.wrap (x.tmod n+n)=x%n:=by rw[aW (by omega)];omega
  simp only[go_sem,kK,h0,d,hw]
def bGd (agg:Bool)(off m:Nat):Val->Option Res
 | .agg cs=>if off+m<=cs.length then(iX agg ((cs.drop off).take m)).map fun v=>{v}else none
 |_=>none
variable {agg:Bool}{off:Nat}
section
variable {d:Nat}{get:Opd->Val}
theorem aHw {x:Opd}:dE d g en get (.fld agg off m x)=bGd agg off m (get x):=(rfl)
theorem aDf {cs:List Val}:bGd agg off m (.agg cs)=if off+m<=cs.length then(iX agg ((cs.drop off).take m)).map fun v=>{v}else none:=(rfl)
end
theorem aUa (hp:dU p)(hsp:aR p=true)(h:cM p w0 S w):PC L 75 [.agg p.cs,.agg w.cs] (.is (cH p w)):=by
 have hL:=at_ func75
 conv at hL=>rhs;reduce
 refine aI hL rfl rfl ?_
 have hw:=rX (lW hsp h.ok);have ht:w.tasks.length<=130:=by
  obtain⟨a1,a2,a3,a4,a5,a6,a7⟩:=cR.1 h.ok;have:=rE a5;omega
 simp only[go_sem,kK]
 refine bQ w.tasks.length (fun k st=> ∃fr en cnt v,st=⟨fr,en,cnt⟩/\ fr 2= .ptr ⟨0,2,0⟩ 0/\ en ⟨0,2,0⟩=some (.box [.fz (p.nodes.map aM.enc),.fz (p.funs.map (.int .i64)),.i p.main,.fz (p.cons.map cS.enc)] false)/\ fr 3= .ptr ⟨0,3,0⟩ 0/\ en ⟨0,3,0⟩=some (.box [.fz (w.objs.map aQ.enc),.fz (w.tasks.map (.int .i64)),.fz (w.outs.map bJ.enc),.fz (w.ins.map (.int .i64)),.i w.used] false)/\ fr 5=v/\ fr 6= .i k/\ cP en v 1 ((fY p w k).map (.int .i64)) [23]) 0 (bPx _) ⟨_,_,_,.cl [],rfl,by simp only[go_sem],by simp only[go_sem],by simp only[go_sem],by simp only[go_sem],by simp only[go_sem],by simp only[go_sem],cP.nil _ _⟩ ?_
 rintro k st hk ⟨fr,en,cnt,v,rfl,k2,e2,k3,e3,k5,k6,hv⟩
 simp only[go_sem,kK,k3,e3,k6]
 refine aG (fun hq=>?_) (fun hq=>?_)
 ·have h':k<w.tasks.length:=D_o hq;have ha:inR (k:Int) 0 ((w.tasks.length:Int)-1)=true:=by simp only[inR,bTe];omega
  have hS:=aDe hp hsp h ha;have hst:fY p w (k+1)=if(aV p w k).what=2 then fY p w k else fY p w k++[(k:Int)]:=by
   simp only[fY,List.range_succ,List.filter_append,bQs,List.filter_cons,List.filter_nil]
   by_cases hq:(aV p w (k:Int)).what=2<;>simp[hq]
  have hln:(fY p w k).length<=k:=by
   simp only[fY,bPr];exact bP2 (bS7 _ _) (by simp)
  by_cases h2:(aV p w k).what=2
  ·have d2:decide ((aV p w k).what=2)=true:=D_t h2;rw[if_pos h2]at hst;simp only[go_sem,kK,k2,e2,k3,e3,k6,h',hS.ret,aHw,aDf,d2]
   refine⟨_,_,_,v,rfl,?_⟩
   simp only[go_sem,k2,e2,k3,e3,k5,aT h' hw.tasks,hst];exact hv
  ·have d2:decide ((aV p w k).what=2)=false:=D_f h2;rw[if_neg h2]at hst;simp only[go_sem,kK,k2,e2,k3,e3,k5,k6,h',hS.ret,aHw,aDf,d2]
   refine kQ (D:=[23]) (xs:=(fY p w k).map (.int .i64)) (ys:=[.i (k:Int)]) (rs:=[]) ?_ ?_ ?_ ?_ ?_
   ·simp only[go_sem];exact hv
   ·simp only[go_sem]
   ·rfl
   ·simp only[bPr,bPy,bP7];omega
   ·intro v' en' cnt' hown hen hcnt;have q2:en' ⟨0,2,0⟩=some (.box [.fz (p.nodes.map aM.enc),.fz (p.funs.map (.int .i64)),.i p.main,.fz (p.cons.map cS.enc)] false):=by rw[hen 0 2 0 (.inr ⟨by decide,by simp⟩)];simp only[go_sem,e2]
    have q3:en' ⟨0,3,0⟩=some (.box [.fz (w.objs.map aQ.enc),.fz (w.tasks.map (.int .i64)),.fz (w.outs.map bJ.enc),.fz (w.ins.map (.int .i64)),.i w.used] false):=by rw[hen 0 3 0 (.inr ⟨by decide,by simp⟩)];simp only[go_sem,e3]
    simp only[go_sem,k6]
    refine⟨_,_,_,v',rfl,?_⟩
    simp only[go_sem,k2,q2,k3,q3,aT h' hw.tasks,hst,bQs];exact hown.sub (by simp)
 ·have:k=w.tasks.length:=by simp at hq;omega
  subst this;obtain⟨r1,ks,s1,_,s2,s3,_⟩:=hv.snap 7;simp only[go_sem,k5,s1];exact s3
theorem uE (h:cM p w0 S w):w.tasks.length<=120:=by
 obtain⟨a1,a2,a3,a4,a5,a6,a7⟩:=cR.1 h.ok;have:=rE a5;omega
theorem aHx (hp:dU p)(hsp:aR p=true)(h:cM p w0 S w)(s:Nat)(hs:s<=5001):
  PC L 58 [.agg p.cs,.agg w.cs,.i (s:Int)] (.tup [.agg (bI p w s).1.cs,.i ((bI p w s).2.1:Nat),.bool (bI p w s).2.2]):=by
 have hL:=at_ func58
 conv at hL=>rhs;reduce
 refine aI hL rfl rfl ?_
 simp only[go_sem,kK]
 refine bQ 121 (fun k st=> ∃fr en cnt x t,st=⟨fr,en,cnt⟩/\ fr 2= .i ((t:Nat):Int)/\ fr 3= .ptr ⟨0,3,0⟩ 0/\ en ⟨0,3,0⟩=some (.box [.fz (p.nodes.map aM.enc),.fz (p.funs.map (.int .i64)),.i p.main,.fz (p.cons.map cS.enc)] false)/\ fr 4= .ptr ⟨0,4,0⟩ 0/\ en ⟨0,4,0⟩=some (.box [.fz (x.objs.map aQ.enc),.fz (x.tasks.map (.int .i64)),.fz (x.outs.map bJ.enc),.fz (x.ins.map (.int .i64)),.i x.used] false)/\ fr 6= .ptr ⟨0,6,0⟩ 0/\ en ⟨0,6,0⟩=some (.box [.cl [],.cl [],.cl [],.cl [],.i 0] false)/\ fr 9= .i k/\
  cM p w0 S x/\ t<=5001/\ eW p (121-k) k x t=bI p w s) 0 (bPx _) ⟨_,_,_,w,s,rfl,by simp only[go_sem],by simp only[go_sem],by simp only[go_sem],by simp only[go_sem],by simp only[go_sem],by simp only[go_sem],by simp only[go_sem],by simp only[go_sem],h,hs,rfl⟩ ?_
 rintro k st hk ⟨fr,en,cnt,x,t,rfl,k2,k3,e3,k4,e4,k6,e6,k9,hx,ht,hD⟩
 have hx120:=uE hx;simp only[go_sem,kK,k4,e4,k9]
 refine aG (fun hq=>?_) (fun hq=>?_)
 ·have h':k<x.tasks.length:=D_o hq;have ha:inR (k:Int) 0 ((x.tasks.length:Int)-1)=true:=by simp only[inR,bTe];omega
  have hS:=aDe hp hsp hx ha;obtain⟨g10,hg10⟩: ∃g,g=cnt 0 10:=⟨_,rfl⟩
  simp only[go_sem,k3,e3,k4,e4,k9,h',hS.ret,<-hg10];rw[show 121-k=(120-k)+1 by omega,eW,if_pos h']at hD
  refine Go.Abs.wp_loop (fun(j:Nat) st=> ∃fr en cnt y,st=⟨fr,en,cnt⟩/\ fr 2= .i ((t+j:Nat):Int)/\ fr 3= .ptr ⟨0,3,0⟩ 0/\ en ⟨0,3,0⟩=some (.box [.fz (p.nodes.map aM.enc),.fz (p.funs.map (.int .i64)),.i p.main,.fz (p.cons.map cS.enc)] false)/\ fr 4= .ptr ⟨0,4,0⟩ 0/\ en ⟨0,4,0⟩=some (.box [.fz (y.objs.map aQ.enc),.fz (y.tasks.map (.int .i64)),.fz (y.outs.map bJ.enc),.fz (y.ins.map (.int .i64)),.i y.used] false)/\ fr 6= .ptr ⟨0,6,0⟩ 0/\ en ⟨0,6,0⟩=some (.box [.cl [],.cl [],.cl [],.cl [],.i 0] false)/\ fr 9= .i k/\ fr 10= .ptr ⟨0,10,g10⟩ 0/\ en ⟨0,10,g10⟩=some (.box [.fz ((aV p y k).w.objs.map aQ.enc),.fz ((aV p y k).w.tasks.map (.int .i64)),.fz ((aV p y k).w.outs.map bJ.enc),.fz ((aV p y k).w.ins.map (.int .i64)),.i (aV p y k).w.used,.i (aV p y k).what,.i (aV p y k).e.task,.i (aV p y k).e.act,.i (aV p y k).e.n,.i (aV p y k).e.v.kind,.i (aV p y k).e.v.n] false)/\
   cM p w0 S y/\ t+j<=5001/\ k<y.tasks.length/\ dG p k (5000-t) x=((dG p k (5000-(t+j)) y).1,(dG p k (5000-(t+j)) y).2.1+j,(dG p k (5000-(t+j)) y).2.2)) (fun j=>5001-(t+j)) 0
   ⟨_,_,_,x,rfl,by simp only[go_sem,k2],by simp only[go_sem,k3],by simp only[go_sem,e3],by simp only[go_sem,k4],by simp only[go_sem,e4],by simp only[go_sem,k6],by simp only[go_sem,e6],by simp only[go_sem,k9],by simp only[go_sem],by simp only[go_sem],hx,ht,h',rfl⟩ ?_
  clear k2 k3 e3 k4 e4 k6 e6 k9
  rintro j st ⟨fr,en,cnt,y,rfl,k2,k3,e3,k4,e4,k6,e6,k9,k10,e10,hy,htj,hky,hI⟩
  have hay:inR (k:Int) 0 ((y.tasks.length:Int)-1)=true:=by simp only[inR,bTe];omega
  by_cases h0:(aV p y k).what=0
  ·have d0:decide ((aV p y k).what=0)=true:=D_t h0;have hw1:IntKind.i64.wrap (((t+j:Nat):Int)+1)=((t+j+1:Nat):Int):=by rw[aW (by omega)];omega
   by_cases h5:5000<t+j+1
   ·have d5:decide ((5000:Int)<((t+j+1:Nat):Int))=true:=D_t (by omega)
    have hI0:dG p k (5000-t) x=(y,1+j,false):=by rw[hI,show 5000-(t+j)=0 by omega,dG,if_pos h0]
    rw[hI0]at hD;simp only[bPs,if_false]at hD;rw[<-hD,show t+(1+j)=t+j+1 by omega]
    simp only[go_sem,kK,k2,k4,e4,k6,e6,k10,e10,d0,hw1,d5]
   ·have d5:decide ((5000:Int)<((t+j+1:Nat):Int))=false:=D_f (by omega)
    have hy':=kM hp hy hay;have hky':k<(aV p y k).w.tasks.length:=bQf hky (aMa hp hy hay);have hS2:=aDe hp hsp hy' (a:=k) (by simp only[inR,bTe];omega)
    simp only[go_sem,kK,k2,k3,e3,k4,e4,k9,k10,e10,d0,hw1,d5,hS2.ret]
    refine⟨j+1,⟨_,_,_,(aV p y k).w,rfl,?_⟩,by omega⟩
    simp only[go_sem,k3,e3,k4,k6,e6,k9,k10]
    refine⟨by rw[bRi],hy',by omega,hky',?_⟩
    rw[hI,show 5000-(t+j)=(5000-(t+(j+1)))+1 by omega,dG,if_pos h0]
    simp only[bRi,Nat.add_comm 1 j]
  ·have d0:decide ((aV p y k).what=0)=false:=D_f h0;have hin: ∀m,dG p k m y=(y,0,true):=fun m=>by cases m<;>(rw[dG,if_neg h0])
   rw[hI,hin]at hD;simp only[if_true,bQh]at hD;simp only[go_sem,kK,k2,k4,e4,k6,e6,k9,k10,e10,d0]
   refine⟨by omega,_,_,_,y,t+j,rfl,?_⟩
   simp only[go_sem,k2,k3,e3,k4,e4,k6,e6,aT (show k<121 by omega) (show Few 121 by unfold Few;omega)]
   exact⟨hy,htj,by rw[show 121-(k+1)=120-k by omega];exact hD⟩
 ·have hn: ¬k<x.tasks.length:=of_decide_eq_false hq;have hD':bI p w s=(x,t,true):=by
   rw[<-hD];cases hm:121-k with
   |zero=>rfl
   |succ m=>rw[eW,if_neg hn]
  rw[hD'];simp only[go_sem,k2,k4,e4,k6,e6]
theorem aEr {p:aF}: ∀(n:Nat) {a:Nat} {w:aA} {s:Nat},(eW p n a w s).2.2=true->(eW p n a w s).2.1<=max s 5000
 |0,_,_,s,_=>by simp only[eW];omega
 |n+1,a,w,s,h=>by
  obtain⟨h1,h2⟩:=aCa (p:=p) (a:=a) (5000-s) w;unfold eW at h⊢;split
  ·rename_i ha;rw[if_pos ha]at h;split
   ·rename_i hb;rw[if_pos hb]at h;have:=aEr n h;have:=h2 hb;omega
   ·rename_i hb;rw[if_neg hb]at h;cases h
  ·simp only;omega
theorem bEu (hp:dU p)(hsp:aR p=true)(h:cM p w0 S w)(pick:Int):
  PC L 124 [.agg p.cs,.agg w.cs,.i pick] (.tup [.agg (fQ p w pick).1.cs,.agg [.i (fQ p w pick).2.1.task,.i (fQ p w pick).2.1.act,.i (fQ p w pick).2.1.n,.i (fQ p w pick).2.1.v.kind,.i (fQ p w pick).2.1.v.n],.i ((fQ p w pick).2.2.1:Nat),.i (fQ p w pick).2.2.2]):=by
 have hS:=aHx hp hsp h 0 (by omega)
 have h1:=sR hp (s:=0) h;have hc:=aEr (p:=p) 121 (a:=0) (w:=w) (s:=0);rw[show((0:Nat):Int)=0 from rfl]at hS
 have hR:=aUa hp hsp h1;unfold fQ
 simp only
 have hL:=at_ func124
 conv at hL=>rhs;reduce
 refine aI hL rfl rfl ?_
 have hq1:bI p w 0=eW p 121 0 w 0:=rfl;rw[<-hq1]at hc;generalize hq:bI p w 0=q at hS h1 hR hc⊢;obtain⟨x,s1,ok⟩:=q;dsimp only at hS h1 hR hc⊢;cases ok with
 |false=>
  rw[if_pos rfl];simp only[go_sem,kK,hS.ret,eB,jL]
 |true=>
  rw[if_neg (by decide)]
  have hx120:=uE h1
  by_cases hl:cH p x=[]
  ·rw[if_pos hl];rw[hl]at hR;simp only[Val.is,bP1]at hR;simp only[go_sem,kK,hS.ret,hR.ret,bP7,eB,jL]
  ·rw[if_neg hl];have hll:(cH p x).length<=120:=by
    simp only[cH,fY,bPr];exact bP2 (bS7 _ _) (by simpa using hx120)
   have hl0:0<(cH p x).length:=bSj.2 hl;have dl:decide (((cH p x).length:Int)=0)=false:=D_f (by omega)
   have hMo:=aO1 pick (cH p x).length hl0 (by omega)
   have hpi:=aQz hl pick;have hem:=Int.emod_nonneg pick (show((cH p x).length:Int)≠0 by omega)
   have hin:inR (pick%((cH p x).length:Int)) 0 (((cH p x).length:Int)-1)=true:=by
    simp only[inR,bTe];omega
   have ha:=aMc (nD (d:=0) hpi);have hSt:=aDe hp hsp h1 ha;have h2:=kM hp h1 ha;generalize hd:aV p x ((cH p x).getD (pick%((cH p x).length:Int)).toNat 0)=d at hSt h2⊢;have hc':=hc rfl;have hw1:IntKind.i64.wrap ((s1:Int)+1)=((s1+1:Nat):Int):=by rw[aW (by omega)];omega
   have hS2:=aHx hp hsp h2 (s1+1) (by omega)
   have hc2:=aD0 (p:=p) 121 (a:=0) (w:=d.w) (s:=s1+1) (by omega)
   have hq2:bI p d.w (s1+1)=eW p 121 0 d.w (s1+1):=rfl;rw[<-hq2]at hc2;generalize hqq:bI p d.w (s1+1)=q at hS2 hc2⊢;obtain⟨y,s2,ok2⟩:=q;dsimp only at hS2 hc2⊢;simp only[go_sem,kK,hS.ret,hR.ret,dl]
   refine aH ?_
   simp only[go_sem,bPr,hMo.ret,vB hin,hSt.ret,kA,bPs,if_false];cases ok2 with
   |false=>
    rw[if_pos (.inl rfl)];simp only[go_sem,kK,hw1,hS2.ret,eB,jL]
   |true=>
    by_cases h5:5000<s2
    ·have d5:decide ((5000:Int)<(s2:Int))=true:=D_t (by omega)
     rw[if_pos (.inr h5)];simp only[go_sem,kK,hw1,hS2.ret,d5,eB,jL]
    ·have d5:decide ((5000:Int)<(s2:Int))=false:=D_f (by omega)
     rw[if_neg (by rintro(h|h);cases h;exact h5 h)]
     simp only[go_sem,kK,hw1,hS2.ret,d5]
     refine aH ?_
     simp only[go_sem,kA,bPs,if_false]
section
theorem aO2 {e4:En}{c4:Nat->Nat->Nat}{w1:aA}{bv4:Val}(t4:TS kt kr e4 c4 p w1 a left f n [] bv4){x:Nat}(hx:((w1.objs.length:Int)-1)=(x:Int))(hop:n.op=19){A1 A2:Option Ent}{b:Bool}:
  WIn L (.fn 333 [] []) [.ptr kt 0,.agg [.i (dN (x:Int)).kind,.i (dN (x:Int)).n],.agg [.i bO.kind,.i bO.n]]
   ((((e4.set ⟨0,6,c4 0 6⟩ A1).set ⟨0,6,c4 0 6⟩ A2).set ⟨0,58,c4 0 58⟩ (some (.blk 1 (w1.tasks.map (.int .i64)++[.i (dN (x:Int)).n]) b))).set kr
    (some (.box [.fz (p.nodes.map aM.enc),.is p.funs,.i p.main,.fz (p.cons.map cS.enc),.fz (w1.objs.map aQ.enc),.bl ⟨0,58,c4 0 58⟩ 0 (w1.tasks.length+1),.fz (w1.outs.map bJ.enc),.is w1.ins,.i w1.used] false)))
   (aC (aC c4 0 6 (c4 0 6+1)) 0 58 (c4 0 58+1)) fun v en' cnt'=>match oP (.ptr kt 0) [[0]] en' with
    |some en'=>v=aO0 (some ⟨a,19,0,rL bO⟩)/\ (∃bv',TS kt kr en' cnt' p (qZ w1) a left f n [dN (x:Int)] bv')/\ dT kt kr e4 c4 en' cnt'
    |none=>False:=by
 have ht:=t4.t;have hr:=t4.r;have s1:=t4.okt.set;have s2:=t4.okr.set;have n1:=t4.okt.new;have n2:=t4.okr.new;have hn:=t4.ne;have x1: ∀(en:En) (e:Option Ent),En.set en kt e kr=en kr:=fun _ _=>aK hn
 have x2: ∀(en:En) (e:Option Ent),En.set en kr e kt=en kt:=fun _ _=>aK hn.symm
 have hu: ∀t,c4 0 t<=aC (aC c4 0 6 (c4 0 6+1)) 0 58 (c4 0 58+1) 0 t:=(by(repeat refine upS ?_ (by omega));exact aO _)
 refine(aOr (f:=f) (n:=n) (by simp only[s1,x2];exact ht) (t4.okt.up hu) (dN (x:Int)) bO).mono ?_
 rintro v e1 c1 ⟨rfl,tb,old,up⟩
 have h0:TS kt kr (e4.set kt (some (.box [.ptr kr 0,.i a,.fz (left.map aB.enc),.i f.node,.fz (f.env.map aD.enc),.fz (f.vals.map aD.enc),.i n.op,.i n.n,.is n.kids,.fz (n.pats.map Pat.enc),.cl [.agg [.i (dN (x:Int)).kind,.i (dN (x:Int)).n]]] false))) c4 p w1 a left f n [dN (x:Int)] (.cl [.agg [.i (dN (x:Int)).kind,.i (dN (x:Int)).n]]):=⟨t4.okt,t4.okr,t4.ne,.inr rfl,cG,by rw[aK t4.ne];exact hr⟩
 have o58:=old ⟨0,58,c4 0 58⟩ ⟨rfl,by simp only[go_sem];omega⟩ t4.okt.ne.symm
 simp only[go_sem,n2]at o58;have okr:=old kr (t4.okr.up hu) t4.ne;simp only[go_sem]at okr;have hA:w1.tasks.map (Val.int .i64)++[.i (dN (x:Int)).n]=(qZ w1).tasks.map (.int .i64):=by simp[qZ,dN,hx]
 rw[hA]at o58;have hF:=bCd h0 (w':=qZ w1) (E:=e1) (c:=c1) (by rw[tb,cG]) okr rfl (tQ o58 (by simp[qZ])) rfl rfl (by simp) (fun k hk k1 k2=>by rw[old k (hk.up hu) k1,aK k1,aK k2,hk.set,hk.set,hk.set]) (fun t=>bP2 (hu t) (up t))
 split at hF
 case h_2=>exact hF.elim
 rename_i E2 hE2;rw[hE2]
 refine⟨?_,hF.1,fun k hk k1 k2=>(hF.2.old k hk k1 k2).trans (aK k1),hF.2.up⟩
 rw[hop];rfl
noncomputable def aJg :{c//L 280=some c}:=by
 have hL:=at_ func280
 conv at hL=>rhs;reduce
 exact⟨_,hL⟩
theorem bEv (P0:Pre p w0 S w a left f n)(h:TS kt kr en cnt p w a left f n [] bv)(hop:n.op=19):rI 280 kt kr en cnt p w a left f n (opR p w a left f n):=by
 have e:opR p w a left f n=(match eP p w (aE f.vals 0) bO with
  |some b=>if 30<b.env.length then .fail 4 else iU w ⟨6,0,[],[b]⟩ fun w' v=>kS (qZ w') a left 19 0 v bO
  |none=>if cK w (aE f.vals 0) 5=true then iU w ⟨6,0,[bO],(w.obj (aE f.vals 0).n).frames⟩ fun w' v=>kS (qZ w') a left 19 0 v bO else .fail 2):=by unfold opR;rw[hop];rfl
 rw[e];have hfull:=P0.full;simp[aM.asks,hop]at hfull;have hv0:0<f.vals.length:=by omega
 have hu:=P0.val hv0;have h120:=P0.objs;have htl:w.tasks.length+1<=16777216:=by
  have:=rE (cR.1 P0.hF.ok).2.2.2.2.1;omega
 have haT: ∀o,(eC w o).tasks=w.tasks:=fun _=>rfl
 have hd1: ∀x:Int,cU 1 [.i x]=true:=fun _=>rfl
 have H:=h.pre;have ht:=h.t;obtain⟨⟨bv1,h1⟩,k1⟩:=h.stay (cnt':=aC (aC cnt 0 3 (cnt 0 3+1)) 0 4 (cnt 0 4+1)) (en':=((en.set ⟨0,3,cnt 0 3⟩ (some (.box [.i 0,.i 0,.cl [],.cl []] false))).set ⟨0,3,cnt 0 3⟩ (some (.box [.i 6,.i 0,.cl [],.cl []] false))).set ⟨0,4,cnt 0 4⟩ (some (.box [.i 0,.cl [],.cl []] false))) (fun k hk=>by simp only[hk.set]) (by(repeat refine upS ?_ (by omega));exact aO _)
 cases hb:eP p w (aE f.vals 0) bO with
 |some b=>
  obtain⟨bn,be,bvs⟩:=b;have hbv:=aMm hb
  simp only at hbv
  subst hbv
  simp only
  by_cases hc:30<be.length
  ·rw[if_pos hc]
   refine cC aJg.2 rfl rfl ?_
   simp only[go_sem,kK,aJg]
   refine aSv rfl 9 rfl rfl ?_
   simp only[go_sem,bP0,bPw,bQ5,bQ4,sI,bRs,bRr,ht,H,aS hv0,kU.ret,kA,kF];exact⟨rfl,(aMj h1 P0.hp P0.hF hu hb hc).mono fun _ _ _=>pP.then k1⟩
  ·rw[if_neg hc];have hC:=aMi h1 P0.hp P0.hF hu hb (by show be.length<=30;omega)
   unfold iU
   by_cases h20:120<=w.objs.length
   ·rw[if_pos h20]
    refine cC aJg.2 rfl rfl ?_
    simp only[go_sem,kK,aJg]
    refine oV rfl ?_
    simp only[go_sem,bRs,bRr,ht,H,aS hv0,kU.ret,kA,kF]
    refine hC.mono ?_
    rintro v e1 c1 ⟨⟨ev,hev,_,rfl⟩,⟨bv2,t2⟩,k2⟩
    obtain⟨p3,q3⟩:=k2.loc (d:=3) (g:=cnt 0 3) (by simp[aC]) h.okt.ne.symm h.okr.ne.symm
    obtain⟨p4,q4⟩:=k2.loc (d:=4) (g:=cnt 0 4) (by simp[aC]) h.okt.ne.symm h.okr.ne.symm
    simp only[go_sem]at p3 p4;simp only[go_sem,kK,p4,kA,kF]
    refine⟨rfl,lC 9 rfl (by simp only[p4,cG];rfl) rfl,?_⟩
    obtain⟨⟨bv3,t3⟩,k3⟩:=h.fin t2 (k1.trans k2) (cnt2:=c1) (en2:=(e1.set ⟨0,4,cnt 0 4⟩ (some (.box [.i bn,ev,.cl []] false))).set ⟨0,3,cnt 0 3⟩ (some (.box [.i 6,.i 0,.cl [],.cl [.agg [.i bn,.fz (be.map aD.enc),.fz []]]] false))) (fun k hk _=>by simp only[hk.set]) (aO _)
    rcases hev with rfl|rfl<;>
    (simp only[go_sem,kB,p3]
     refine dK 2 rfl ?_
     simp only[go_sem,bP0,bPw];exact(pQ t3 (o:=⟨6,0,[],[⟨bn,be,[]⟩]⟩) (by omega) (by omega)).mono fun _ _ _=>pP.then k3)
   ·rw[if_neg h20]
    refine rZ aJg.2 rfl rfl ?_
    simp only[go_sem,kK,aJg]
    refine oV rfl ?_
    simp only[go_sem,bRs,bRr,ht,H,aS hv0,kU.ret,kA,kF]
    refine hC.mono ?_
    rintro v e1 c1 ⟨⟨ev,hev,_,rfl⟩,⟨bv2,t2⟩,k2⟩
    obtain⟨p3,q3⟩:=k2.loc (d:=3) (g:=cnt 0 3) (by simp[aC]) h.okt.ne.symm h.okr.ne.symm
    obtain⟨p4,q4⟩:=k2.loc (d:=4) (g:=cnt 0 4) (by simp[aC]) h.okt.ne.symm h.okr.ne.symm
    simp only[go_sem]at p3 p4;simp only[go_sem,kK,p4,kA,kF]
    refine⟨rfl,lC 9 rfl (by simp only[p4,cG];rfl) rfl,?_⟩
    obtain⟨⟨bv3,t3⟩,k3⟩:=h.fin t2 (k1.trans k2) (cnt2:=c1) (en2:=(e1.set ⟨0,4,cnt 0 4⟩ (some (.box [.i bn,ev,.cl []] false))).set ⟨0,3,cnt 0 3⟩ (some (.box [.i 6,.i 0,.cl [],.cl [.agg [.i bn,.fz (be.map aD.enc),.fz []]]] false))) (fun k hk _=>by simp only[hk.set]) (aO _)
    rcases hev with rfl|rfl<;>
    (simp only[go_sem,kB,p3]
     refine cA ?_
     simp only[go_sem]
     refine(rV t3 (o:=⟨6,0,[],[⟨bn,be,[]⟩]⟩) (.inr rfl) (.inr rfl) (by omega)).mono ?_
     rintro v e4 c4 ⟨rfl,⟨bv4,t4⟩,k4⟩
     have ht4:=t4.t;have hr4:=t4.r;have y1:=t4.okt.set;have y2:=t4.okr.set;have y3:=t4.okt.eqF;have y4:=t4.okt.eqF';have y5:=t4.okr.eqF;have y6:=t4.okr.eqF';have y7:=t4.okt.new;have y8:=t4.okr.new;simp only[go_sem]
     refine aH ?_
     simp only[go_sem,ht4,hr4,kB,y1,y2,y3,bPr,(aIy _).ret,bM,dY,vS,aC4,hd1,haT,htl,sP,kA,kF]
     refine aH ?_
     simp only[go_sem,y8,kU.ret,kA,kF]
     refine(aO2 t4 (x:=w.objs.length) (by simp[eC]) hop).mono fun v en' cnt' hh=>?_
     split at hh
     case h_2=>exact hh.elim
     rename_i E2 hE2;rw[hE2];exact⟨hh.1,hh.2.1,(k3.trans k4).trans hh.2.2⟩)
 |none=>
  simp only
  have hC:=aI2 h1 hu hb
  by_cases hI:cK w (aE f.vals 0) 5=true
  ·rw[if_pos hI];have hW:=fun e1 c1 bv2 (t2:TS kt kr e1 c1 p w a left f n [] bv2)=>vV t2 (fZ hu) 5 hI
   generalize w.obj (aE f.vals 0).n=o at hW⊢;unfold iU
   by_cases h20:120<=w.objs.length
   ·rw[if_pos h20]
    refine cC aJg.2 rfl rfl ?_
    simp only[go_sem,kK,aJg]
    refine oV rfl ?_
    simp only[go_sem,bRs,bRr,ht,H,aS hv0,kU.ret,kA,kF]
    refine hC.mono ?_
    rintro v e1 c1 ⟨⟨xx,rfl,rfl⟩,⟨bv2,t2⟩,k2⟩
    obtain⟨p3,q3⟩:=k2.loc (d:=3) (g:=cnt 0 3) (by simp[aC]) h.okt.ne.symm h.okr.ne.symm
    obtain⟨p4,q4⟩:=k2.loc (d:=4) (g:=cnt 0 4) (by simp[aC]) h.okt.ne.symm h.okr.ne.symm
    simp only[go_sem]at p3 p4;simp only[go_sem,kK,p4,kA,kF]
    refine⟨rfl,lC 9 rfl (by simp only[p4,cG];rfl) rfl,?_⟩
    obtain⟨⟨bv3,t3⟩,k3⟩:=h.fin t2 (k1.trans k2) (cnt2:=c1) (en2:=e1.set ⟨0,4,cnt 0 4⟩ (some (.box [.i 0,.cl [],.cl []] false))) (fun k hk _=>by simp only[hk.set]) (aO _)
    have ht2:=t2.t
    refine cA ?_
    simp only[go_sem,H,ht2,aS hv0]
    refine(hW _ _ _ t3).mono ?_
    rintro v e4 c4 ⟨rfl,⟨bv4,t4⟩,k4⟩
    obtain⟨r3,u3⟩:=k4.loc (d:=3) (g:=cnt 0 3) q3.2 h.okt.ne.symm h.okr.ne.symm;simp only[go_sem,p3]at r3;simp only[go_sem,kB,aHw,aDf,r3,kU.ret];obtain⟨⟨bv6,t6⟩,k6⟩:=h.fin t4 (k3.trans k4) (cnt2:=c4) (en2:=(e4.set ⟨0,3,cnt 0 3⟩ (some (.box [.i 6,.i 0,.cl [],.fz (o.frames.map aB.enc)] false))).set ⟨0,3,cnt 0 3⟩ (some (.box [.i 6,.i 0,.cl [.agg [.i bO.kind,.i bO.n]],.fz (o.frames.map aB.enc)] false))) (fun k hk _=>by simp only[hk.set]) (aO _)
    refine dK 2 rfl ?_
    simp only[go_sem,bP0,bPw];exact(pQ t6 (o:=⟨6,0,[bO],o.frames⟩) (by omega) (by omega)).mono fun _ _ _=>pP.then k6
   ·rw[if_neg h20]
    refine rZ aJg.2 rfl rfl ?_
    simp only[go_sem,kK,aJg]
    refine oV rfl ?_
    simp only[go_sem,bRs,bRr,ht,H,aS hv0,kU.ret,kA,kF]
    refine hC.mono ?_
    rintro v e1 c1 ⟨⟨xx,rfl,rfl⟩,⟨bv2,t2⟩,k2⟩
    obtain⟨p3,q3⟩:=k2.loc (d:=3) (g:=cnt 0 3) (by simp[aC]) h.okt.ne.symm h.okr.ne.symm
    obtain⟨p4,q4⟩:=k2.loc (d:=4) (g:=cnt 0 4) (by simp[aC]) h.okt.ne.symm h.okr.ne.symm
    simp only[go_sem]at p3 p4;simp only[go_sem,kK,p4,kA,kF]
    refine⟨rfl,lC 9 rfl (by simp only[p4,cG];rfl) rfl,?_⟩
    obtain⟨⟨bv3,t3⟩,k3⟩:=h.fin t2 (k1.trans k2) (cnt2:=c1) (en2:=e1.set ⟨0,4,cnt 0 4⟩ (some (.box [.i 0,.cl [],.cl []] false))) (fun k hk _=>by simp only[hk.set]) (aO _)
    have ht2:=t2.t
    refine cA ?_
    simp only[go_sem,H,ht2,aS hv0]
    refine(hW _ _ _ t3).mono ?_
    rintro v e4 c4 ⟨rfl,⟨bv4,t4⟩,k4⟩
    obtain⟨r3,u3⟩:=k4.loc (d:=3) (g:=cnt 0 3) q3.2 h.okt.ne.symm h.okr.ne.symm;simp only[go_sem,p3]at r3;simp only[go_sem,kB,aHw,aDf,r3,kU.ret];obtain⟨⟨bv6,t6⟩,k6⟩:=h.fin t4 (k3.trans k4) (cnt2:=c4) (en2:=(e4.set ⟨0,3,cnt 0 3⟩ (some (.box [.i 6,.i 0,.cl [],.fz (o.frames.map aB.enc)] false))).set ⟨0,3,cnt 0 3⟩ (some (.box [.i 6,.i 0,.cl [.agg [.i bO.kind,.i bO.n]],.fz (o.frames.map aB.enc)] false))) (fun k hk _=>by simp only[hk.set]) (aO _)
    refine cA ?_
    simp only[go_sem]
    refine(rV t6 (o:=⟨6,0,[bO],o.frames⟩) (.inr rfl) (.inl rfl) (by omega)).mono ?_
    rintro v e7 c7 ⟨rfl,⟨bv7,t7⟩,k7⟩
    have ht7:=t7.t;have hr7:=t7.r;have y1:=t7.okt.set;have y2:=t7.okr.set;have y3:=t7.okt.eqF;have y4:=t7.okt.eqF';have y5:=t7.okr.eqF;have y6:=t7.okr.eqF';have y7:=t7.okt.new;have y8:=t7.okr.new;simp only[go_sem]
    refine aH ?_
    simp only[go_sem,ht7,hr7,kB,y1,y2,y3,bPr,(aIy _).ret,bM,dY,vS,aC4,hd1,haT,htl,sP,kA,kF]
    refine aH ?_
    simp only[go_sem,y8,kU.ret,kA,kF]
    refine(aO2 t7 (x:=w.objs.length) (by simp[eC]) hop).mono fun v en' cnt' hh=>?_
    split at hh
    case h_2=>exact hh.elim
    rename_i E2 hE2;rw[hE2];exact⟨hh.1,hh.2.1,(k6.trans k7).trans hh.2.2⟩
  ·rw[if_neg hI];rw[bQ0]at hI
   refine cC aJg.2 rfl rfl ?_
   simp only[go_sem,kK,aJg]
   refine oV rfl ?_
   simp only[go_sem,bRs,bRr,ht,H,aS hv0,kU.ret,kA,kF]
   refine hC.mono ?_
   rintro v e1 c1 ⟨⟨xx,rfl,rfl⟩,⟨bv2,t2⟩,k2⟩
   obtain⟨p3,q3⟩:=k2.loc (d:=3) (g:=cnt 0 3) (by simp[aC]) h.okt.ne.symm h.okr.ne.symm
   obtain⟨p4,q4⟩:=k2.loc (d:=4) (g:=cnt 0 4) (by simp[aC]) h.okt.ne.symm h.okr.ne.symm
   simp only[go_sem]at p3 p4;simp only[go_sem,kK,p4,kA,kF]
   refine⟨rfl,lC 9 rfl (by simp only[p4,cG];rfl) rfl,?_⟩
   obtain⟨⟨bv3,t3⟩,k3⟩:=h.fin t2 (k1.trans k2) (cnt2:=c1) (en2:=e1.set ⟨0,4,cnt 0 4⟩ (some (.box [.i 0,.cl [],.cl []] false))) (fun k hk _=>by simp only[hk.set]) (aO _)
   have ht2:=t2.t
   refine dK 8 rfl ?_
   simp only[go_sem,bP0,bPw,H,ht2,aS hv0];exact(vW t3 (fZ hu) 5 hI).mono fun _ _ _=>pP.then k3
end
def aXm :iW:={np:=1,res:=[.tmp 2],keep:=false,body:=
 (.seq (.ops [mC 2 .nili])
 (.seq (.draw [mT 5 0,
 nK 6 5,
 fA 7 3 6,
 fA 8 2 7,
 l1 9 8,
 o 10 (.ia 2 (.t 9) (cI 0)),
 lT 11 2 10,
 mT 12 0,
 nK 13 12,
 fA 14 3 13,
 fA 15 2 14,
 l1 16 15,
 o 17 (.ia 2 (.t 16) (cI 1)),
 lT 18 2 17,
 o 3 (.alloc [(.int .i64 0),(.int .i64 0)]),
 o 4 (.alloc [(.int .i64 0),(.int .i64 0)]),
 sT 2 3 11,
 sT 2 4 18]
 [(4,14),(5,14),(6,14),(11,14),(12,14),(13,14),(4,15),(5,15),(6,15),(11,15),(12,15),(13,15),(14,15),(11,16),(12,16),(13,16)])
 (.seq (.opsP [fA 19 0 3,
 l1 20 19,
 fA 21 0 4,
 l1 22 21,
 bN 23 .eql (.t 20) (.t 22),
 mT 24 23,
 gF 25 24 true 0 3,
 g1 26 24 true 25,
 gB 27 24 true .leq (.t 26) (cI 3),
 pA 28 24 27,
 cL 29 264 [(.t 28),(cI 2)]])
 (.seq (.ops [mT 30 0,
 lT 31 2 3,
 lT 32 2 4,
 o 33 (.bin .eql (.agg [.num,.num]) (.t 31) (.t 32)),
 cL 34 325 [(.t 33)],
 o 35 (.icall (.f 323) [(.t 30),(.t 34)]),
 mT 2 35])
 .ret))))}
theorem bCu :L 274=some aXm:=by kernel_rfl
variable {K P:Val}
section
theorem bEw (P0:Pre p w0 S w a left f n)(h:TS kt kr en cnt p w a left f n [] bv)(hop:n.op=13):rI 274 kt kr en cnt p w a left f n (opR p w a left f n):=by
 have e:opR p w a left f n=(if¬(aE f.vals 0).kind=(aE f.vals 1).kind \/3<(aE f.vals 0).kind then .fail 2 else jB w left (nM (decide (aE f.vals 0=aE f.vals 1)))):=by unfold opR;rw[hop];rfl
 rw[e];have hfull:=P0.full;simp[aM.asks,hop]at hfull;have hv0:0<f.vals.length:=by omega
 have hv1:1<f.vals.length:=by omega
 have H:=h.pre;have ht:=h.t
 by_cases hk:(aE f.vals 0).kind=(aE f.vals 1).kind
 ·have dk:decide ((aE f.vals 0).kind=(aE f.vals 1).kind)=true:=D_t hk
  by_cases h3:3<(aE f.vals 0).kind
  ·rw[if_pos (.inr h3)];have d3:decide ((aE f.vals 0).kind<=3)=false:=D_f (by omega)
   refine cC bCu rfl rfl ?_
   simp only[go_sem,kK,aXm]
   refine aH ?_
   simp only[go_sem,ht,H,aS hv0,gK hv1,kA,kF]
   refine dK 10 rfl ?_
   simp only[go_sem,kK,bP0,bPw,dk,d3,(kT _).ret];exact h.fell0 (fun k hk=>by simp only[hk.set]) (by(repeat refine upS ?_ (by omega));exact aO _)
  ·rw[if_neg (by rintro(h|h);exact h hk;exact h3 h)]
   have d3:decide ((aE f.vals 0).kind<=3)=true:=D_t (by omega)
   have hb:(decide ((aE f.vals 0).kind=(aE f.vals 1).kind)&&decide ((aE f.vals 0).n=(aE f.vals 1).n))=decide (aE f.vals 0=aE f.vals 1):=by
    cases aE f.vals 0;cases aE f.vals 1;simp
   refine bD bCu rfl rfl ?_
   simp only[go_sem,kK,aXm]
   refine aH ?_
   simp only[go_sem,ht,H,aS hv0,gK hv1,kA,kF]
   refine cA ?_
   simp only[go_sem,kK,dk,d3,(iG _).ret];rw[dk]at hb
   try simp only[go_sem]at hb
   simp only[go_sem,hb,(aF8 _).ret];obtain⟨⟨bv1,h1⟩,k1⟩:=h.stay (cnt':=aC (aC cnt 0 3 (cnt 0 3+1)) 0 4 (cnt 0 4+1)) (en':=(((en.set ⟨0,3,cnt 0 3⟩ (some (.box [.i 0,.i 0] false))).set ⟨0,4,cnt 0 4⟩ (some (.box [.i 0,.i 0] false))).set ⟨0,3,cnt 0 3⟩ (some (.box [.i (aE f.vals 0).kind,.i (aE f.vals 0).n] false))).set ⟨0,4,cnt 0 4⟩ (some (.box [.i (aE f.vals 1).kind,.i (aE f.vals 1).n] false))) (fun k hk=>by simp only[hk.set]) (by(repeat refine upS ?_ (by omega));exact aO _)
   refine(jA h1 _).mono ?_
   rintro v e2 c2 ⟨rfl,t2,k2⟩
   exact⟨rfl,t2,k1.trans k2⟩
 ·rw[if_pos (.inl hk)];have dk:decide ((aE f.vals 0).kind=(aE f.vals 1).kind)=false:=D_f hk
  refine cC bCu rfl rfl ?_
  simp only[go_sem,kK,aXm]
  refine aH ?_
  simp only[go_sem,ht,H,aS hv0,gK hv1,kA,kF]
  refine dK 10 rfl ?_
  simp only[go_sem,kK,bP0,bPw,dk,(kT _).ret];exact h.fell0 (fun k hk=>by simp only[hk.set]) (by(repeat refine upS ?_ (by omega));exact aO _)
theorem bEx (P0:Pre p w0 S w a left f n)(h:TS kt kr en cnt p w a left f n [] bv)(hop:n.op=16):rI 277 kt kr en cnt p w a left f n (opR p w a left f n):=by
 have e:opR p w a left f n=iU w ⟨3,0,[aE f.vals 0],[]⟩ fun w' v=>kS w' a left 16 0 v (aE f.vals 0):=by unfold opR;rw[hop];rfl
 rw[e];have hfull:=P0.full;simp[aM.asks,hop]at hfull;have hv0:0<f.vals.length:=by omega
 have h120:=P0.objs;have H:=h.pre;have ht:=h.t;unfold iU;obtain⟨⟨bv1,h1⟩,k1⟩:=h.stay (cnt':=aC cnt 0 3 (cnt 0 3+1)) (en':=(en.set ⟨0,3,cnt 0 3⟩ (some (.box [.i 0,.i 0] false))).set ⟨0,3,cnt 0 3⟩ (some (.box [.i (aE f.vals 0).kind,.i (aE f.vals 0).n] false))) (fun k hk=>by simp only[hk.set]) (by(repeat refine upS ?_ (by omega));exact aO _)
 by_cases hc:120<=w.objs.length
 ·rw[if_pos hc];have hL:=at_ func277
  conv at hL=>rhs;reduce
  refine cC hL rfl rfl ?_
  simp only[go_sem,kK,ht,aS hv0]
  refine dK 4 rfl ?_
  simp only[go_sem,bP0,bPw,bQ5,bQ4,kB];exact(pQ h1 (o:=⟨3,0,[aE f.vals 0],[]⟩) hc (by omega)).mono fun _ _ _=>pP.then k1
 ·rw[if_neg hc];have hL:=at_ func277
  conv at hL=>rhs;reduce
  refine bD hL rfl rfl ?_
  simp only[go_sem,kK,ht,aS hv0]
  refine cA ?_
  simp only[go_sem,kB]
  refine(rV h1 (o:=⟨3,0,[aE f.vals 0],[]⟩) (.inr rfl) (.inr rfl) (by omega)).mono ?_
  rintro v e1 c1 ⟨rfl,⟨bv2,t2⟩,k2⟩
  obtain⟨p3,q3⟩:=k2.loc (d:=3) (g:=cnt 0 3) (by simp only[go_sem];omega) h.okt.ne.symm h.okr.ne.symm
  simp only[go_sem]at p3;simp only[go_sem,p3,q3.set];obtain⟨⟨bv3,t3⟩,k3⟩:=h.fin t2 (k1.trans k2) (cnt2:=aC c1 0 4 (c1 0 4+1)) (en2:=(e1.set ⟨0,4,c1 0 4⟩ (some (.box [.i 0,.i 0] false))).set ⟨0,4,c1 0 4⟩ (some (.box [.i (dN w.objs.length).kind,.i (dN w.objs.length).n] false))) (fun k hk hj=>by simp only[hj.set]) (by(repeat refine upS ?_ (by omega));exact aO _)
  refine(rA t3 (dN w.objs.length) (aE f.vals 0)).mono ?_
  rintro v e2 c2 ⟨rfl,t4,k4⟩
  refine⟨?_,t4,k3.trans k4⟩
  rw[hop];rfl
theorem bEy (P0:Pre p w0 S w a left f n)(h:TS kt kr en cnt p w a left f n [] bv)(hop:n.op=21):rI 282 kt kr en cnt p w a left f n (opR p w a left f n):=by
 have e:opR p w a left f n=iU w ⟨4,0,[],[]⟩ fun w' v=>kS w' a left 21 0 v bO:=by unfold opR;rw[hop];rfl
 rw[e];have h120:=P0.objs;have H:=h.pre;unfold iU
 by_cases hc:120<=w.objs.length
 ·rw[if_pos hc];have hL:=at_ func282
  conv at hL=>rhs;reduce
  refine cC hL rfl rfl ?_
  simp only[go_sem,kK]
  refine dK 2 rfl ?_
  simp only[go_sem,bP0,bPw];exact pQ h (o:=⟨4,0,[],[]⟩) hc (by omega)
 ·rw[if_neg hc];have hL:=at_ func282
  conv at hL=>rhs;reduce
  refine bD hL rfl rfl ?_
  simp only[go_sem,kK]
  refine cA ?_
  simp only[go_sem]
  refine(rV h (o:=⟨4,0,[],[]⟩) (.inr rfl) (.inr rfl) (by omega)).mono ?_
  rintro v e1 c1 ⟨rfl,⟨bv2,t2⟩,k2⟩
  try simp only[go_sem]
  refine aH ?_
  simp only[go_sem,kU.ret,kA,kF];obtain⟨⟨bv3,t3⟩,k3⟩:=h.fin t2 k2 (cnt2:=aC c1 0 3 (c1 0 3+1)) (en2:=(e1.set ⟨0,3,c1 0 3⟩ (some (.box [.i 0,.i 0] false))).set ⟨0,3,c1 0 3⟩ (some (.box [.i (dN w.objs.length).kind,.i (dN w.objs.length).n] false))) (fun k hk hj=>by simp only[hj.set]) (by(repeat refine upS ?_ (by omega));exact aO _)
  refine(rA t3 (dN w.objs.length) bO).mono ?_
  rintro v e2 c2 ⟨rfl,t4,k4⟩
  refine⟨?_,t4,k3.trans k4⟩
  rw[hop];rfl
theorem bOc {o:aQ}{P:aF}(h:OOk P S w o)(h3:o.form=3):o.vals.length=1:=by
 have hk:=h.ok;simp only[dQ,h3]at hk
 simp at hk
 omega
theorem bEz (P0:Pre p w0 S w a left f n)(h:TS kt kr en cnt p w a left f n [] bv)(hop:n.op=17):rI 278 kt kr en cnt p w a left f n (opR p w a left f n):=by
 have e:opR p w a left f n=(if cK w (aE f.vals 0) 3=true then kS w a left 17 0 (aE (w.obj (aE f.vals 0).n).vals 0) (aE (w.obj (aE f.vals 0).n).vals 0)else .fail 2):=by unfold opR;rw[hop];rfl
 rw[e];have hfull:=P0.full;simp[aM.asks,hop]at hfull;have hv0:0<f.vals.length:=by omega
 have hu:=P0.val hv0;have H:=h.pre;have ht:=h.t
 by_cases hI:cK w (aE f.vals 0) 3=true
 ·rw[if_pos hI];obtain⟨a1,a2,a3,a4⟩:=fI P0.hF hu hI;have hl1:=bOc a2 a3;have hL:=at_ func278
  conv at hL=>rhs;reduce
  refine bD hL rfl rfl ?_
  simp only[go_sem,kK]
  refine cA ?_
  simp only[go_sem,ht,aS hv0]
  refine(vV h (fZ hu) 3 hI).mono ?_
  rintro v e1 c1 ⟨rfl,⟨bv2,t2⟩,k2⟩
  try simp only[go_sem,aHw,aDf,aS (l:=(w.obj (aE f.vals 0).n).vals) (by omega)]
  obtain⟨⟨bv3,t3⟩,k3⟩:=h.fin t2 k2 (cnt2:=aC c1 0 3 (c1 0 3+1)) (en2:=(e1.set ⟨0,3,c1 0 3⟩ (some (.box [.i 0,.i 0] false))).set ⟨0,3,c1 0 3⟩ (some (.box [.i (aE (w.obj (aE f.vals 0).n).vals 0).kind,.i (aE (w.obj (aE f.vals 0).n).vals 0).n] false))) (fun k hk hj=>by simp only[hj.set]) (by(repeat refine upS ?_ (by omega));exact aO _)
  refine(rA t3 _ _).mono ?_
  rintro v e2 c2 ⟨rfl,t4,k4⟩
  refine⟨?_,t4,k3.trans k4⟩
  rw[hop];rfl
 ·rw[if_neg hI];rw[bQ0]at hI;have hL:=at_ func278
  conv at hL=>rhs;reduce
  refine cC hL rfl rfl ?_
  simp only[go_sem,kK]
  refine dK 8 rfl ?_
  simp only[go_sem,bP0,bPw,ht,aS hv0];exact vW h (fZ hu) 3 hI
theorem bE0 (P0:Pre p w0 S w a left f n)(h:TS kt kr en cnt p w a left f n [] bv)(hop:n.op=18):rI 279 kt kr en cnt p w a left f n (opR p w a left f n):=by
 have e:opR p w a left f n=(if cK w (aE f.vals 0) 3=true then kS (dW w (aE f.vals 0).n ⟨3,0,[aE f.vals 1],[]⟩) a left 18 0 bO (aE f.vals 1)else .fail 2):=by unfold opR;rw[hop];rfl
 rw[e];have hfull:=P0.full;simp[aM.asks,hop]at hfull;have hv0:0<f.vals.length:=by omega
 have hv1:1<f.vals.length:=by omega
 have hu:=P0.val hv0;have h120:=P0.objs;have H:=h.pre;have ht:=h.t
 by_cases hI:cK w (aE f.vals 0) 3=true
 ·rw[if_pos hI];obtain⟨a1,a2,a3,a4⟩:=fI P0.hF hu hI;simp only[inR,bTe]at a1;obtain⟨j,hj⟩: ∃j:Nat,(aE f.vals 0).n=(j:Int):=⟨(aE f.vals 0).n.toNat,by omega⟩
  have hL:=at_ func279
  conv at hL=>rhs;reduce
  refine bD hL rfl rfl ?_
  simp only[go_sem,kK]
  refine cA ?_
  simp only[go_sem,ht,aS hv0]
  refine(vV h (fZ hu) 3 hI).mono ?_
  rintro v e1 c1 ⟨rfl,⟨bv2,t2⟩,k2⟩
  have ht2:=t2.t
  try simp only[go_sem,kK,H,kB]
  refine aH ?_
  simp only[go_sem,kB,ht2,aS hv0,gK hv1,hj,kA,kF]
  refine(aL1 t2 (o:=⟨3,0,[aE f.vals 1],[]⟩) (.inr rfl) (.inr rfl) (j:=j) (by omega) (by omega)).mono ?_
  rintro v e3 c3 ⟨rfl,⟨bv3,t3⟩,k3⟩
  have ht3:=t3.t
  try simp only[go_sem,kK,H,kB,kA,kF]
  refine aH ?_
  simp only[go_sem,ht3,gK hv1,kU.ret,kA,kF]
  refine(rA t3 bO (aE f.vals 1)).mono ?_
  rintro v e4 c4 ⟨rfl,t4,k4⟩
  refine⟨?_,t4,(k2.trans k3).trans k4⟩
  rw[hop];rfl
 ·rw[if_neg hI];rw[bQ0]at hI;have hL:=at_ func279
  conv at hL=>rhs;reduce
  refine cC hL rfl rfl ?_
  simp only[go_sem,kK]
  refine dK 8 rfl ?_
  simp only[go_sem,bP0,bPw,ht,aS hv0];exact vW h (fZ hu) 3 hI
noncomputable def aUb :{c//L 281=some c}:=by
 have hL:=at_ func281
 conv at hL=>rhs;reduce
 exact⟨_,hL⟩
theorem bE1 (P0:Pre p w0 S w a left f n)(h:TS kt kr en cnt p w a left f n [] bv)(hop:n.op=20):rI 281 kt kr en cnt p w a left f n (opR p w a left f n):=by
 have e:opR p w a left f n=(if cK w (aE f.vals 0) 6=true then
   (if(w.obj (aE f.vals 0).n).n=0 then .wait
   else if¬(w.obj (aE f.vals 0).n).n=1 then .fail (w.obj (aE f.vals 0).n).n
   else kS w a left 20 0 (aE (w.obj (aE f.vals 0).n).vals 0) (aE (w.obj (aE f.vals 0).n).vals 0))
  else .fail 2):=by unfold opR;rw[hop];rfl
 rw[e];have hfull:=P0.full;simp[aM.asks,hop]at hfull;have hv0:0<f.vals.length:=by omega
 have hu:=P0.val hv0;have H:=h.pre;have ht:=h.t
 by_cases hI:cK w (aE f.vals 0) 6=true
 ·rw[if_pos hI];obtain⟨a1,a2,a3,a4⟩:=fI P0.hF hu hI;have hW:=vV h (fZ hu) 6 hI;generalize w.obj (aE f.vals 0).n=o at a2 a3 hW⊢
  by_cases h0:o.n=0
  ·rw[if_pos h0];have d0:decide (o.n=0)=true:=D_t h0
   refine bD aUb.2 rfl rfl ?_
   simp only[go_sem,kK,aUb]
   refine cA ?_
   simp only[go_sem,ht,aS hv0]
   refine hW.mono ?_
   rintro v e1 c1 ⟨rfl,⟨bv2,t2⟩,k2⟩
   simp only[go_sem,kK,d0];exact⟨rfl,h.fin t2 k2 (fun k hk hj=>by simp only[hj.set]) (by(repeat refine upS ?_ (by omega));exact aO _)⟩
  ·rw[if_neg h0];have d0:decide (o.n=0)=false:=D_f h0
   by_cases h1:o.n=1
   ·rw[if_neg (fun h=>h h1)]
    have d1:decide (o.n=1)=true:=D_t h1;have hl1:0<o.vals.length:=by
     have hk:=a2.ok;rw[dQ,if_pos a3,kG,if_neg h0,if_pos h1]at hk;simp only[bPp,bTe]at hk;omega
    refine bD aUb.2 rfl rfl ?_
    simp only[go_sem,kK,aUb]
    refine cA ?_
    simp only[go_sem,ht,aS hv0]
    refine hW.mono ?_
    rintro v e1 c1 ⟨rfl,⟨bv2,t2⟩,k2⟩
    simp only[go_sem,kK,d0,d1,aS hl1];obtain⟨⟨bv3,t3⟩,k3⟩:=h.fin t2 k2 (cnt2:=aC c1 0 3 (c1 0 3+1)) (en2:=(e1.set ⟨0,3,c1 0 3⟩ (some (.box [.i 0,.i 0,.cl [],.cl []] false))).set ⟨0,3,c1 0 3⟩ (some (.box [.i o.form,.i o.n,.fz (o.vals.map aD.enc),.fz (o.frames.map aB.enc)] false))) (fun k hk hj=>by simp only[hj.set]) (by(repeat refine upS ?_ (by omega));exact aO _)
    refine(rA t3 _ _).mono ?_
    rintro v e2 c2 ⟨rfl,t4,k4⟩
    refine⟨?_,t4,k3.trans k4⟩
    rw[hop];rfl
   ·rw[if_pos h1];have d1:decide (o.n=1)=false:=D_f h1
    refine cC aUb.2 rfl rfl ?_
    simp only[go_sem,kK,aUb]
    refine cA ?_
    simp only[go_sem,ht,aS hv0]
    refine hW.mono ?_
    rintro v e1 c1 ⟨rfl,⟨bv2,t2⟩,k2⟩
    simp only[go_sem,kK,d0,d1]
    refine dK 4 rfl ?_
    simp only[go_sem,bP0,bPw];exact⟨rfl,h.fell t2 k2 (fun k hk hj=>by simp only[hj.set]) (by(repeat refine upS ?_ (by omega));exact aO _)⟩
 ·rw[if_neg hI];rw[bQ0]at hI
  refine cC aUb.2 rfl rfl ?_
  simp only[go_sem,kK,aUb]
  refine dK 8 rfl ?_
  simp only[go_sem,bP0,bPw,ht,aS hv0];exact vW h (fZ hu) 6 hI
theorem bE2 (P0:Pre p w0 S w a left f n)(h:TS kt kr en cnt p w a left f n [] bv)(hop:n.op=23):rI 284 kt kr en cnt p w a left f n (opR p w a left f n):=by
 have e:opR p w a left f n=(if cK w (aE f.vals 0) 4=true then
   (if(w.obj (aE f.vals 0).n).vals.length=0 then .wait
   else kS (dW w (aE f.vals 0).n ⟨4,0,(w.obj (aE f.vals 0).n).vals.drop 1,[]⟩) a left 23 0 (aE (w.obj (aE f.vals 0).n).vals 0) (aE (w.obj (aE f.vals 0).n).vals 0))
  else .fail 2):=by unfold opR;rw[hop];rfl
 rw[e];have hfull:=P0.full;simp[aM.asks,hop]at hfull;have hv0:0<f.vals.length:=by omega
 have hu:=P0.val hv0;have h120:=P0.objs;have H:=h.pre;have ht:=h.t
 by_cases hI:cK w (aE f.vals 0) 4=true
 ·rw[if_pos hI];obtain⟨a1,a2,a3,a4⟩:=fI P0.hF hu hI;have hW:=vV h (fZ hu) 4 hI;simp only[inR,bTe]at a1;obtain⟨j,hj⟩: ∃j:Nat,(aE f.vals 0).n=(j:Int):=⟨(aE f.vals 0).n.toNat,by omega⟩
  generalize w.obj (aE f.vals 0).n=o at a2 a3 hW⊢;have hk:=a2.ok;simp only[dQ,a3]at hk
  simp at hk
  obtain⟨q1,q2,q3⟩:=hk
  by_cases h0:o.vals.length=0
  ·rw[if_pos h0];have d0:decide ((o.vals.length:Int)=0)=true:=D_t (by omega)
   have d0':decide (o.vals.length=0)=true:=D_t h0;have hL:=at_ func284
   conv at hL=>rhs;reduce
   refine bD hL rfl rfl ?_
   simp only[go_sem,kK]
   refine cA ?_
   simp only[go_sem,ht,aS hv0]
   refine hW.mono ?_
   rintro v e1 c1 ⟨rfl,⟨bv2,t2⟩,k2⟩
   simp only[go_sem,kK,bPr,d0];exact⟨rfl,h.fin t2 k2 (fun k hk hj=>by simp only[hj.set]) (by(repeat refine upS ?_ (by omega));exact aO _)⟩
  ·rw[if_neg h0];have d0:decide ((o.vals.length:Int)=0)=false:=D_f (by omega)
   have d0':decide (o.vals.length=0)=false:=D_f h0;have hL:=at_ func284
   conv at hL=>rhs;reduce
   refine bD hL rfl rfl ?_
   simp only[go_sem,kK]
   refine cA ?_
   simp only[go_sem,ht,aS hv0]
   refine hW.mono ?_
   rintro v e1 c1 ⟨rfl,⟨bv2,t2⟩,k2⟩
   have ht2:=t2.t;have z1:=t2.okt.set;simp only[go_sem,kK,z1,ht2,bPr,d0,aS (l:=o.vals) (by omega),aDd (xs:=o.vals.map aD.enc) (by rw[bPr];omega) (tP _),<-bSp,aS hv0,hj]
   obtain⟨⟨bv3,t3⟩,k3⟩:=h.fin t2 k2 (cnt2:=aC (aC c1 0 3 (c1 0 3+1)) 0 4 (c1 0 4+1)) (en2:=((((e1.set ⟨0,3,c1 0 3⟩ (some (.box [.i 0,.i 0,.cl [],.cl []] false))).set ⟨0,3,c1 0 3⟩ (some (.box [.i o.form,.i o.n,.fz (o.vals.map aD.enc),.fz (o.frames.map aB.enc)] false))).set ⟨0,4,c1 0 4⟩ (some (.box [.i 0,.i 0] false))).set ⟨0,4,c1 0 4⟩ (some (.box [.i (aE o.vals 0).kind,.i (aE o.vals 0).n] false))).set ⟨0,3,c1 0 3⟩ (some (.box [.i o.form,.i o.n,.fz ((o.vals.drop 1).map aD.enc),.fz (o.frames.map aB.enc)] false))) (fun k hk hj=>by simp only[hj.set]) (by(repeat refine upS ?_ (by omega));exact aO _)
   refine(aL1 t3 (o:=⟨o.form,o.n,o.vals.drop 1,o.frames⟩) (.inl rfl) (.inl rfl) (j:=j) (by omega) (by omega)).mono ?_
   rintro v e3 c3 ⟨rfl,⟨bv4,t4⟩,k4⟩
   obtain⟨p4,q4⟩:=k4.loc (d:=4) (g:=c1 0 4) (by simp only[go_sem];omega) t2.okt.ne.symm t2.okr.ne.symm
   simp only[go_sem]at p4;simp only[go_sem,p4]
   refine(rA t4 (aE o.vals 0) (aE o.vals 0)).mono ?_
   rintro v e5 c5 ⟨rfl,t5,k5⟩
   have eo:(⟨o.form,o.n,o.vals.drop 1,o.frames⟩:aQ)=⟨4,0,o.vals.drop 1,[]⟩:=by rw[a3,q1,q2]
   rw[eo]at t5
   refine⟨?_,t5,(k3.trans k4).trans k5⟩
   rw[hop];rfl
 ·rw[if_neg hI];rw[bQ0]at hI;have hL:=at_ func284
  conv at hL=>rhs;reduce
  refine cC hL rfl rfl ?_
  simp only[go_sem,kK]
  refine dK 8 rfl ?_
  simp only[go_sem,bP0,bPw,ht,aS hv0];exact vW h (fZ hu) 4 hI
theorem bE3 (P0:Pre p w0 S w a left f n)(h:TS kt kr en cnt p w a left f n [] bv)(hop:n.op=24):rI 285 kt kr en cnt p w a left f n (opR p w a left f n):=by
 have e:opR p w a left f n=(if¬(aE f.vals 0).kind=1 then .fail 2
  else if 100<=w.outs.length then .fail 4
  else kS ⟨w.objs,w.tasks,w.outs++[⟨n.n,(aE f.vals 0).n⟩],w.ins,w.used⟩ a left 24 n.n bO (aE f.vals 0)):=by unfold opR;rw[hop];rfl
 rw[e];have hfull:=P0.full;simp[aM.asks,hop]at hfull;have hv0:0<f.vals.length:=by omega
 have h100:w.outs.length<=100:=(cR.1 P0.hF.ok).2.1;have H:=h.pre;have ht:=h.t;have hr:=h.r
 by_cases h1:(aE f.vals 0).kind=1
 ·rw[if_neg (fun h=>h h1)]
  have d1:decide ((aE f.vals 0).kind=1)=true:=D_t h1
  by_cases hc:100<=w.outs.length
  ·rw[if_pos hc];have d2:decide ((w.outs.length:Int)<100)=false:=D_f (by omega)
   have hL:=at_ func285
   conv at hL=>rhs;reduce
   refine cC hL rfl rfl ?_
   simp only[go_sem,kK,ht,aS hv0]
   refine cA ?_
   simp only[go_sem,d1,(iG _).ret]
   refine dK 10 rfl ?_
   simp only[go_sem,bP0,bPw,H,ht,hr,bPr,d2,(kT _).ret];exact h.fell0 (fun k hk=>by simp only[hk.set]) (by(repeat refine upS ?_ (by omega));exact aO _)
  ·rw[if_neg hc];have d2:decide ((w.outs.length:Int)<100)=true:=D_t (by omega)
   have hl:w.outs.length+1<=16777216:=by omega
   have hd1:cU 2 [.agg [.i n.n,.i (aE f.vals 0).n]]=true:=rfl;have hL:=at_ func285
   conv at hL=>rhs;reduce
   refine rZ hL rfl rfl ?_
   simp only[go_sem,kK,ht,aS hv0]
   refine cA ?_
   simp only[go_sem,d1,(iG _).ret]
   refine cA ?_
   simp only[go_sem,H,ht,hr,bPr,d2,(iG _).ret]
   refine aH ?_
   simp only[go_sem,ht,hr,H,kB,bPr,(aTp _).ret,bM,dY,vS,aQm,hd1,hl,sP,kA,kF]
   refine aH ?_
   simp only[go_sem,H,kU.ret,kA,kF];have hu: ∀t,cnt 0 t<=aC (aC cnt 0 3 (cnt 0 3+1)) 0 48 (cnt 0 48+1) 0 t:=(by(repeat refine upS ?_ (by omega));exact aO _)
   refine(aOr (f:=f) (n:=n) (by simp only[H];exact ht) (h.okt.up hu) bO (aE f.vals 0)).mono ?_
   rintro v e1 c1 ⟨rfl,tb,old,up⟩
   have h0:TS kt kr (en.set kt (some (.box [.ptr kr 0,.i a,.fz (left.map aB.enc),.i f.node,.fz (f.env.map aD.enc),.fz (f.vals.map aD.enc),.i n.op,.i n.n,.is n.kids,.fz (n.pats.map Pat.enc),.cl [.agg [.i bO.kind,.i bO.n]]] false))) cnt p w a left f n [bO] (.cl [.agg [.i bO.kind,.i bO.n]]):=⟨h.okt,h.okr,h.ne,.inr rfl,cG,by rw[aK h.ne];exact hr⟩
   have o48:=old ⟨0,48,cnt 0 48⟩ ⟨rfl,by simp only[go_sem];omega⟩ h.okt.ne.symm
   simp only[go_sem,H]at o48;have okr:=old kr (h.okr.up hu) h.ne;simp only[go_sem]at okr;have hA:w.outs.map bJ.enc++[.agg [.i n.n,.i (aE f.vals 0).n]]=(w.outs++[(⟨n.n,(aE f.vals 0).n⟩:bJ)]).map bJ.enc:=by simp[bJ.enc]
   rw[hA]at o48;have hF:=bCd h0 (w':=⟨w.objs,w.tasks,w.outs++[⟨n.n,(aE f.vals 0).n⟩],w.ins,w.used⟩) (E:=e1) (c:=c1) (by rw[tb,cG]) okr rfl rfl (tQ o48 (by simp)) rfl (by simp) (fun k hk k1 k2=>by rw[old k (hk.up hu) k1,aK k1,aK k2,hk.set,hk.set,hk.set]) (fun t=>bP2 (hu t) (up t))
   split at hF
   case h_2=>exact hF.elim
   rename_i E2 hE2;rw[hE2]
   refine⟨?_,hF.1,fun k hk k1 k2=>(hF.2.old k hk k1 k2).trans (aK k1),hF.2.up⟩
   rw[hop];rfl
 ·rw[if_pos h1];have d1:decide ((aE f.vals 0).kind=1)=false:=D_f h1;have hL:=at_ func285
  conv at hL=>rhs;reduce
  refine cC hL rfl rfl ?_
  simp only[go_sem,kK,ht,aS hv0]
  refine dK 3 rfl ?_
  simp only[go_sem,bP0,bPw,d1,(kT _).ret];exact h.fell0 (fun k hk=>by simp only[hk.set]) (by(repeat refine upS ?_ (by omega));exact aO _)
theorem bE4 {xs:List Int}:oU 1 en (.fz (.i x::xs.map (.int .i64))) (.i 0)=some {v:= .fp [.i x] 0}:=(rfl)
theorem bE5 (P0:Pre p w0 S w a left f n)(h:TS kt kr en cnt p w a left f n [] bv)(hop:n.op=25):rI 286 kt kr en cnt p w a left f n (opR p w a left f n):=by
 have e:opR p w a left f n=(match w.ins with
  |[]=> .wait
  |x::xs=>if 1000000000<=w.used then .fail 4 else kS ⟨w.objs,w.tasks,w.outs,xs,w.used+1⟩ a left 25 0 (nG x) (nG x)):=by unfold opR;rw[hop];rfl
 rw[e];have h50:w.used<=1000000000/\ 0<=w.used:=by
  have:=(cR.1 P0.hF.ok).2.2.2.1;simp only[inR,bTe]at this;omega
 have H:=h.pre;have hn:=h.ne;have ht:=h.t;have hr:=h.r;cases hi:w.ins with
 |nil=>
  rw[hi]at hr;simp only[Val.is,bP1]at hr;have hL:=at_ func286
  conv at hL=>rhs;reduce
  refine bD hL rfl rfl ?_
  simp only[go_sem,kK,ht,hr,bP7];exact⟨rfl,⟨bv,h⟩,dT.refl _ _ _ _⟩
 |cons x xs=>
  rw[hi]at hr;simp only[Val.is,bQj]at hr;have hlx:xs.length<=50:=by
   have:=(cR.1 P0.hF.ok).2.2.1;rw[hi]at this;simp only[nW,bPp,bTe,bPy]at this;omega
  have d0:decide ((xs.length+1:Nat)=0)=false:=D_f (by omega)
  have d0':decide (((xs.length+1:Nat):Int)=0)=false:=D_f (by omega)
  simp only
  by_cases hu:1000000000<=w.used
  ·rw[if_pos hu];have d1:decide (w.used<1000000000)=false:=D_f (by omega)
   have hL:=at_ func286
   conv at hL=>rhs;reduce
   refine cC hL rfl rfl ?_
   simp only[go_sem,kK,ht,hr,bPy,bPr,d0']
   refine dK 9 rfl ?_
   simp only[go_sem,bP0,bPw,ht,hr,d1,(kT _).ret];exact h.fell0 (fun _ _=>rfl) (aO _)
  ·rw[if_neg hu];have d1:decide (w.used<1000000000)=true:=D_t (by omega)
   have hw:IntKind.i64.wrap (w.used+1)=w.used+1:=aW (by omega)
   have hL:=at_ func286
   conv at hL=>rhs;reduce
   refine bD hL rfl rfl ?_
   simp only[go_sem,kK,ht,hr,bPy,bPr,d0']
   refine cA ?_
   simp only[go_sem,ht,hr,d1,(iG _).ret];simp only[go_sem,H,ht,hr,bE4,(uB _).ret,aDd (size:=1) (xs:= .i x::xs.map (.int .i64)) (by simp) rfl,hw]
   refine WIn.mono (rA (w:=⟨w.objs,w.tasks,w.outs,xs,w.used+1⟩) (left:=left) (back:=[]) (bv:=bv) ⟨h.okt.up (by(repeat refine upS ?_ (by omega));exact aO _),h.okr.up (by(repeat refine upS ?_ (by omega));exact aO _),hn,h.ob,by simp only[H];exact ht,cG⟩ (nG x) (nG x)) ?_
   rintro v e2 c2 ⟨rfl,t4,k4⟩
   refine⟨?_,t4,(show dT kt kr en cnt _ _ from⟨fun k hk a b=>by simp only[hk.set,aK b],(by(repeat refine upS ?_ (by omega));exact aO _)⟩).trans k4⟩
   rw[hop];rfl
theorem bE6 (P0:Pre p w0 S w a left f n)(h:TS kt kr en cnt p w a left f n [] bv)(hop:n.op=22):rI 283 kt kr en cnt p w a left f n (opR p w a left f n):=by
 have e:opR p w a left f n=(if cK w (aE f.vals 0) 4=true then
   (if 4<=(w.obj (aE f.vals 0).n).vals.length then .wait
   else kS (dW w (aE f.vals 0).n ⟨4,0,(w.obj (aE f.vals 0).n).vals++[aE f.vals 1],[]⟩) a left 22 0 bO (aE f.vals 1))
  else .fail 2):=by unfold opR;rw[hop];rfl
 rw[e];have hfull:=P0.full;simp[aM.asks,hop]at hfull;have hv0:0<f.vals.length:=by omega
 have hv1:1<f.vals.length:=by omega
 have hu:=P0.val hv0;have h120:=P0.objs;have H:=h.pre;have ht:=h.t
 by_cases hI:cK w (aE f.vals 0) 4=true
 ·rw[if_pos hI];obtain⟨a1,a2,a3,a4⟩:=fI P0.hF hu hI;have hW:=vV h (fZ hu) 4 hI;simp only[inR,bTe]at a1;obtain⟨j,hj⟩: ∃j:Nat,(aE f.vals 0).n=(j:Int):=⟨(aE f.vals 0).n.toNat,by omega⟩
  generalize w.obj (aE f.vals 0).n=o at a2 a3 hW⊢;have hk:=a2.ok;simp only[dQ,a3]at hk
  simp at hk
  obtain⟨q1,q2,q3⟩:=hk;have hq4:o.vals.length<=4:=by
   simp only[bA,bPp,bTe]at q3;omega
  by_cases h0:4<=o.vals.length
  ·rw[if_pos h0];have d0:decide ((o.vals.length:Int)=4)=true:=D_t (by omega)
   have d0':decide (o.vals.length=4)=true:=D_t (by omega)
   have hL:=at_ func283
   conv at hL=>rhs;reduce
   refine bD hL rfl rfl ?_
   simp only[go_sem,kK]
   refine cA ?_
   simp only[go_sem,ht,aS hv0]
   refine hW.mono ?_
   rintro v e1 c1 ⟨rfl,⟨bv2,t2⟩,k2⟩
   simp only[go_sem,kK,bPr,d0];exact⟨rfl,h.fin t2 k2 (fun k hk hj=>by simp only[hj.set]) (by(repeat refine upS ?_ (by omega));exact aO _)⟩
  ·rw[if_neg h0];have d0:decide ((o.vals.length:Int)=4)=false:=D_f (by omega)
   have d0':decide (o.vals.length=4)=false:=D_f (by omega)
   have hL:=at_ func283
   conv at hL=>rhs;reduce
   refine bD hL rfl rfl ?_
   simp only[go_sem,kK]
   refine cA ?_
   simp only[go_sem,ht,aS hv0]
   refine hW.mono ?_
   rintro v e1 c1 ⟨rfl,⟨bv2,t2⟩,k2⟩
   have ht2:=t2.t;have z1:=t2.okt.set;have z2:=t2.okr.set;have z3:=t2.okt.eqF;have z4:=t2.okt.eqF';have hl:o.vals.length+1<=16777216:=by omega
   simp only[go_sem,kK,bPr,d0]
   refine aH ?_
   simp only[go_sem,kB,z1,ht2,(aB6 _).ret,gK hv1,bM,dY,vS,tP,aC5,hl,bPr,sP,aS hv0,hj,kA,kF];have hA:o.vals.map aD.enc++[.agg [.i (aE f.vals 1).kind,.i (aE f.vals 1).n]]=(o.vals++[aE f.vals 1]).map aD.enc:=by simp[aD.enc]
   rw[hA,show o.vals.length+1=(o.vals++[aE f.vals 1]).length by simp]
   refine WIn.mono (aV7 (o:=⟨o.form,o.n,o.vals++[aE f.vals 1],o.frames⟩) (t:=30) (g:=c1 0 30) (t2.to (by simp only[z1]) (by simp only[z2]) (by(repeat refine upS ?_ (by omega));exact aO _)) (b:=!(o.vals.map aD.enc).isEmpty) (by simp only[go_sem]) (by simp only[go_sem];omega) (.inl rfl) (j:=j) (by omega) (by omega)) ?_
   rintro v e3 c3 ⟨rfl,⟨bv3,t3⟩,old3,up3⟩
   have ht3:=t3.t
   try simp only[go_sem,kK,H,kB]
   refine aH ?_
   simp only[go_sem,ht3,gK hv1,kU.ret,kA,kF]
   refine(rA t3 bO (aE f.vals 1)).mono ?_
   rintro v e4 c4 ⟨rfl,t4,k4⟩
   have eo:(⟨o.form,o.n,o.vals++[aE f.vals 1],o.frames⟩:aQ)=⟨4,0,o.vals++[aE f.vals 1],[]⟩:=by rw[a3,q1,q2]
   rw[eo]at t4;have hu1: ∀t,c1 0 t<=aC (aC c1 0 3 (c1 0 3+1)) 0 30 (c1 0 30+1) 0 t:=(by(repeat refine upS ?_ (by omega));exact aO _)
   refine⟨?_,t4,(show dT kt kr en cnt e3 c3 from⟨fun k hk x y=>?_,fun t=>bP2 (k2.up t) (bP2 (hu1 t) (up3 t))⟩).trans k4⟩
   ·rw[hop];rfl
   ·have hk1:=hk.up k2.up;rw[old3 k (hk1.up hu1) x y hk1.ne,hk1.set,hk1.set,hk1.set,hk1.set];exact k2.old k hk x y
 ·rw[if_neg hI];rw[bQ0]at hI;have hL:=at_ func283
  conv at hL=>rhs;reduce
  refine cC hL rfl rfl ?_
  simp only[go_sem,kK]
  refine dK 8 rfl ?_
  simp only[go_sem,bP0,bPw,ht,aS hv0];exact vW h (fZ hu) 4 hI
def oZ :List Nat:=[266,266,266,267,268,269,270,271,272,272,272,273,274,275,276,277,278,279,280,281,282,283,284,285,286,287,288,289]
def bH9 :List Val:= .nilf::oZ.map fun f=> .fn f [] []
theorem aNk :PC L 224 [] (.agg bH9):=by
 exact⟨12,fun n hn=>aBk hn (show lX L 12 224 []=some (.agg bH9)by kernel_rfl)⟩
theorem bCv (P0:Pre p w0 S w a left f n)(h:TS kt kr en cnt p w a left f n [] bv):rI (oZ.getD (n.op.toNat-1) 0) kt kr en cnt p w a left f n (opR p w a left f n):=by
 obtain⟨o1,o2⟩:=aMg P0.node;have ho:n.op=1 \/n.op=2 \/n.op=3 \/n.op=4 \/n.op=5 \/n.op=6 \/n.op=7 \/n.op=8 \/n.op=9 \/n.op=10 \/n.op=11 \/n.op=12 \/n.op=13 \/n.op=14 \/n.op=15 \/n.op=16 \/n.op=17 \/n.op=18 \/n.op=19 \/n.op=20 \/n.op=21 \/n.op=22 \/n.op=23 \/n.op=24 \/n.op=25 \/n.op=26 \/n.op=27 \/n.op=28:=by omega
 rcases ho with ho|ho|ho|ho|ho|ho|ho|ho|ho|ho|ho|ho|ho|ho|ho|ho|ho|ho|ho|ho|ho|ho|ho|ho|ho|ho|ho|ho
 ·rw[show oZ.getD (n.op.toNat-1) 0=266 from by rw[ho];rfl];exact bH1 h ho
 ·rw[show oZ.getD (n.op.toNat-1) 0=266 from by rw[ho];rfl];exact bH3 h ho
 ·rw[show oZ.getD (n.op.toNat-1) 0=266 from by rw[ho];rfl];exact bH4 h ho
 ·rw[show oZ.getD (n.op.toNat-1) 0=267 from by rw[ho];rfl];exact bH5 P0 h ho
 ·rw[show oZ.getD (n.op.toNat-1) 0=268 from by rw[ho];rfl];exact bH6 P0 h ho
 ·rw[show oZ.getD (n.op.toNat-1) 0=269 from by rw[ho];rfl];exact bH8 P0 h ho
 ·rw[show oZ.getD (n.op.toNat-1) 0=270 from by rw[ho];rfl];exact bH2 P0 h ho
 ·rw[show oZ.getD (n.op.toNat-1) 0=271 from by rw[ho];rfl];exact bH7 P0 h ho
 ·rw[show oZ.getD (n.op.toNat-1) 0=272 from by rw[ho];rfl];exact aMk P0 h (by omega)
 ·rw[show oZ.getD (n.op.toNat-1) 0=272 from by rw[ho];rfl];exact aMk P0 h (by omega)
 ·rw[show oZ.getD (n.op.toNat-1) 0=272 from by rw[ho];rfl];exact aMk P0 h (by omega)
 ·rw[show oZ.getD (n.op.toNat-1) 0=273 from by rw[ho];rfl];exact bEr P0 h ho
 ·rw[show oZ.getD (n.op.toNat-1) 0=274 from by rw[ho];rfl];exact bEw P0 h ho
 ·rw[show oZ.getD (n.op.toNat-1) 0=275 from by rw[ho];rfl];exact bEq P0 h ho
 ·rw[show oZ.getD (n.op.toNat-1) 0=276 from by rw[ho];rfl];exact bEs P0 h ho
 ·rw[show oZ.getD (n.op.toNat-1) 0=277 from by rw[ho];rfl];exact bEx P0 h ho
 ·rw[show oZ.getD (n.op.toNat-1) 0=278 from by rw[ho];rfl];exact bEz P0 h ho
 ·rw[show oZ.getD (n.op.toNat-1) 0=279 from by rw[ho];rfl];exact bE0 P0 h ho
 ·rw[show oZ.getD (n.op.toNat-1) 0=280 from by rw[ho];rfl];exact bEv P0 h ho
 ·rw[show oZ.getD (n.op.toNat-1) 0=281 from by rw[ho];rfl];exact bE1 P0 h ho
 ·rw[show oZ.getD (n.op.toNat-1) 0=282 from by rw[ho];rfl];exact bEy P0 h ho
 ·rw[show oZ.getD (n.op.toNat-1) 0=283 from by rw[ho];rfl];exact bE6 P0 h ho
 ·rw[show oZ.getD (n.op.toNat-1) 0=284 from by rw[ho];rfl];exact bE2 P0 h ho
 ·rw[show oZ.getD (n.op.toNat-1) 0=285 from by rw[ho];rfl];exact bE3 P0 h ho
 ·rw[show oZ.getD (n.op.toNat-1) 0=286 from by rw[ho];rfl];exact bE5 P0 h ho
 ·rw[show oZ.getD (n.op.toNat-1) 0=287 from by rw[ho];rfl];exact bEo P0 h ho
 ·rw[show oZ.getD (n.op.toNat-1) 0=288 from by rw[ho];rfl];exact bEt P0 h ho
 ·rw[show oZ.getD (n.op.toNat-1) 0=289 from by rw[ho];rfl];exact bEp h ho
theorem aXn {o m:Int}{F E B:Val}{es vs ks ps bs:List Val}{KK:List Key}(h:en kt=some (.box [.ptr kr 0,.i a,F,.i i,E,V,.i o,.i m,K,P,B] false))(hF:cQ en F=some (.fz xs,KK))(hE:iO E es)(hV:iO V vs)(hK:iO K ks)(hP:iO P ps)(hB:iO B bs)(hk:kt∉KK):
  oP (.ptr kt 0) [[]] en=some ((W.applyAll en (KK.map .frz)).set kt (some (.box [.ptr kr 0,.i a,.fz xs,.i i,.fz es,.fz vs,.i o,.i m,.fz ks,.fz ps,.fz bs] false))):=by
 have:=aGa (rs:=[(.ptr kr 0,[]),(.i a,[]),(.fz xs,KK),(.i i,[]),(.fz es,[]),(.fz vs,[]),(.i o,[]),(.i m,[]),(.fz ks,[]),(.fz ps,[]),(.fz bs,[])]) h (by simp only[aC1,aFk,aTq,aF9,hF,rU hE,rU hV,rU hK,rU hP,rU hB]) (by simpa using hk)
 simp only[bR8,bRt,bQr,bQt,bQj,bP1]at this;exact aLz this
structure TB (kt kr:Key) (en:En) (cnt:Nat->Nat->Nat) (p:aF) (w:aA) (a:Int) (n:aM) (K P:Val):Prop where
 okt:Old kt cnt
 okr:Old kr cnt
 ne:kr≠kt
 hK:iO K (n.kids.map (.int .i64))
 hP:iO P (n.pats.map Pat.enc)
 t:en kt=some (.box [.ptr kr 0,.i a,.cl [],.i 0,.cl [],.cl [],.i n.op,.i n.n,K,P,.cl []] false)
 r:en kr=some (.box [.fz (p.nodes.map aM.enc),.is p.funs,.i p.main,.fz (p.cons.map cS.enc),.fz (w.objs.map aQ.enc),.is w.tasks,.fz (w.outs.map bJ.enc),.is w.ins,.i w.used] false)
theorem TB.pre (h:TB kt kr en cnt p w a n K P):type_of%(bEi h.okt h.okr h.ne):=bEi h.okt h.okr h.ne
theorem uG (h:TB kt kr en cnt p w a n K P){l:List aB}{lv:Val}(hl:iO lv (l.map aB.enc))(hc:l.length<=40):
  WIn L (.fn 220 [] []) [.ptr kt 0,lv] en cnt fun v en' cnt'=>v= .tup []/\ (∃bv',TS kt kr en' cnt' p w a l ⟨0,[],[]⟩ n [] bv')/\ dT kt kr en cnt en' cnt':=by
 have hw:IntKind.i64.wrap ((0:Int)+(l.length:Int))=((l.length:Nat):Int):=by rw[aW (by omega)];omega
 have hw':IntKind.i64.wrap (l.length:Int)=((l.length:Nat):Int):=aW (by omega)
 have d:decide (((l.length:Nat):Int)<=40)=true:=D_t (by omega)
 have hlen:sD lv=some l.length:=by rw[hl.len,bPr]
 have hel:=hl.elems;have s1:=h.okt.set;have s2:=h.okr.set;have n1:=h.okt.new;have hl16:l.length<=16777216:=by omega
 have hC:=aDy [];have ht:=h.t;have hr:=h.r;have hL:=at_ func220
 conv at hL=>rhs;reduce
 refine rZ hL rfl rfl ?_
 simp only[go_sem,kK]
 refine cA ?_
 simp only[go_sem,ht,hlen,bP7,Int.natCast_zero,Int.zero_add,hw',d,(iG _).ret,hC.ret,bM,dY,hel,vS,jM,aEp,bQh,bPr,hl16]
 by_cases hl0:l=[]
 ·subst hl0;simp only[go_sem,bP1,aLy,qO,lR,ht];rw[aXn (KK:=[]) (es:=[]) (vs:=[]) (bs:=[]) cG rfl (.inr rfl) (.inr rfl) h.hK h.hP (.inr rfl) (by simp)]
  simp only[bP1,fV];exact⟨⟨_,h.okt,h.okr,h.ne,.inl rfl,cG,by rw[aK h.ne,aK h.ne];exact hr⟩,fun k hk a b=>by rw[aK a,aK a],fun _=>bPq _⟩
 ·have hne:l.map aB.enc≠[]:=by simpa using hl0
  have nk:kt≠⟨0,21,cnt 0 21⟩:=h.okt.ne;have nr:kr≠⟨0,21,cnt 0 21⟩:=h.okr.ne;simp only[go_sem,aC6 hne,rT,lS,s1,ht,bPr];rw[aXn (KK:=[⟨0,21,cnt 0 21⟩]) (xs:=l.map aB.enc) (es:=[]) (vs:=[]) (bs:=[]) cG (tQ (by rw[n1];exact cG) (by simp)) (.inr rfl) (.inr rfl) h.hK h.hP (.inr rfl) (by simpa using nk)]
  simp only[bQj,bP1,kY,fV];have hu:=upS (aO cnt) (a:=21) (x:=cnt 0 21+1) (by omega)
  refine⟨⟨_,h.okt.up hu,h.okr.up hu,h.ne,.inl rfl,cG,?_⟩,fun k hk a b=>?_,hu⟩
  ·rw[aK h.ne,pW nr,aK h.ne,s2];exact hr
  ·rw[aK a,pW hk.ne,aK a,hk.set]
end
end Go.Proofs.YtmnchlhngpdffaaGreat
