/- Contracts of functions of the program and of the document: part 3. -/
import Derived.Test.YtmnchlhngpdffaaGreatM2
set_option linter.all false
open Bool renaming and_eq_true → bN8, and_true → bQa, eq_iff_iff → bQh, false_eq_true → bOa, not_eq_true → bPf, not_eq_true' → bPg, true_and → bO3
open Int renaming eq_ofNat_of_zero_le → bQd, natCast_nonneg → bQo, toNat_natCast → bPc, toNat_of_nonneg → bRl
open List renaming all_cons → bQg, all_eq_true → bOe, any_eq_true → bQ8, append_nil → bPa, cons_append → bQj, countP_le_length → bRh, countP_pos_iff → bRm, drop_eq_getElem_cons → bO9, drop_length → bP1, drop_zero → bQf, flatMap_nil → bP7, getD_eq_getElem?_getD → bOd, getElem?_append_left → bRd, getElem?_cons_zero → bQn, getElem?_eq_getElem → bPh, getElem?_set → bQu, getElem_mem → bOg, length_append → bOr, length_cons → bOh, length_drop → bQk, length_map → bOc, length_nil → bOo, length_pos_iff → bRe, length_set → bP9, length_singleton → bQ9, length_take → bPl, map_append → bPn, map_cons → bO4, map_drop → bQ1, map_nil → bOq, map_take → bP0, mem_append → bO2, mem_append_left → bQ4, mem_append_right → bQt, mem_cons → bO8, mem_cons_of_mem → bP8, mem_filter → bPy, mem_flatMap → bPq, mem_map → bO5, mem_of_mem_take → bQr, mem_or_eq_of_mem_set → bRr, mem_range → bO7, mem_singleton → bPm, nil_append → bPb, prefix_refl → bRa, take_length → bPt, take_of_length_le → bOt, take_succ_cons → bOp
open Nat renaming add_zero → bPo, le_of_eq → bPi, le_refl → bN9, le_trans → bOk, lt_of_lt_of_le → bOy, zero_add → bO1, zero_le → bOf
open Option renaming getD_none → bRj, getD_some → bOz, isSome_none → bQb, isSome_some → bP2
open Option.some renaming injEq → bN7
namespace Go.Proofs.YtmnchlhngpdffaaGreat
open Go.Abs Go.Proofs
def aL5 (m:List Int)(i:Nat):Int:=m.getD i 0
structure bKg (w:aB) (m:List Int):Prop where
 len:m.length=w.objs.length
 range: ∀i,i<m.length->aL5 m i=0 \/aL5 m i=1 \/aL5 m i=2
 tasks: ∀i,i<w.objs.length->cN (w.obj i)=true-> ¬aL5 m i=0
 black: ∀i,i<w.objs.length->aL5 m i=2-> ∀x∈aJd (w.obj i),¬aL5 m x.toNat=0
structure bN6 (w:aB) (keep:List Int):Prop where
 rise:keep.Pairwise (· < ·)
 rng: ∀x∈keep,inR x 0 ((w.objs.length:Int)-1)=true
 refs: ∀n∈keep,∀x∈aJd (w.obj n),x∈keep
 len:keep.length<=w.objs.length
variable {t size:Nat}{xs:List Val}{en:En}
theorem aGj.shape {v:Val}(h:aGj en v size xs t):v.one=true/\ v.cells=[v]:=h.mine.shape
theorem aGj.keep {en':En}{v:Val}(h:aGj en v size xs t)(k: ∀g,en' ⟨0,t,g⟩=en ⟨0,t,g⟩):aGj en' v size xs t:=by
 rcases h with h|⟨g,h1,h2⟩
 ·exact .inl h
 ·exact .inr ⟨g,h1,by rw[k];exact h2⟩
def ne2 (a:Int):Bool:=!decide (a=2)
theorem uW {keep:List Int}{x:Int}(h:x∈keep):keep.idxOf x<keep.length:=List.idxOf_lt_length_of_mem h
theorem aQ1 {hi:Int}: ∀(evs:List (Int×Int)) {u u':List Bool},qV hi u evs=some u'-> ∀e∈evs,inR e.2 e.1 hi=true
 |[],_,_,_=>fun e he=>by cases he
 |(lo,x)::evs,u,u',h=>by
  simp only[qV]at h
  split at h
  ·rename_i hc;simp only[bN8]at hc;intro e he;rcases bO8.1 he with rfl|he
   ·exact hc.1
   ·exact aQ1 evs h e he
  ·cases h
theorem aZe : ∀(l:List aL) (i:Nat) {n:aL} {k:Int},n∈l->k∈n.kids-> ∃e∈kD i l,e.2=k/\ 0<=e.1
 |[],_,_,_,h,_=>by cases h
 |m::l,i,n,k,h,hk=>by
  simp only[kD,bO2,bO5];rcases bO8.1 h with rfl|h
  ·exact⟨_,.inl ⟨k,hk,rfl⟩,rfl,by simp only;omega⟩
  ·obtain⟨e,he,h1,h2⟩:=aZe l (i+1) h hk;exact⟨e,.inr he,h1,h2⟩
structure dV (p:aI):Prop where
 nodes: ∀n∈p.nodes,dZ p n=true
 kids: ∀n∈p.nodes,∀k∈n.kids,inR k 0 ((p.nodes.length:Int)-1)=true
 funs: ∀k∈p.funs,inR k 0 ((p.nodes.length:Int)-1)=true
 cons: ∀c∈p.cons,inR c.args 0 3=true
 main:inR p.main 0 ((p.funs.length:Int)-1)=true
variable {p:aI}
theorem oL (h:eY p=true):dV p:=by
 simp only[eY,bN8,bRt]at h;obtain⟨⟨⟨⟨_,_⟩,hm⟩,hc⟩,h⟩:=h;simp only[aNq,uQ]at h
 by_cases hn:p.nodes.all (dZ p)=true
 ·simp only[hn,if_true]at h;rw[<-rX]at h;have hs: ∃u',qV (↑p.nodes.length-1) (List.replicate p.nodes.length false) (List.map (fun x=>((0:Int),x)) p.funs++kD 0 p.nodes)=some u':=by
   cases he:qV (↑p.nodes.length-1) (List.replicate p.nodes.length false) (List.map (fun x=>((0:Int),x)) p.funs++kD 0 p.nodes)with
   |some u=>exact⟨u,rfl⟩
   |none=>rw[he]at h;cases h
  obtain⟨u',hu⟩:=hs;have hin:=aQ1 _ hu
  refine⟨bOe.1 hn,fun n hn k hk=>?_,fun k hk=>?_,fun c hc'=>?_,hm⟩
  ·obtain⟨e,he,h1,h2⟩:=aZe p.nodes 0 hn hk;have:=hin e (bQt _ he);rw[h1]at this;simp only[inR,bRt]at this⊢;omega
  ·exact hin (0,k) (bQ4 _ (bO5.2 ⟨k,hk,rfl⟩))
  ·simp only[xM,bN8]at hc;have:=bOe.1 hc.1.1 c hc';simp only[uP,bN8]at this;exact this.2
 ·simp only[hn,if_false,bOa]at h;cases he:qV (↑p.nodes.length-1) (List.replicate p.nodes.length false) (List.map (fun x=>((0:Int),x)) p.funs)with
  |none=>rw[he]at h;cases h
  |some u=>rw[he]at h;cases h
variable {i:Int}
theorem hZ (h:inR i 0 ((p.nodes.length:Int)-1)=true):p.node i∈p.nodes:=by
 simp only[inR,bRt]at h;have hj:i.toNat<p.nodes.length:=by omega
 simp only[aI.node,bOd,bPh hj,bOz];exact bOg hj
theorem lL {α:Type}{l:List α}{i:Nat}{d:α}(h:i<l.length):l.getD i d∈l:=by
 simp only[bOd,bPh h,bOz];exact bOg h
def pM (o:aR):List aE:=o.vals++o.frames.flatMap fun f=>f.env++f.vals
variable {w w':aB}{v:aE}
theorem aQ2 (h:w.objs.length<=w'.objs.length)(hv:dD p w v=true):dD p w' v=true:=by
 unfold dD at hv⊢;split
 ·rename_i h1;rw[if_pos h1]at hv;exact hv
 rename_i h1;rw[if_neg h1]at hv;split
 ·rename_i h2;rw[if_pos h2]at hv;exact hv
 rename_i h2;rw[if_neg h2]at hv;split
 ·rename_i h3;rw[if_pos h3]at hv;exact hv
 rename_i h3;rw[if_neg h3]at hv;split
 ·rename_i h4;rw[if_pos h4]at hv;exact hv
 rename_i h4;rw[if_neg h4]at hv;split
 ·rename_i h5;rw[if_pos h5]at hv;simp only[inR,bRt]at hv⊢;omega
 ·rename_i h5;rw[if_neg h5]at hv;exact hv
theorem oM {l:List aE}{m:Int}(h:w.objs.length<=w'.objs.length)(hv:bE p w l m=true):bE p w' l m=true:=by
 simp only[bE,bN8,bOe]at hv⊢;exact⟨hv.1,fun v hm=>aQ2 h (hv.2 v hm)⟩
variable {f:aA}
theorem aQ3 (h:w.objs.length<=w'.objs.length)(hv:dA p w f=true):dA p w' f=true:=by
 simp only[dA,bN8]at hv⊢;exact⟨⟨hv.1.1,oM h hv.1.2⟩,oM h hv.2⟩
theorem aL6 {l:List aA}(h:w.objs.length<=w'.objs.length)(hv:bV p w l=true):bV p w' l=true:=by
 simp only[bV,bN8,bOe]at hv⊢;exact⟨hv.1,fun f hm=>aQ3 h (hv.2 f hm)⟩
theorem aAe {o:aR}(h:w.objs.length<=w'.objs.length)(hv:dK p w o=true):dK p w' o=true:=by
 unfold dK at hv⊢;split
 ·rename_i h0;rw[if_pos h0]at hv;unfold jU at hv⊢;split
  ·rename_i h1;rw[if_pos h1]at hv;simp only[bN8]at hv⊢;exact⟨⟨⟨aL6 h hv.1.1.1,oM h hv.1.1.2⟩,hv.1.2⟩,hv.2⟩
  rename_i h1;rw[if_neg h1]at hv;split
  ·rename_i h2;rw[if_pos h2]at hv;simp only[bN8]at hv⊢;exact⟨hv.1,oM h hv.2⟩
  ·rename_i h2;rw[if_neg h2]at hv;exact hv
 rename_i h0;rw[if_neg h0]at hv;split
 ·rename_i h1;rw[if_pos h1]at hv;simp only[bN8]at hv⊢;exact⟨⟨⟨hv.1.1.1,aL6 h hv.1.1.2⟩,hv.1.2⟩,hv.2⟩
 rename_i h1;rw[if_neg h1]at hv;split
 ·rename_i h2;rw[if_pos h2]at hv;exact hv
 rename_i h2;rw[if_neg h2]at hv;split
 ·rename_i h3;rw[if_pos h3]at hv;simp only[bN8]at hv⊢;exact⟨hv.1,oM h hv.2⟩
 rename_i h3;rw[if_neg h3]at hv;split
 ·rename_i h4;rw[if_pos h4]at hv;simp only[bN8]at hv⊢;exact⟨hv.1,oM h hv.2⟩
 rename_i h4;rw[if_neg h4]at hv;split
 ·rename_i h5;rw[if_pos h5]at hv;simp only[bN8]at hv⊢;exact⟨hv.1,oM h hv.2⟩
 rename_i h5;rw[if_neg h5]at hv;split
 ·rename_i h6;rw[if_pos h6]at hv;simp only[bN8]at hv⊢;exact⟨hv.1,oM h hv.2⟩
 ·rename_i h6;rw[if_neg h6]at hv;exact hv
theorem aBb {o:aR}(hv:dK p w o=true):(∀v∈o.vals,dD p w v=true)/\ bV p w o.frames=true:=by
 have vs: ∀{l:List aE} {m:Int},bE p w l m=true-> ∀v∈l,dD p w v=true:=fun h=>by
  simp only[bE,bN8,bOe]at h;exact h.2
 have none_: ∀{l:List aA},(l.length:Int)=0->bV p w l=true:=fun h=>by
  have h:=List.eq_nil_of_length_eq_zero (Int.ofNat_eq_zero.1 h);subst h;simp[bV]
 have nov: ∀{l:List aE},(l.length:Int)=0-> ∀v∈l,dD p w v=true:=fun h=>by
  have h:=List.eq_nil_of_length_eq_zero (Int.ofNat_eq_zero.1 h);subst h;simp
 unfold dK at hv
 split at hv
 ·unfold jU at hv
  split at hv
  ·simp only[bN8]at hv;exact⟨vs hv.1.1.2,hv.1.1.1⟩
  split at hv
  ·simp only[bN8,bRt]at hv;exact⟨vs hv.2,none_ hv.1.1⟩
  split at hv
  ·simp only[bN8,bRt]at hv;exact⟨nov hv.2,none_ hv.1⟩
  ·cases hv
 split at hv
 ·simp only[bN8,bRt]at hv;exact⟨nov hv.1.1.1.1.2,hv.1.1.2⟩
 split at hv
 ·cases hv
 rename_i hz;have hz:=none_ (Decidable.not_not.1 hz)
 split at hv
 ·simp only[bN8]at hv;exact⟨vs hv.2,hz⟩
 split at hv
 ·simp only[bN8]at hv;exact⟨vs hv.2,hz⟩
 split at hv
 ·simp only[bN8]at hv;exact⟨vs hv.2,hz⟩
 split at hv
 ·simp only[bN8]at hv;exact⟨vs hv.2,hz⟩
 ·cases hv
theorem mM {w w':aB}(hl:w.objs.length<=w'.objs.length)(hk: ∀k,inR k 0 ((w.objs.length:Int)-1)=true->cN (w'.obj k)=cN (w.obj k)): ∀(l met:List Int),bM w met l=true->bM w' met l=true
 |[],_,_=>rfl
 |k::l,met,h=>by
  simp only[bM,bN8]at h⊢;obtain⟨⟨⟨h1,h2⟩,h3⟩,h4⟩:=h
  refine⟨⟨⟨?_,by rw[hk k h1];exact h2⟩,h3⟩,mM hl hk l _ h4⟩
  simp only[inR,bRt]at h1⊢;omega
theorem aEc {w:aB}{k:Int}(h1:inR k 0 ((w.objs.length:Int)-1)=true)(h2:cN (w.obj k)=true): ∀(l met:List Int),bM w met l=true->k∉met->k∉l->bM w met (l++[k])=true
 |[],met,_,hm,_=>by
  simp only[bPb,bM,h1,h2,bQa,bO3,bPg,<-bPf,bQ8,bRt]
  rintro⟨x,hx,rfl⟩
  exact hm hx
 |x::l,met,h,hm,hl=>by
  simp only[bQj,bM,bN8]at h⊢
  refine⟨h.1,aEc h1 h2 l _ h.2 (fun hc=>?_) (fun hc=>hl (bP8 _ hc))⟩
  rcases bO2.1 hc with hc|hc
  ·exact hm hc
  ·simp only[bPm]at hc;exact hl (by rw[hc];simp)
theorem aAf {w:aB}: ∀(l met:List Int),bM w met l=true-> ∀k∈l,inR k 0 ((w.objs.length:Int)-1)=true/\ cN (w.obj k)=true
 |[],_,_=>fun k hk=>by cases hk
 |x::l,met,h=>by
  simp only[bM,bN8]at h;intro k hk;rcases bO8.1 hk with rfl|hk
  ·exact⟨h.1.1.1,h.1.1.2⟩
  ·exact aAf l _ h.2 k hk
structure cF (p:aI) (w0:aB) (S:Nat->Prop) (w:aB):Prop where
 ok:dO p w=true
 le:w0.objs.length<=w.objs.length
 form: ∀i:Nat,i<w0.objs.length->(w.obj i).form=(w0.obj i).form
 pre:w0.tasks<+:w.tasks
 shut: ∀i:Nat,i<w.objs.length->S i-> ∀v∈pM (w.obj i),v.kind=5->S v.n.toNat
 ts: ∀t∈w.tasks,S t.toNat
 new: ∀i,w0.objs.length<=i->S i
structure VOk (p:aI) (S:Nat->Prop) (w:aB) (v:aE):Prop where
 ok:dD p w v=true
 ref:v.kind=5->S v.n.toNat
structure OOk (p:aI) (S:Nat->Prop) (w:aB) (o:aR):Prop where
 ok:dK p w o=true
 ref: ∀v∈pM o,v.kind=5->S v.n.toNat
structure FOk (p:aI) (S:Nat->Prop) (w:aB) (f:aA):Prop where
 ok:dA p w f=true
 ref: ∀v∈f.env++f.vals,v.kind=5->S v.n.toNat
variable {w0:aB}{S:Nat->Prop}
theorem VOk.le (h:VOk p S w v)(hl:w.objs.length<=w'.objs.length):VOk p S w' v:=⟨aQ2 hl h.ok,h.ref⟩
theorem OOk.le {o:aR}(h:OOk p S w o)(hl:w.objs.length<=w'.objs.length):OOk p S w' o:=⟨aAe hl h.ok,h.ref⟩
theorem FOk.le (h:FOk p S w f)(hl:w.objs.length<=w'.objs.length):FOk p S w' f:=⟨aQ3 hl h.ok,h.ref⟩
theorem FOk.env (h:FOk p S w f)(hv:v∈f.env):VOk p S w v:=by
 have:=h.ok;simp only[dA,bE,bN8,bOe]at this;exact⟨this.1.2.2 v hv,h.ref v (bQ4 _ hv)⟩
theorem FOk.vals (h:FOk p S w f)(hv:v∈f.vals):VOk p S w v:=by
 have:=h.ok;simp only[dA,bE,bN8,bOe]at this;exact⟨this.2.2 v hv,h.ref v (bQt _ hv)⟩
theorem OOk.vals {o:aR}(h:OOk p S w o)(hv:v∈o.vals):VOk p S w v:=⟨(aBb h.ok).1 v hv,h.ref v (bQ4 _ hv)⟩
theorem OOk.frames {o:aR}(h:OOk p S w o)(hf:f∈o.frames):FOk p S w f:=by
 have:=(aBb h.ok).2;simp only[bV,bN8,bOe]at this;exact⟨this.2 f hf,fun v hv=>h.ref v (bQt _ (bPq.2 ⟨f,hf,hv⟩))⟩
theorem dL :dO p w=true↔w.objs.length<=120/\ w.outs.length<=100/\ mH w.ins 50=true/\ inR w.used 0 1000000000=true/\ jL w=true/\ (∀o∈w.objs,dK p w o=true)/\ ∀o∈w.outs,uN o=true:=by
 simp only[dO,bN8,bRt,bOe,and_assoc];constructor
 ·rintro⟨a,b,c⟩;exact⟨by omega,by omega,c⟩
 ·rintro⟨a,b,c⟩;exact⟨by omega,by omega,c⟩
theorem bBm (h:inR i 0 ((w.objs.length:Int)-1)=true):w.obj i∈w.objs:=by
 simp only[inR,bRt]at h;exact lL (by omega)
theorem cF.obj (h:cF p w0 S w)(hi:inR i 0 ((w.objs.length:Int)-1)=true)(hs:S i.toNat):OOk p S w (w.obj i):=by
 have hi':=hi;simp only[inR,bRt]at hi'
 refine⟨(dL.1 h.ok).2.2.2.2.2.1 _ (bBm hi),fun v hv=>?_⟩
 have e:w.obj i=w.obj (i.toNat:Nat):=by rw[bRl hi'.1]
 rw[e]at hv;exact h.shut _ (by omega) hs v hv
theorem cF.ref (h:cF p w0 S w)(hv:VOk p S w v)(h5:v.kind=5):inR v.n 0 ((w.objs.length:Int)-1)=true/\ OOk p S w (w.obj v.n):=by
 have h1:=hv.ok;simp only[dD,h5]at h1;have h1:inR v.n 0 ((w.objs.length:Int)-1)=true:=by simpa using h1
 exact⟨h1,h.obj h1 (hv.ref h5)⟩
theorem cF.task (h:cF p w0 S w){a:Int}(ha:inR a 0 ((w.tasks.length:Int)-1)=true):inR (bQ w a) 0 ((w.objs.length:Int)-1)=true/\ (w.obj (bQ w a)).form=6/\ S (bQ w a).toNat:=by
 simp only[inR,bRt]at ha;have hm:bQ w a∈w.tasks:=lL (by omega)
 have ht:=(dL.1 h.ok).2.2.2.2.1;simp only[jL,bN8]at ht;obtain⟨h1,h2⟩:=aAf _ _ ht.2 _ hm;exact⟨h1,of_decide_eq_true h2,h.ts _ hm⟩
variable {j:Nat}
theorem aNz {o:aR}(hi:inR i 0 ((w.objs.length:Int)-1)=true):(dR w i o).obj j=if(i.toNat=j)then o else w.obj j:=by
 simp only[inR,bRt]at hi;simp only[aB.obj,dR,bOd,bPc,bQu]
 by_cases h:i.toNat=j
 ·subst h;simp only[if_true];rw[if_pos (by omega)];rfl
 ·simp[h]
theorem pN {o:aR}:(dR w i o).objs.length=w.objs.length:=by simp[dR]
theorem aV4 {l:List aR}{i:Nat}{o:aR}(hi:i<l.length)(h:cN o=cN l[i]):(l.set i o).countP cN=l.countP cN:=by
 rw[List.countP_set hi,h];have:cN l[i]=true->0<l.countP cN:=fun h=>bRm.2 ⟨_,bOg hi,h⟩
 split
 ·rename_i h1;have:=this h1;omega
 ·omega
theorem aUe {i:Nat}(h:i<w.objs.length):w.obj i=w.objs[i]:=by
 simp only[aB.obj,bPc,bOd,bPh h,bOz]
theorem cF.set (h:cF p w0 S w){o:aR}(hi:inR i 0 ((w.objs.length:Int)-1)=true)(ho:OOk p S w o)(hf:o.form=(w.obj i).form):cF p w0 S (dR w i o):=by
 have hi':=hi;simp only[inR,bRt]at hi';have hit:i.toNat<w.objs.length:=by omega
 have e:w.obj i=w.objs[i.toNat]:=by rw[<-aUe hit,bRl hi'.1]
 have hk:cN o=cN w.objs[i.toNat]:=by simp only[cN,hf,e]
 obtain⟨a1,a2,a3,a4,a5,a6,a7⟩:=dL.1 h.ok;have hle:w.objs.length<=(dR w i o).objs.length:=by rw[pN];exact bN9 _
 refine⟨dL.2 ⟨by rw[pN];exact a1,a2,a3,a4,?_,fun x hx=>?_,a7⟩,by rw[pN];exact h.le,fun j hj=>?_,h.pre,fun j hj hs v hv=>?_,h.ts,h.new⟩
 ·simp only[jL,bN8,bRt]at a5⊢
  refine⟨?_,mM hle (fun k hk'=>?_) _ _ a5.2⟩
  ·show w.tasks.length=(w.objs.set i.toNat o).countP cN;rw[aV4 hit hk];exact a5.1
  ·simp only[inR,bRt]at hk';obtain⟨j,rfl⟩:=bQd hk'.1;rw[aNz hi];split
   ·rename_i hj;subst hj;rw[hk,aUe hit]
   ·rfl
 ·rcases bRr hx with hx|rfl
  ·exact aAe hle (a6 x hx)
  ·exact aAe hle ho.ok
 ·rw[aNz hi];split
  ·rename_i hj';subst hj';rw[hf,<-h.form _ hj,bRl hi'.1]
  ·exact h.form j hj
 ·rw[aNz hi]at hv;rw[pN]at hj
  split at hv
  ·exact ho.ref v hv
  ·exact h.shut j hj hs v hv
theorem mD {o:aR}:(dW w o).objs.length=w.objs.length+1:=by simp[dW]
theorem xX {o:aR}(hj:j<w.objs.length+1):(dW w o).obj j=if j=w.objs.length then o else w.obj j:=by
 simp only[aB.obj,dW,bPc,bOd];split
 ·rename_i h;subst h;simp
 ·rename_i h;rw[bRd (by omega)]
theorem cF.add (h:cF p w0 S w){o:aR}(hl:w.objs.length<120)(ho:OOk p S w o)(hf: ¬o.form=6):cF p w0 S (dW w o):=by
 obtain⟨a1,a2,a3,a4,a5,a6,a7⟩:=dL.1 h.ok;have hle:w.objs.length<=(dW w o).objs.length:=by rw[mD];omega
 have hk:cN o=false:=decide_eq_false hf;have hl0:=h.le
 refine⟨dL.2 ⟨by rw[mD];omega,a2,a3,a4,?_,fun x hx=>?_,a7⟩,by rw[mD];omega,fun j hj=>?_,h.pre,fun j hj hs v hv=>?_,h.ts,h.new⟩
 ·simp only[jL,bN8,bRt]at a5⊢
  refine⟨?_,mM hle (fun k hk'=>?_) _ _ a5.2⟩
  ·show w.tasks.length=(w.objs++[o]).countP cN;rw[List.countP_append];simp[hk,a5.1]
  ·simp only[inR,bRt]at hk';obtain⟨j,rfl⟩:=bQd hk'.1;rw[xX (by omega),if_neg (by omega)]
 ·rcases bO2.1 hx with hx|hx
  ·exact aAe hle (a6 x hx)
  ·simp only[bPm]at hx;subst hx;exact aAe hle ho.ok
 ·rw[xX (by omega),if_neg (by omega)];exact h.form j hj
 ·rw[mD]at hj;rw[xX hj]at hv
  split at hv
  ·exact ho.ref v hv
  ·exact h.shut j (by omega) hs v hv
theorem cF.born (h:cF p w0 S w){o:aR}(hl:w.objs.length<120)(ho:OOk p S w o)(hf:o.form=6):cF p w0 S (pK (dW w o)):=by
 obtain⟨a1,a2,a3,a4,a5,a6,a7⟩:=dL.1 h.ok;have hlen:(pK (dW w o)).objs.length=w.objs.length+1:=mD;have hle:w.objs.length<=(pK (dW w o)).objs.length:=by rw[hlen];omega
 have hk:cN o=true:=decide_eq_true hf;have hl0:=h.le;have hT:(pK (dW w o)).tasks=w.tasks++[(w.objs.length:Int)]:=by
  show w.tasks++[((dW w o).objs.length:Int)-1]=_;rw[mD];congr 2;omega
 have hO: ∀j:Int,(pK (dW w o)).obj j=(dW w o).obj j:=fun j=>rfl
 refine⟨dL.2 ⟨by rw[hlen];omega,a2,a3,a4,?_,fun x hx=>?_,a7⟩,by rw[hlen];omega,fun j hj=>?_,?_,fun j hj hs v hv=>?_,fun t ht=>?_,h.new⟩
 ·simp only[jL,bN8,bRt]at a5⊢;rw[hT]
  refine⟨?_,aEc ?_ ?_ _ _ (mM hle (fun k hk'=>?_) _ _ a5.2) (by simp) (fun hc=>?_)⟩
  ·show(w.tasks++[_]).length=(w.objs++[o]).countP cN;rw[List.countP_append];simp[hk,a5.1]
  ·rw[hlen];simp only[inR,bRt];omega
  ·rw[hO,xX (by omega),if_pos rfl];exact hk
  ·simp only[inR,bRt]at hk';obtain⟨j,rfl⟩:=bQd hk'.1;rw[hO,xX (by omega),if_neg (by omega)]
  ·have:=(aAf _ _ a5.2 _ hc).1;simp only[inR,bRt]at this;omega
 ·rcases bO2.1 hx with hx|hx
  ·exact aAe hle (a6 x hx)
  ·simp only[bPm]at hx;subst hx;exact aAe hle ho.ok
 ·rw[hO,xX (by omega),if_neg (by omega)];exact h.form j hj
 ·rw[hT];exact h.pre.trans (List.prefix_append _ _)
 ·rw[hlen]at hj;rw[hO,xX hj]at hv
  split at hv
  ·exact ho.ref v hv
  ·exact h.shut j (by omega) hs v hv
 ·rw[hT]at ht;rcases bO2.1 ht with ht|ht
  ·exact h.ts t ht
  ·simp only[bPm]at ht;subst ht;exact h.new _ (by simp only[bPc];omega)
end Go.Proofs.YtmnchlhngpdffaaGreat
namespace Go.Proofs.YtmnchlhngpdffaaGreat
open Go.Abs Go.Proofs
variable {p :aI}{w0 w w':aB}{S:Nat->Prop}{a:Int}{left:List aA}
structure LOk (p:aI) (S:Nat->Prop) (w:aB) (l:List aA):Prop where
 len:l.length<=40
 ok: ∀f∈l,FOk p S w f
 opn: ∀f∈l,eV p f=true
variable {l:List aA}
theorem LOk.le (h:LOk p S w l)(hl:w.objs.length<=w'.objs.length):LOk p S w' l:=⟨h.len,fun f hf=>(h.ok f hf).le hl,h.opn⟩
theorem LOk.frames (h:LOk p S w l):bV p w l=true:=by
 simp only[bV,bN8,bRt,bOe];exact⟨by have:=h.len;omega,fun f hf=>(h.ok f hf).ok⟩
theorem LOk.sub {l':List aA}(h:LOk p S w l)(hs: ∀f∈l',f∈l)(hl:l'.length<=40):LOk p S w l':=⟨hl,fun f hf=>h.ok f (hs f hf),fun f hf=>h.opn f (hs f hf)⟩
variable {n:Int}
theorem aN0 (h:inR n (-1000000000) 1000000000=true):VOk p S w (lR n):=⟨by simp[dD,lR,h],fun h=>by cases h⟩
theorem aJx {b:Bool}:VOk p S w (mA b):=⟨by cases b<;>rfl,fun h=>by cases b<;>cases h⟩
theorem pP :VOk p S w bL:=⟨rfl,fun h=>by cases h⟩
theorem aN1 (h:cF p w0 S w){o:aR}:VOk p S (dW w o) (dE w.objs.length):=by
 refine⟨?_,fun _=>h.new _ (by simp only[dE,bPc];exact h.le)⟩
 simp only[dD,dE,inR,mD];simp
variable {v:aE}
theorem aQ4 (hl:LOk p S w l)(hv:VOk p S w v):OOk p S w ⟨6,0,[v],l⟩:=by
 refine⟨?_,fun u hu=>?_⟩
 ·rw[dK,if_pos rfl,jU,if_pos rfl];simp only[bN8,bRt,bOe]
  refine⟨⟨⟨hl.frames,?_⟩,?_⟩,fun f hf=>?_⟩
  ·simp[bE,hv.ok]
  ·simp only[bOh,bOo];omega
  ·exact hl.opn f (bQr hf)
 ·simp only[pM,bQj,bPb,bO8,bPq]at hu;rcases hu with rfl|⟨f,hf,hu⟩
  ·exact hv.ref
  ·exact(hl.ok f hf).ref u hu
theorem aJy {f:aA}(hl:LOk p S w l)(hlen:l.length<40)(hf:FOk p S w f):OOk p S w ⟨6,0,[],l++[f]⟩:=by
 refine⟨?_,fun u hu=>?_⟩
 ·rw[dK,if_pos rfl,jU,if_pos rfl];simp only[bN8,bRt,bOe,bV]
  refine⟨⟨⟨⟨?_,fun g hg=>?_⟩,rfl⟩,?_⟩,fun g hg=>?_⟩
  ·simp only[bOr,bOh,bOo];omega
  ·rcases bO2.1 hg with hg|hg
   ·exact(hl.ok g hg).ok
   ·simp only[bPm]at hg;subst hg;exact hf.ok
  ·simp only[bOr,bOh,bOo];omega
  ·rw[List.take_append_of_le_length (by simp)]at hg
   exact hl.opn g (bQr hg)
 ·simp only[pM,bPb,bPq]at hu;obtain⟨g,hg,hu⟩:=hu;rcases bO2.1 hg with hg|hg
  ·exact(hl.ok g hg).ref u hu
  ·simp only[bPm]at hg;subst hg;exact hf.ref u hu
variable {st:Int}
theorem aZf (h:st=2 \/st=3 \/st=4):OOk p S w ⟨6,st,[],[]⟩:=by
 refine⟨?_,fun u hu=>by simp[pM]at hu⟩
 rcases h with rfl|rfl|rfl<;>rfl
theorem aZg (hv:VOk p S w v):OOk p S w ⟨6,1,[v],[]⟩:=by
 refine⟨?_,fun u hu=>?_⟩
 ·simp[dK,jU,bE,hv.ok]
 ·simp only[pM,bP7,bPa,bPm]at hu;subst hu;exact hv.ref
theorem bBn (n:aL):0<=n.asks:=by
 unfold aL.asks;split
 ·decide
 split
 ·exact bQo _
 split<;>decide
variable {env:List aE}{node:Int}
theorem aUf (hn:inR node 0 ((p.nodes.length:Int)-1)=true)(he: ∀v∈env,VOk p S w v)(hl:env.length<=30):FOk p S w ⟨node,env,[]⟩:=by
 refine⟨?_,fun v hv=>?_⟩
 ·simp only[dA,bE,bN8,bRt,bOe,hn,true_and]
  refine⟨⟨by omega,fun v hv=>(he v hv).ok⟩,by simpa using bBn _,fun v hv=>by cases hv⟩
 ·simp only[bPa]at hv;exact(he v hv).ref
theorem cS (h:cF p w0 S w)(ha:inR a 0 ((w.tasks.length:Int)-1)=true)(hs:st=2 \/st=3 \/st=4):cF p w0 S (bD w a st).w:=by
 obtain⟨h1,h2,_⟩:=h.task ha;exact h.set h1 (aZf hs) h2.symm
theorem eB (h:cF p w0 S w)(ha:inR a 0 ((w.tasks.length:Int)-1)=true)(hl:LOk p S w left)(hv:VOk p S w v):cF p w0 S (bT w a left v).w:=by
 obtain⟨h1,h2,_⟩:=h.task ha;exact h.set h1 (aQ4 hl hv) h2.symm
theorem sL (h:cF p w0 S w)(ha:inR a 0 ((w.tasks.length:Int)-1)=true)(hl:LOk p S w left)(hn:inR node 0 ((p.nodes.length:Int)-1)=true)(he: ∀v∈env,VOk p S w v):
  cF p w0 S (fT w a left node env).w:=by
 obtain⟨h1,h2,_⟩:=h.task ha;unfold fT;split
 ·exact cS h ha (by simp)
 ·exact h.set h1 (aJy hl (by omega) (aUf hn he (by omega))) h2.symm
theorem aBc (h:cF p w0 S w)(ha:inR a 0 ((w.tasks.length:Int)-1)=true){o:aR}(hl:LOk p S w left)(ho:OOk p S w o)(hf: ¬o.form=6):cF p w0 S (gS w a left o).w:=by
 unfold gS;split
 ·exact cS h ha (by simp)
 ·exact eB (h.add (by omega) ho hf) ha (hl.le (by rw[mD];omega)) (aN1 h)
theorem pQ {d:Did}{act:Int}:(cW d a act n v).w=d.w:=by unfold cW;split<;>rfl
theorem aL7 (h:cF p w0 S w)(ha:inR a 0 ((w.tasks.length:Int)-1)=true){o:aR}(hl:LOk p S w left)(ho:OOk p S w o)(hf:o.form=6):cF p w0 S (yN w a left o).w:=by
 unfold yN;simp only[pQ];unfold gS;split
 ·rw[if_pos (show(bD w a 4).what=1 from rfl)];exact cS h ha (by simp)
 ·rename_i hc;rw[if_neg (by simp[bT])]
  have hb:=h.born (by omega) ho hf
  have ha':inR a 0 (((pK (dW w o)).tasks.length:Int)-1)=true:=by
   simp only[inR,bRt,pK,bOr,bOh,bOo]at ha⊢;have e:(dW w o).tasks=w.tasks:=rfl;rw[e];omega
  have hT:bQ (pK (dW w o)) a=bQ (dW w o) a:=by
   simp only[inR,bRt]at ha;show(w.tasks++_).getD a.toNat 0=w.tasks.getD a.toNat 0;simp only[bOd];rw[bRd (by omega)]
  have:=eB hb ha' (left:=left) (v:=dE w.objs.length) (hl.le (by show _<=(dW w o).objs.length;rw[mD];omega)) ((aN1 h (o:=o)).le (bN9 _))
  have e:pK (bT (dW w o) a left (dE w.objs.length)).w=(bT (pK (dW w o)) a left (dE w.objs.length)).w:=by
   simp only[bT,hT];simp only[pK,dR,bP9]
  show cF p w0 S (pK (bT (dW w o) a left (dE w.objs.length)).w);rw[e];exact this
theorem cF.io (h:cF p w0 S w){outs:List bJ}{ins:List Int}{used:Int}(h1:outs.length<=100)(h2: ∀o∈outs,uN o=true)(h3:mH ins 50=true)(h4:inR used 0 1000000000=true):cF p w0 S ⟨w.objs,w.tasks,outs,ins,used⟩:=by
 obtain⟨a1,a2,a3,a4,a5,a6,a7⟩:=dL.1 h.ok
 refine⟨dL.2 ⟨a1,h1,h3,h4,?_,fun o ho=>aAe (bN9 _) (a6 o ho),h2⟩,h.le,h.form,h.pre,h.shut,h.ts,h.new⟩
 simp only[jL,bN8]at a5⊢;exact⟨a5.1,mM (w:=w) (w':=⟨w.objs,w.tasks,outs,ins,used⟩) (bN9 _) (fun _ _=>rfl) _ _ a5.2⟩
theorem nA {n:aL}(h:dZ p n=true):(n.kids.length:Int)=eQ n.op n.pats.length (oA p n):=by
 simp only[dZ,bN8,bRt]at h;exact h.2
theorem aFg {n:aL}(h:dZ p n=true):n.asks<=n.kids.length:=by
 have:=nA h;unfold aL.asks;unfold eQ at this
 repeat' split at this
 all_goals (repeat' split)
 all_goals omega
variable {k:Int}
theorem aTa (hp:dV p){i:Int}(hi:inR i 0 ((p.nodes.length:Int)-1)=true)(h0:0<=k)(hk:k<(p.node i).kids.length):inR (nN (p.node i) k) 0 ((p.nodes.length:Int)-1)=true:=
 hp.kids _ (hZ hi) _ (lL (by omega))
variable {f:aE}
theorem eN (h:cF p w0 S w)(hv:VOk p S w f)(hi:cV w f k=true):inR f.n 0 ((w.objs.length:Int)-1)=true/\ OOk p S w (w.obj f.n)/\ (w.obj f.n).form=k/\ f.kind=5:=by
 simp only[cV,bN8,bRt]at hi;obtain⟨h1,h2⟩:=h.ref hv hi.1;exact⟨h1,h2,hi.2,hi.1⟩
theorem aCk (hp:dV p)(h:cF p w0 S w)(hf:VOk p S w f)(hv:VOk p S w v){b:aA}(hb:eZ p w f v=some b):
  inR b.node 0 ((p.nodes.length:Int)-1)=true/\ (∀u∈b.env,VOk p S w u)/\ b.vals=[]:=by
 unfold eZ at hb
 split at hb
 ·rename_i h4;simp only[bN7]at hb;subst hb;have h1:=hf.ok;simp only[dD,h4]at h1;have h1:inR f.n 0 ((p.funs.length:Int)-1)=true:=by simpa using h1
  simp only[inR,bRt]at h1;exact⟨hp.funs _ (lL (by omega)),fun u hu=>by simp only[bPm]at hu;subst hu;exact hv,rfl⟩
 ·split at hb
  ·rename_i h2;simp only[bN7]at hb;subst hb;obtain⟨a1,a2,a3,_⟩:=eN h hf h2;have hk:=a2.ok;simp only[dK,a3]at hk
   simp at hk
   obtain⟨_,⟨b1,b2⟩,_⟩:=hk
   refine⟨aTa hp b1 (by decide) ?_,fun u hu=>?_,rfl⟩
   ·rw[nA (hp.nodes _ (hZ b1)),b2];simp[eQ]
   ·rcases bO2.1 hu with hu|hu
    ·exact a2.vals hu
    ·simp only[bPm]at hu;subst hu;exact hv
  ·cases hb
theorem aFh {o:aR}(h:OOk p S w o)(h5:o.form=5):LOk p S w o.frames:=by
 have hk:=h.ok;simp only[dK,h5]at hk;simp[bV]at hk;exact⟨by omega,fun f hf=>h.frames hf,hk.1.2⟩
theorem LOk.app {m:List aA}(h:LOk p S w l)(k:LOk p S w m)(hl:(l++m).length<=40):LOk p S w (l++m):=
 ⟨hl,fun f hf=>(bO2.1 hf).elim (h.ok f) (k.ok f),fun f hf=>(bO2.1 hf).elim (h.opn f) (k.opn f)⟩
theorem aN2 (hp:dV p)(h:cF p w0 S w)(ha:inR a 0 ((w.tasks.length:Int)-1)=true)(hl:LOk p S w left)(hf:VOk p S w f)(hv:VOk p S w v):cF p w0 S (eL p w a left f v).w:=by
 unfold eL;split
 ·rename_i h5;obtain⟨_,a2,a3,_⟩:=eN h hf h5;split
  ·exact cS h ha (by simp)
  ·exact eB h ha (hl.app (aFh a2 a3) (by omega)) hv
 ·split
  ·exact cS h ha (by simp)
  ·rename_i b hb;obtain⟨b1,b2,_⟩:=aCk hp h hf hv hb;exact sL h ha hl b1 b2
variable {op:Int}
theorem aN3 (h:cF p w0 S w)(ha:inR a 0 ((w.tasks.length:Int)-1)=true)(hl:LOk p S w left){u:aE}:cF p w0 S (cC w a left op u v).w:=by
 unfold cC;split
 ·split
  ·exact cS h ha (by simp)
  ·exact eB h ha hl aJx
 split
 ·exact cS h ha (by simp)
 split
 ·exact eB h ha hl aJx
 split
 ·rename_i hr;exact eB h ha hl (aN0 hr)
 ·exact cS h ha (by simp)
mutual
theorem aJz (h:cF p w0 S w): ∀(q:Pat) {v:aE} {l:List aE},VOk p S w v->fX w q v=some l-> ∀u∈l,VOk p S w u
 | .mk f n t ps,v,l,hv,hm=>by
  unfold fX at hm
  split at hm
  ·cases hm;intro u hu;cases hu
  split at hm
  ·cases hm;intro u hu;simp only[bPm]at hu;subst hu;exact hv
  split at hm
  ·split at hm
   ·cases hm;intro u hu;cases hu
   ·cases hm
  split at hm
  ·split at hm
   ·cases hm;intro u hu;cases hu
   ·cases hm
  split at hm
  ·split at hm
   ·cases hm;intro u hu;cases hu
   ·cases hm
  split at hm
  ·rename_i hc;obtain⟨_,a2,_,_⟩:=eN h hv hc.1;exact aGo h ps (fun u hu=>a2.vals hu) hm
  ·cases hm
theorem aGo (h:cF p w0 S w): ∀(ps:List Pat) {vs l:List aE},(∀v∈vs,VOk p S w v)->gC w ps vs=some l-> ∀u∈l,VOk p S w u
 |[],vs,l,hv,hm=>by
  simp only[gC,bN7]at hm;subst hm;intro u hu;cases hu
 |q::ps,[],l,hv,hm=>by
  simp only[gC,bN7]at hm;subst hm;intro u hu;cases hu
 |q::ps,v::vs,l,hv,hm=>by
  simp only[gC]at hm
  split at hm
  ·cases hm
  rename_i l1 h1
  split at hm
  ·cases hm
  rename_i l2 h2;simp only[bN7]at hm;subst hm;intro u hu;rcases bO2.1 hu with hu|hu
  ·exact aJz h q (hv v (by simp)) h1 u hu
  ·exact aGo h ps (fun u hu=>hv u (by simp[hu])) h2 u hu
end
theorem aEd (h:cF p w0 S w)(ha:inR a 0 ((w.tasks.length:Int)-1)=true)(hl:LOk p S w left){kids:List Int}(hk: ∀k∈kids,inR k 0 ((p.nodes.length:Int)-1)=true){env:List aE}(he: ∀v∈env,VOk p S w v){u:aE}(hu:VOk p S w u):
  ∀(l:List Pat) (i:Nat),1+i+l.length<=kids.length->cF p w0 S (jF w a left kids env u i l).w
 |[],i,_=>cS h ha (by simp)
 |q::qs,i,hi=>by
  unfold jF;simp only[bOh]at hi;split
  ·rename_i l hm
   refine sL h ha hl (hk _ (lL (by omega))) fun v hv=>?_
   rcases bO2.1 hv with hv|hv
   ·exact he v hv
   ·exact aJz h q hu hm v hv
  ·exact aEd h ha hl hk he hu qs (i+1) (by omega)
theorem aQ5 {left:List aA}: ∀{m k:Nat},fN p left m=k+1->k<m/\ (p.node (left.getD k default).node).op=26
 |0,k,h=>by simp[fN]at h
 |m+1,k,h=>by
  unfold fN at h
  split at h
  ·rename_i hc;have:m=k:=by omega
   subst this;exact⟨by omega,hc⟩
  ·obtain⟨a,b⟩:=aQ5 h;exact⟨by omega,b⟩
theorem aZh (h:LOk p S w l)(h0:0<l.length)(hr:(p.node (l.headD default).node).op=26):OOk p S w ⟨5,0,[],l⟩:=by
 refine⟨?_,fun u hu=>?_⟩
 ·rw[dK,if_neg (by simp),if_pos rfl]
  simp only[bN8,bRt,bOe];exact⟨⟨⟨⟨⟨by simp,by simp⟩,by omega⟩,h.frames⟩,h.opn⟩,hr⟩
 ·simp only[pM,bPb,bPq]at hu;obtain⟨f,hf,hu⟩:=hu;exact(h.ok f hf).ref u hu
theorem aV5 :(fT w a left node env).what=1->(fT w a left node env).e.n=4:=by
 unfold fT;split
 ·intro _;rfl
 ·intro h;cases h
theorem aN4 (h:cF p w0 S w)(ha:inR a 0 ((w.tasks.length:Int)-1)=true)(hl:LOk p S w left){kid:Int}(hk:inR kid 0 ((p.nodes.length:Int)-1)=true)(he: ∀v∈env,VOk p S w v):cF p w0 S (eM p w a left kid env).w:=by
 unfold eM;split
 ·exact cS h ha (by simp)
 ·rename_i k hr;obtain⟨hkl,hop⟩:=aQ5 hr;split
  ·exact cS h ha (by simp)
  ·rename_i hc
   simp only
   split
   ·rename_i hw;rw[aV5 hw];exact cS h ha (by simp)
   ·have hld:=hl.len;have hd:LOk p S w (left.drop k):=hl.sub (fun f hf=>List.mem_of_mem_drop hf) (by simp only[bQk];omega)
    have hh:(p.node ((left.drop k).headD default).node).op=26:=by
     rw[bOd]at hop;rw[List.headD_eq_head?_getD,List.head?_drop];exact hop
    have hF:=h.add (o:=⟨5,0,[],left.drop k⟩) (by omega) (aZh hd (by simp only[bQk];omega) hh) (by simp)
    have hle:w.objs.length<=(dW w ⟨5,0,[],left.drop k⟩).objs.length:=by rw[mD];omega
    refine sL hF ha ((hl.sub (fun f hf=>bQr hf) (by simp only[bPl];omega)).le hle) hk fun v hv=>?_
    rcases bO2.1 hv with hv|hv
    ·exact(he v hv).le hle
    ·simp only[bPm]at hv;subst hv;exact aN1 h
theorem aN5 (hp:dV p)(h:cF p w0 S w)(ha:inR a 0 ((w.tasks.length:Int)-1)=true)(hl:LOk p S w left)(hf:VOk p S w f):cF p w0 S (dX p w a left f).w:=by
 unfold dX;split
 ·rename_i h5;obtain⟨_,a2,a3,_⟩:=eN h hf h5;exact aL7 h ha hl (aQ4 (aFh a2 a3) pP) rfl
 ·split
  ·exact cS h ha (by simp)
  ·rename_i b hb;obtain⟨b1,b2,b3⟩:=aCk hp h hf pP hb;split
   ·exact cS h ha (by simp)
   ·have e:b=⟨b.node,b.env,[]⟩:=by rw[<-b3]
    have h0:LOk p S w []:=⟨by simp,by simp,by simp⟩
    have:=aJy h0 (by simp) (aUf b1 b2 (by omega))
    rw[<-e]at this;exact aL7 h ha hl this rfl
theorem cY {l:List aE}{i:Nat}(h:i<l.length):aF l i∈l:=lL h
theorem aQ6 (hv:VOk p S w v):OOk p S w ⟨3,0,[v],[]⟩:=by
 refine⟨?_,fun u hu=>?_⟩
 ·simp[dK,bE,hv.ok]
 ·simp only[pM,bP7,bPa,bPm]at hu;subst hu;exact hv.ref
theorem aJ0 {l:List aE}(hl:l.length<=4)(hv: ∀v∈l,VOk p S w v):OOk p S w ⟨4,0,l,[]⟩:=by
 refine⟨?_,fun u hu=>?_⟩
 ·simp only[dK,bE];simp;exact⟨by omega,fun v h=>(hv v h).ok⟩
 ·simp only[pM,bP7,bPa]at hu;exact(hv u hu).ref
theorem aQ7 (h:cF p w0 S w)(ha:inR a 0 ((w.tasks.length:Int)-1)=true)(hl:LOk p S w left){l:List aE}(hv: ∀v∈l,VOk p S w v)(h0:0<l.length)(h1: ¬op=16-> ¬op=17->1<l.length):cF p w0 S (eC w a left op l).w:=by
 unfold eC;have hv0:=hv _ (cY h0);split
 ·rw[pQ];exact aBc h ha hl (aQ6 hv0) (by simp)
 rename_i n16;split
 ·rename_i h3;obtain⟨a1,a2,a3,_⟩:=eN h hv0 h3;split
  ·rw[pQ];have hk:=a2.ok;simp only[dK,a3]at hk
   simp at hk
   exact eB h ha hl (a2.vals (cY (by omega)))
  ·rename_i n17;rw[pQ];have hF:=h.set a1 (aQ6 (hv _ (cY (h1 n16 n17)))) a3.symm;exact eB hF ha (hl.le (by rw[pN];exact bN9 _)) pP
 ·exact cS h ha (by simp)
theorem aJ1 (h:cF p w0 S w)(ha:inR a 0 ((w.tasks.length:Int)-1)=true)(hl:LOk p S w left){l:List aE}(hv: ∀v∈l,VOk p S w v)(h0:0<l.length)(h1:op=22->1<l.length):cF p w0 S (bY w a left op l).w:=by
 unfold bY;have hv0:=hv _ (cY h0);split
 ·rename_i h3;obtain⟨a1,a2,a3,_⟩:=eN h hv0 h3;have hk:=a2.ok;simp only[dK,a3]at hk;simp[bE]at hk;split
  ·rename_i h22;split
   ·exact h
   ·rw[pQ];have hF:=h.set a1 (aJ0 (l:=(w.obj (aF l 0).n).vals++[aF l 1]) (by simp only[bOr,bOh,bOo];omega) fun v hv'=>by
     rcases bO2.1 hv' with hv'|hv'
     ·exact a2.vals hv'
     ·simp only[bPm]at hv';subst hv';exact hv _ (cY (h1 h22))) a3.symm
    exact eB hF ha (hl.le (by rw[pN];exact bN9 _)) pP
  ·split
   ·exact h
   ·rename_i hne;rw[pQ];have hF:=h.set a1 (aJ0 (l:=(w.obj (aF l 0).n).vals.drop 1) (by simp only[bQk];omega) fun v hv'=>a2.vals (List.mem_of_mem_drop hv')) a3.symm
    exact eB hF ha (hl.le (by rw[pN];exact bN9 _)) ((a2.vals (cY (by omega))).le (by rw[pN];exact bN9 _))
 ·exact cS h ha (by simp)
theorem aQ8 (h:cF p w0 S w)(ha:inR a 0 ((w.tasks.length:Int)-1)=true)(hl:LOk p S w left)(hv:VOk p S w v):cF p w0 S (fO w a left v).w:=by
 unfold fO;split
 ·rename_i h6;obtain⟨a1,a2,a3,_⟩:=eN h hv h6;have hk:=a2.ok;rw[dK,if_pos a3,jU]at hk;split
  ·exact h
  rename_i n0;rw[if_neg n0]at hk;split
  ·rename_i n1;rw[if_neg n1]at hk
   split at hk
   ·rename_i hst;exact cS h ha hst
   ·cases hk
  ·rename_i n1;rw[if_pos (Decidable.not_not.1 n1)]at hk;simp only[bN8,bRt]at hk;rw[pQ];exact eB h ha hl (a2.vals (cY (by omega)))
 ·exact cS h ha (by simp)
theorem aN6 (h:cF p w0 S w)(ha:inR a 0 ((w.tasks.length:Int)-1)=true)(hl:LOk p S w left){port:Int}{l:List aE}(hv: ¬op=25->0<l.length/\ inR port 0 3=true)(hv': ∀v∈l,VOk p S w v):cF p w0 S (cX w a left op port l).w:=by
 obtain⟨a1,a2,a3,a4,a5,a6,a7⟩:=dL.1 h.ok;unfold cX;split
 ·split
  ·exact h
  ·rename_i x xs hi;split
   ·exact cS h ha (by simp)
   ·rename_i hu;rw[pQ];simp only[mH,hi,bOh,bQg,bN8,bRt]at a3;simp only[inR,bRt]at a4;have hF:=h.io (outs:=w.outs) (ins:=xs) (used:=w.used+1) a2 a7 (by simp only[mH,bN8,bRt];exact⟨by omega,a3.2.2⟩) (by simp only[inR,bRt];omega)
    exact eB hF ha (hl.le (bN9 _)) (aN0 a3.2.1)
 ·rename_i hop;obtain⟨h0,hport⟩:=hv hop;split
  ·exact cS h ha (by simp)
  ·rename_i hk;split
   ·exact cS h ha (by simp)
   ·rw[pQ];have h1:=(hv' _ (cY h0)).ok;rw[dD,if_pos (Decidable.not_not.1 hk)]at h1;have hF:=h.io (outs:=w.outs++[⟨port,(aF l 0).n⟩]) (ins:=w.ins) (used:=w.used) (by simp only[bOr,bOh,bOo];omega) (fun o ho=>by
     rcases bO2.1 ho with ho|ho
     ·exact a7 o ho
     ·simp only[bPm]at ho;subst ho;simp only[uN,hport,h1,Bool.and_self]) a3 a4
    exact eB hF ha (hl.le (bN9 _)) pP
theorem aV6 (hp:dV p)(h:cF p w0 S w)(ha:inR a 0 ((w.tasks.length:Int)-1)=true)(hl:LOk p S w left){f:aA}(hf:FOk p S w f)(hfull:(f.vals.length:Int)=(p.node f.node).asks):cF p w0 S (rS p w a left f).w:=by
 have hni:inR f.node 0 ((p.nodes.length:Int)-1)=true:=by
  have:=hf.ok;simp only[dA,bN8]at this;exact this.1.1
 have hok:=hp.nodes _ (hZ hni);have hkd:=nA hok;have hnum:nB p (p.node f.node)=true:=by simp only[dZ,bN8]at hok;exact hok.1.1.1
 have hv: ∀v∈f.vals,VOk p S w v:=fun v hv=>hf.vals hv
 unfold rS;generalize hn:p.node f.node=n at*;have ik: ∀k:Int,0<=k->k<n.kids.length->inR (nN n k) 0 ((p.nodes.length:Int)-1)=true:=fun k h1 h2=>by
  rw[<-hn]at h2⊢;exact aTa hp hni h1 h2
 unfold bR
 by_cases e:n.op=1
 ·rw[if_pos e];rw[nB,if_pos e]at hnum;exact eB h ha hl (aN0 hnum)
 rw[if_neg e]
 by_cases e:n.op=2
 ·rw[if_pos e];exact eB h ha hl aJx
 rw[if_neg e]
 by_cases e:n.op=3
 ·rw[if_pos e];exact eB h ha hl pP
 rw[if_neg e]
 by_cases e:n.op=4
 ·rw[if_pos e];simp only[nB,e]at hnum;simp[inR]at hnum;split
  ·refine eB h ha hl ⟨?_,fun h=>by cases h⟩
   simp only[dD,inR];simp;omega
  ·split
   ·exact cS h ha (by simp)
   ·exact eB h ha hl (hf.env (cY (by omega)))
 rw[if_neg e]
 by_cases e:n.op=5
 ·rw[if_pos e]
  refine aBc h ha hl ⟨?_,fun u hu=>?_⟩ (by simp)
  ·have:=hf.ok;simp only[dA,bN8]at this;simp only[dK,hn,e,this.1.1,this.1.2];simp
  ·simp only[pM,bP7,bPa]at hu;exact(hf.env hu).ref
 rw[if_neg e]
 by_cases e:n.op=6
 ·rw[if_pos e];have:n.asks=2:=by simp[aL.asks,e]
  exact aN2 hp h ha hl (hv _ (cY (by omega))) (hv _ (cY (by omega)))
 rw[if_neg e]
 by_cases e:n.op=7
 ·rw[if_pos e];have h1:n.asks=1:=by simp[aL.asks,e]
  refine sL h ha hl (ik 1 (by decide) ?_) fun v hv'=>?_
  ·rw[hkd];simp[eQ,e]
  ·rcases bO2.1 hv' with hv'|hv'
   ·exact hf.env hv'
   ·simp only[bPm]at hv';subst hv';exact hv _ (cY (by omega))
 rw[if_neg e]
 by_cases e:n.op=8
 ·rw[if_pos e];have h1:n.asks=1:=by simp[aL.asks,e]
  split
  ·exact cS h ha (by simp)
  ·rename_i hk;have h2:=(hv _ (cY (i:=0) (by omega))).ok
   simp only[dD,Decidable.not_not.1 hk]at h2;simp[inR]at h2
   refine sL h ha hl (ik _ (by omega) ?_) fun v hv'=>hf.env hv'
   have:(n.kids.length:Int)=3:=by rw[hkd];simp[eQ,e]
   omega
 rw[if_neg e]
 by_cases e:n.op=9 \/n.op=10 \/n.op=11 \/n.op=12 \/n.op=13
 ·rw[if_pos e];exact aN3 h ha hl
 rw[if_neg e]
 by_cases e:n.op=14
 ·rw[if_pos e];have h1:n.asks=n.kids.length:=by simp[aL.asks,e]
  simp only[nB,e]at hnum
  simp at hnum
  have h2:(n.kids.length:Int)=(p.cons.getD n.n.toNat default).args:=by rw[hkd];simp[eQ,oA,e,hnum]
  have h3:inR (p.cons.getD n.n.toNat default).args 0 3=true:=hp.cons _ (lL (by simp only[inR,bRt]at hnum;omega))
  simp only[inR,bRt]at h3
  refine aBc h ha hl ⟨?_,fun u hu=>?_⟩ (by simp)
  ·rw[dK,if_neg (by simp),if_neg (by simp),if_neg (by simp),if_pos rfl]
   simp only[bN8,bRt,bE,bOe];exact⟨⟨hnum,by omega⟩,by omega,fun v h'=>(hv v h').ok⟩
  ·simp only[pM,bP7,bPa]at hu;exact(hv u hu).ref
 rw[if_neg e]
 by_cases e:n.op=15
 ·rw[if_pos e];have h1:n.asks=1:=by simp[aL.asks,e]
  have h2:(n.kids.length:Int)=1+n.pats.length:=by rw[hkd];simp[eQ,e]
  refine aEd h ha hl (fun k hk=>?_) (fun v hv'=>hf.env hv') (hv _ (cY (by omega))) n.pats 0 (by omega)
  rw[<-hn]at hk;exact hp.kids _ (hZ hni) k hk
 rw[if_neg e]
 by_cases e:n.op=26
 ·rw[if_pos e];have h1:n.asks=1:=by simp[aL.asks,e]
  exact eB h ha hl (hv _ (cY (by omega)))
 rw[if_neg e]
 by_cases e:n.op=27
 ·rw[if_pos e]
  refine aN4 h ha hl (ik 0 (by decide) ?_) fun v hv'=>hf.env hv'
  rw[hkd];simp[eQ,e]
 rw[if_neg e]
 by_cases e:n.op=16 \/n.op=17 \/n.op=18
 ·rw[if_pos e]
  refine aQ7 h ha hl hv ?_ ?_
  ·have:1<=n.asks:=by rcases e with e|e|e<;>simp[aL.asks,e]
   omega
  ·intro h1 h2;have e:n.op=18:=by omega
   have:n.asks=2:=by simp[aL.asks,e]
   omega
 rw[if_neg e]
 by_cases e:n.op=19
 ·rw[if_pos e];have h1:n.asks=1:=by simp[aL.asks,e]
  exact aN5 hp h ha hl (hv _ (cY (by omega)))
 rw[if_neg e]
 by_cases e:n.op=20
 ·rw[if_pos e];have h1:n.asks=1:=by simp[aL.asks,e]
  exact aQ8 h ha hl (hv _ (cY (by omega)))
 rw[if_neg e]
 by_cases e:n.op=21
 ·rw[if_pos e];rw[pQ];exact aBc h ha hl (aJ0 (by simp) (by simp)) (by decide)
 rw[if_neg e]
 by_cases e:n.op=22 \/n.op=23
 ·rw[if_pos e]
  refine aJ1 h ha hl hv ?_ ?_
  ·have:1<=n.asks:=by rcases e with e|e<;>simp[aL.asks,e]
   omega
  ·intro e;have:n.asks=2:=by simp[aL.asks,e]
   omega
 rw[if_neg e]
 by_cases e:n.op=24 \/n.op=25
 ·rw[if_pos e]
  refine aN6 h ha hl (fun h25=>?_) hv
  have e:n.op=24:=by omega
  have h1:n.asks=1:=by simp[aL.asks,e]
  simp only[nB,e]at hnum
  simp at hnum
  exact⟨by omega,hnum⟩
 rw[if_neg e];rw[pQ];exact eB h ha hl pP
theorem aGp {o:aR}(h0:0<o.frames.length):o.frames=o.frames.take (o.frames.length-1)++[o.frames.getD (o.frames.length-1) eK]:=by
 have h:o.frames.length-1<o.frames.length:=by omega
 simp only[bOd,bPh h,bOz];rw[List.take_append_getElem h];rw[bOt (by omega)]
theorem lP (hp:dV p)(h:cF p w0 S w)(ha:inR a 0 ((w.tasks.length:Int)-1)=true):cF p w0 S (cK p w a).w:=by
 obtain⟨h1,h2,h3⟩:=h.task ha;have hO:=h.obj h1 h3;unfold cK
 simp only
 generalize ho:w.obj (bQ w a)=o at hO h2⊢;have hk:=hO.ok;rw[dK,if_pos h2,jU]at hk;split
 ·exact h
 rename_i n0;rw[if_pos (Decidable.not_not.1 n0)]at hk;simp only[bV,bN8,bRt,bOe,bE]at hk;obtain⟨⟨⟨⟨k1,k2⟩,k3,k4⟩,k5⟩,k6⟩:=hk;have hF: ∀f∈o.frames,FOk p S w f:=fun f hf=>hO.frames hf
 split
 ·rename_i hv1;have hv:VOk p S w (aF o.vals 0):=hO.vals (cY (by omega))
  split
  ·exact h.set h1 (aZg hv) (by rw[ho,h2])
  ·rename_i hf0;rw[bOt (by omega)]at k6
   refine h.set h1 ?_ (by rw[ho,h2])
   have hm:o.frames.getD (o.frames.length-1) eK∈o.frames:=lL (by omega)
   have hl:LOk p S w (o.frames.take (o.frames.length-1)):=⟨by simp only[bPl];omega,fun f hf=>hF f (bQr hf),fun f hf=>k6 f (bQr hf)⟩
   have e:aBu o.frames (aF o.vals 0)=o.frames.take (o.frames.length-1)++[⟨(o.frames.getD (o.frames.length-1) eK).node,(o.frames.getD (o.frames.length-1) eK).env,(o.frames.getD (o.frames.length-1) eK).vals++[aF o.vals 0]⟩]:=by
    unfold aBu;generalize hx:(⟨(o.frames.getD (o.frames.length-1) eK).node,(o.frames.getD (o.frames.length-1) eK).env,(o.frames.getD (o.frames.length-1) eK).vals++[aF o.vals 0]⟩:aA)=x;have:=aGp (o:=o) (by omega)
    generalize o.frames.getD (o.frames.length-1) eK=y at this;have hlen:(o.frames.take (o.frames.length-1)).length=o.frames.length-1:=by simp only[bPl];omega
    conv=>lhs;rw[this]
    rw[List.set_append_right _ _ (by simp only[bOr,bOh,bOo,hlen];omega)]
    simp only[bOr,bOh,bOo,hlen];simp
   rw[e]
   refine aJy hl (by simp only[bPl];omega) ⟨?_,fun v hv'=>?_⟩
   ·have a1:=(hF _ hm).ok;have a2:=k6 _ hm;simp only[eV,bRt]at a2;simp only[dA,bE,bN8,bRt,bOe]at a1⊢
    refine⟨a1.1,by simp only[bOr,bOh,bOo];omega,fun v hv'=>?_⟩
    rcases bO2.1 hv' with hv'|hv'
    ·exact a1.2.2 v hv'
    ·simp only[bPm]at hv';subst hv';exact hv.ok
   ·simp only at hv'
    rw[<-List.append_assoc]at hv';rcases bO2.1 hv' with hv'|hv'
    ·exact(hF _ hm).ref v hv'
    ·simp only[bPm]at hv';subst hv';exact hv.ref
 ·rename_i hv1;have hz:o.vals.length=0:=by omega
  have hf0:0<o.frames.length:=by omega
  have hm:o.frames.getD (o.frames.length-1) eK∈o.frames:=lL (by omega)
  have hl:LOk p S w (o.frames.take (o.frames.length-1)):=⟨by simp only[bPl];omega,fun f hf=>hF f (bQr hf),fun f hf=>k6 f (by rw[hz,bPo];exact hf)⟩
  have hfo:=hF _ hm;have hni:inR (o.frames.getD (o.frames.length-1) eK).node 0 ((p.nodes.length:Int)-1)=true:=by
   have:=hfo.ok;simp only[dA,bN8]at this;exact this.1.1
  split
  ·rename_i hop;have hL:LOk p S w o.frames:=by
    refine⟨by omega,hF,fun f hf=>?_⟩
    rw[aGp hf0]at hf;rcases bO2.1 hf with hf|hf
    ·exact hl.opn f hf
    ·simp only[bPm]at hf;subst hf;simpa[eV]using hop
   refine sL h ha hL (aTa hp hni (by omega) ?_) fun v hv=>hfo.env hv
   have:=aFg (hp.nodes _ (hZ hni));omega
  ·rename_i hop
   refine aV6 hp h ha hl hfo ?_
   have:=hfo.ok;simp only[dA,bE,bN8,bRt]at this;omega
end Go.Proofs.YtmnchlhngpdffaaGreat
namespace Go.Proofs.YtmnchlhngpdffaaGreat
open Go.Abs Go.Proofs
variable {p:aI}
theorem aN7 (hs:aV p=true){i:Int}(hi:inR i 0 ((p.nodes.length:Int)-1)=true):(p.node i).asks<=10:=by
 simp only[aV,bN8,bOe]at hs;have:=hs.2 _ (hZ hi);simp only[fK,bN8,bRt]at this;unfold aL.asks;split
 ·omega
 split
 ·omega
 split<;>omega
variable {w:aB}
theorem aEe {l:List aA}(hs:aV p=true)(h:bV p w l=true):l.length<=40/\ ∀f∈l,f.env.length<=30/\ f.vals.length<=10:=by
 simp only[bV,bN8,bRt,bOe]at h
 refine⟨by omega,fun f hf=>?_⟩
 have:=h.2 f hf;simp only[dA,bE,bN8,bRt]at this;obtain⟨⟨h1,h2,_⟩,h3,_⟩:=this;have:=aN7 hs h1;omega
theorem aCl {o:aR}(h:dK p w o=true):o.vals.length<=30:=by
 have vs: ∀{l:List aE} {m:Int},bE p w l m=true->(l.length:Int)<=m:=fun h=>by
  simp only[bE,bN8,bRt]at h;exact h.1
 unfold dK at h
 split at h
 ·unfold jU at h
  split at h
  ·simp only[bN8]at h;have:=vs h.1.1.2;omega
  split at h
  ·simp only[bN8]at h;have:=vs h.2;omega
  split at h
  ·simp only[bN8,bRt]at h;omega
  ·cases h
 split at h
 ·simp only[bN8,bRt]at h;omega
 split at h
 ·cases h
 split at h
 ·simp only[bN8]at h;have:=vs h.2;omega
 split at h
 ·simp only[bN8]at h;have:=vs h.2;omega
 split at h
 ·simp only[bN8]at h;have:=vs h.2;omega
 split at h
 ·simp only[bN8]at h;have:=vs h.2;omega
 ·cases h
theorem aV7 {o:aR}(hs:aV p=true)(h:dK p w o=true):gJ o=true:=by
 have h1:=aCl h;obtain⟨h2,h3⟩:=aEe hs (aBb h).2;simp only[gJ,bN8,bRt,bOe]
 refine⟨⟨by omega,by omega⟩,fun f hf=>?_⟩
 have:=h3 f hf;omega
theorem aAg (h:jL w=true):w.tasks.length<=w.objs.length:=by
 simp only[jL,bN8,bRt]at h;rw[h.1];exact bRh
theorem tX (hs:aV p=true)(h:dO p w=true):cR w=true:=by
 obtain⟨a1,a2,a3,a4,a5,a6,a7⟩:=dL.1 h;have:=aAg a5;simp only[mH,bN8,bRt]at a3;simp only[cR,bN8,bRt,bOe];exact⟨⟨⟨⟨by omega,by omega⟩,by omega⟩,by omega⟩,fun o ho=>aV7 hs (a6 o ho)⟩
theorem wS (h:cR w=true):w.few:=by
 simp only[cR,bN8,bRt,bOe]at h;obtain⟨⟨⟨⟨h1,h2⟩,h3⟩,h4⟩,h5⟩:=h
 refine⟨by unfold Few;omega,by unfold Few;omega,by unfold Few;omega,by unfold Few;omega,fun o ho=>?_⟩
 have:=h5 o ho;simp only[gJ,bN8,bRt,bOe]at this
 refine⟨by unfold Few;omega,by unfold Few;omega,fun f hf=>?_⟩
 have:=this.2 f hf;exact⟨by unfold Few;omega,by unfold Few;omega⟩
def eF (p:aI)(a:Int):Nat->aB->aB×Nat×Bool
 |0,w=>if(cK p w a).what=0 then(w,1,false)else(w,0,true)
 |k+1,w=>if(cK p w a).what=0 then((eF p a k (cK p w a).w).1,(eF p a k (cK p w a).w).2.1+1,(eF p a k (cK p w a).w).2.2)else(w,0,true)
def iE (p:aI):Nat->Nat->aB->Nat->aB×Nat×Bool
 |0,_,w,s=>(w,s,true)
 |n+1,a,w,s=>
  if a<w.tasks.length then
   (if(eF p a (5000-s) w).2.2=true then iE p n (a+1) (eF p a (5000-s) w).1 (s+(eF p a (5000-s) w).2.1)
   else((eF p a (5000-s) w).1,s+(eF p a (5000-s) w).2.1,false))
  else(w,s,true)
def cJ (p:aI)(w:aB)(s:Nat):aB×Nat×Bool:=iE p 121 0 w s
def gE (p:aI)(w:aB)(k:Nat):List Int:=((List.range k).filter fun(a:Nat)=>!decide ((cK p w a).what=2)).map fun(a:Nat)=>(a:Int)
def eG (p:aI)(w:aB):List Int:=gE p w w.tasks.length
def fW (p:aI)(w:aB)(pick:Int):aB×lQ×Nat×Int:=
 let r:=cJ p w 0
 if r.2.2=false then(r.1,gR,0,8)
 else if eG p r.1=[]then(r.1,gR,0,5)
 else
  let d:=cK p r.1 ((eG p r.1).getD (pick%(eG p r.1).length).toNat 0);let q:=cJ p d.w (r.2.1+1)
  if q.2.2=false \/5000<q.2.1 then(q.1,gR,0,8)else(q.1,d.e,q.2.1,0)
variable {a x:Int}{n:Nat}{S:Nat->Prop}{w0:aB}
section
theorem aL8 (h:cF p w0 S w):cF p w (fun _=>True) w:=⟨h.ok,bN9 _,fun _ _=>rfl,bRa _,fun _ _ _ _ _ _=>trivial,fun _ _=>trivial,fun _ _=>trivial⟩
theorem aJ2 (hp:dV p)(h:cF p w0 S w)(ha:inR a 0 ((w.tasks.length:Int)-1)=true):w.tasks.length<=(cK p w a).w.tasks.length:=(lP hp (aL8 h) ha).pre.length_le
theorem bDe {m:Nat}(h:inR a 0 ((m:Int)-1)=true)(hl:m<=n):inR a 0 ((n:Int)-1)=true:=by
 simp only[inR,bRt]at h⊢;omega
theorem aJ3 (hp:dV p){a:Int}: ∀(k:Nat) {w:aB},cF p w0 S w->inR a 0 ((w.tasks.length:Int)-1)=true->cF p w0 S (eF p a k w).1
 |0,w,h,ha=>by unfold eF;split<;>exact h
 |k+1,w,h,ha=>by
  unfold eF;split
  ·exact aJ3 hp k (lP hp h ha) (bDe ha (aJ2 hp h ha))
  ·exact h
theorem aEf (hp:dV p): ∀(n:Nat) {a:Nat} {w:aB} {s:Nat},cF p w0 S w->cF p w0 S (iE p n a w s).1
 |0,_,_,_,h=>h
 |n+1,a,w,s,h=>by
  unfold iE;split
  ·rename_i ha;have ha:inR (a:Int) 0 ((w.tasks.length:Int)-1)=true:=by simp only[inR,bRt];omega
   have hi:=aJ3 hp (5000-s) h ha;split
   ·exact aEf hp n hi
   ·exact hi
  ·exact h
theorem rC (hp:dV p){s:Nat}(h:cF p w0 S w):cF p w0 S (cJ p w s).1:=aEf hp 121 h
theorem aJ4 (h:x∈eG p w):inR x 0 ((w.tasks.length:Int)-1)=true:=by
 obtain⟨i,hi,rfl⟩:=bO5.1 h;have:=bO7.1 (bPy.1 hi).1;simp only[inR,bRt];omega
theorem aN8 {l:List Int}(h: ¬l=[])(pick:Int):(pick%l.length).toNat<l.length:=by
 have h0:0<l.length:=bRe.2 h;have h1:=Int.emod_nonneg pick (show(l.length:Int)≠0 by omega)
 have h2:=Int.emod_lt_of_pos pick (show 0<(l.length:Int)by omega)
 omega
theorem aL9 (hp:dV p)(h:cF p w0 S w)(pick:Int):cF p w0 S (fW p w pick).1:=by
 have h1:=rC hp (s:=0) h;unfold fW
 simp only
 split
 ·exact h1
 split
 ·exact h1
 rename_i hl;have h2:=rC hp (s:=(cJ p w 0).2.1+1) (lP hp h1 (aJ4 (lL (d:=0) (aN8 hl pick))))
 split<;>exact h2
end
theorem aAh {p:aI}{a:Int}: ∀(k:Nat) (w:aB),(eF p a k w).2.1<=k+1/\ ((eF p a k w).2.2=true->(eF p a k w).2.1<=k)
 |0,w=>by unfold eF;split<;>simp
 |k+1,w=>by
  obtain⟨h1,h2⟩:=aAh (p:=p) (a:=a) k (cK p w a).w;unfold eF;split
  ·exact⟨by simp only;omega,fun h=>by have:=h2 h;simp only;omega⟩
  ·simp
theorem aBx {p:aI}: ∀(n:Nat) {a:Nat} {w:aB} {s:Nat},s<=5001->(iE p n a w s).2.1<=5002
 |0,_,_,_,h=>by show _<=_;simp only[iE];omega
 |n+1,a,w,s,h=>by
  obtain⟨h1,h2⟩:=aAh (p:=p) (a:=a) (5000-s) w;unfold iE;split
  ·split
   ·rename_i hb;have:=h2 hb;exact aBx n (by omega)
   ·simp only;omega
  ·simp only;omega
set_option maxRecDepth 100000
set_option maxHeartbeats 4000000
theorem tY (h:cF p w0 S w)(ha:inR a 0 ((w.tasks.length:Int)-1)=true):Fit w a:=by
 obtain⟨a1,a2,a3,a4,a5,a6,a7⟩:=dL.1 h.ok;have:=aAg a5;simp only[mH,bN8,bRt]at a3;exact⟨⟨by omega,by omega,by omega,by omega⟩,ha,(h.task ha).1⟩
variable {v:aE}
theorem fH (h:VOk p S w v)(h5:v.kind=5):inR v.n 0 ((w.objs.length:Int)-1)=true:=by
 have h1:=h.ok;simp only[dD,h5]at h1
 simpa using h1
def vL (p:aI)(w:aB)(f v:aE):aA:=(eZ p w f v).getD eK
variable {f:aE}
theorem aQ9 (hp:dV p)(h:cF p w0 S w)(hf:VOk p S w f)(hv:VOk p S w v):
  PC L 228 [.agg p.cs,.agg w.cs,.agg [.i f.kind,.i f.n],.agg [.i v.kind,.i v.n]] (.tup [.agg [.i (vL p w f v).node,.fz ((vL p w f v).env.map aE.enc),.fz ((vL p w f v).vals.map aE.enc)],.bool (eZ p w f v).isSome]):=by
 have hO:=oD w f 2 (fH hf);have hL:=at_ Tryz.func228
 conv at hL=>rhs;reduce
 refine aH hL rfl rfl ?_
 by_cases h4:f.kind=4
 ·have d1:decide (f.kind=4)=true:=decide_eq_true h4;have hi:inR f.n 0 ((p.funs.length:Int)-1)=true:=by
   have h1:=hf.ok;simp only[dD,h4]at h1
   simpa using h1
  have e:eZ p w f v=some ⟨bE1 p f.n,[v],[]⟩:=by unfold eZ;rw[if_pos h4]
  rw[vL,e];simp only[go_sem,kK,d1]
  refine aJ ?_
  simp only[go_sem,vD hi,pE,kO,kA,bOa,if_false];simp only[go_sem,bE1,bOz,bP2,bOq,bO4]
 ·have d1:decide (f.kind=4)=false:=decide_eq_false h4
  by_cases h2:cV w f 2=true
  ·have e:eZ p w f v=some ⟨nN (p.node (w.obj f.n).n) 0,(w.obj f.n).vals++[v],[]⟩:=by unfold eZ;rw[if_neg h4,if_pos h2]
   obtain⟨a1,a2,a3,a4⟩:=eN h hf h2;have hk:=a2.ok;simp only[dK,a3]at hk
   simp at hk
   obtain⟨_,⟨b1,b2⟩,b3⟩:=hk;have hlen:=aCl a2.ok;have hkk:=nA (hp.nodes _ (hZ b1));rw[b2]at hkk;simp[eQ]at hkk;have hk0:inR 0 0 (((p.node (w.obj f.n).n).kids.length:Int)-1)=true:=by simp only[inR,bRt];omega
   have hMo:=aD2 (w.obj f.n).vals v (by omega)
   rw[tW,if_pos h2,h2]at hO;rw[vL,e];simp only[go_sem,kK,d1,hO.ret]
   refine aJ ?_
   simp only[go_sem,bI b1,vD hk0,hMo.ret,kA,bOa,if_false];simp only[go_sem,nN,bOz,bP2,bOq]
  ·have e:eZ p w f v=none:=by unfold eZ;rw[if_neg h4,if_neg h2]
   rw[bPf]at h2;rw[h2]at hO;rw[vL,e];simp only[go_sem,kK,d1,hO.ret,bRj,bQb,eK,bOq]
variable {cnt' cnt:Nat->Nat->Nat}{en en':En}
theorem uS.later {en1:En}{cnt1:Nat->Nat->Nat}{tail:List Val}{x:Val}(h:uS en1 cnt1 w tail x en' cnt')(h1: ∀t g,g<cnt 0 t->en1 ⟨0,t,g⟩=en ⟨0,t,g⟩)(h2: ∀t,cnt 0 t<=cnt1 0 t){g8:Nat}(hg:cnt 0 8<=g8)(hg':g8<cnt1 0 8)(Z:Option Ent):
  uS en cnt w tail x (en'.set ⟨0,8,g8⟩ Z) cnt':=by
 obtain⟨⟨g5,g9,vU,vI,rfl,e5,l5,m5,e9,l9,m9,mU,mI⟩,old,up⟩:=h
 refine⟨⟨g5,g9,vU,vI,rfl,by simp only[go_sem,e5],bOk (h2 5) l5,m5,?_,bOk (h2 8) l9,m9,mU.keep (fun g _=>by simp only[go_sem]) (bN9 _),mI.keep (fun g _=>by simp only[go_sem]) (bN9 _)⟩,fun t g hg1=>?_,fun t=>bOk (h2 t) (up t)⟩
 ·rw[aT4 (by omega)];exact e9
 ·rw[iV hg hg1,old t g (bOy hg1 (h2 t)),h1 t g hg1]
theorem aUg {o:aR}(hf:Fit w a)(h:w.objs.length<120):Fit (dW w o) a:=by
 have hr:=hf.rng;have hl:=hf.len
 refine⟨?_,hf.at_,?_⟩
 ·rw[mD];exact⟨by omega,hl.2⟩
 ·rw[mD];show inR (bQ w a) 0 _=true;simp only[inR,bRt]at hr⊢;omega
theorem aRa (w:aB)(a:Int)(left:List aA)(o:aR){c oa ob:Val}(hc:aBw c (.fz (left.map aA.enc)))(ha:aBw oa (.fz (o.vals.map aE.enc)))(hb:aBw ob (.fz (o.frames.map aA.enc)))(hf:Fit w a):
  WIn L (.fn 181 [] []) [.agg w.cs,.i a,c,.agg [.i o.form,.i o.n,oa,ob]] en cnt fun x en' cnt'=>
   ((120<=w.objs.length/\ x= .agg [.fz ((bD w a 4).w.objs.map aR.enc),.fz ((bD w a 4).w.tasks.map (.int .i64)),.fz ((bD w a 4).w.outs.map bJ.enc),.fz ((bD w a 4).w.ins.map (.int .i64)),.i (bD w a 4).w.used,.i (bD w a 4).what,.i (bD w a 4).e.task,.i (bD w a 4).e.act,.i (bD w a 4).e.n,.i (bD w a 4).e.v.kind,.i (bD w a 4).e.v.n]/\ (∀t g,g<cnt 0 t->en' ⟨0,t,g⟩=en ⟨0,t,g⟩)/\ ∀t,cnt 0 t<=cnt' 0 t) \/(w.objs.length<120/\ uS en cnt (bT (dW w o) a left (dE w.objs.length)).w [.i 0,.i 0,.i 0,.i 0,.i 0,.i 0] x en' cnt')):=by
 have hF:=fL w a 4 hf;have hat:=hf.at_;have hrng:=hf.rng;simp only[inR,bRt]at hat hrng;obtain⟨g4,hg4⟩: ∃g,g=cnt 0 4:=⟨_,rfl⟩
 obtain⟨g7,hg7⟩: ∃g,g=cnt 0 7:=⟨_,rfl⟩
 obtain⟨g8,hg8⟩: ∃g,g=cnt 0 8:=⟨_,rfl⟩
 have up0: ∀t,cnt 0 t<=aC (aC (aC cnt 0 4 (g4+1)) 0 7 (g7+1)) 0 8 (g8+1) 0 t:=nG (nG (nG (fun _=>bN9 _) hg4) hg7) hg8
 have oldS:=fun{e1:En} {x4 x7 x8:Option Ent} {t g:Nat} (hg:g<cnt 0 t)=>show((e1.set ⟨0,4,g4⟩ x4).set ⟨0,7,g7⟩ x7).set ⟨0,8,g8⟩ x8 ⟨0,t,g⟩=e1 ⟨0,t,g⟩by
  rw[iV (bPi hg8.symm) hg,iV (bPi hg7.symm) hg,iV (bPi hg4.symm) hg]
 have hL:=at_ Tryz.func181
 conv at hL=>rhs;reduce
 refine bO hL rfl rfl ?_
 by_cases h1:120<=w.objs.length
 ·have d1:decide ((120:Int)<=(w.objs.length:Int))=true:=decide_eq_true (by omega)
  simp only[go_sem,kK,<-hg4,<-hg7,<-hg8,d1,hF.ret]
  refine .inl ⟨h1,fun t g hg=>?_,up0⟩
  rw[iV (bPi hg8.symm) hg,oldS hg]
 ·have d1:decide ((120:Int)<=(w.objs.length:Int))=false:=decide_eq_false (by omega)
  have h1:w.objs.length<120:=by omega
  simp only[go_sem,kK,<-hg4,<-hg7,<-hg8,d1]
  refine(aEa w (by omega) (by omega) hf.len (aAd _ _ w)).mono ?_
  rintro x en1 cnt1 ⟨⟨g5,gT,vU,vI,rfl,e5,l5,m5,eT,lT,mT,mU,mI⟩,old,up⟩
  have e4:=old 4 g4 (by simp[aC])
  have e7:=old 7 g7 (by simp[aC])
  have e8:=old 8 g8 (by simp[aC])
  have hTne: ¬gT=g8:=by have:=lT;simp[aC]at this;omega
  try simp only[go_sem]at e4 e7 e8
  obtain⟨g22,hg22⟩: ∃g,g=cnt1 0 22:=⟨_,rfl⟩
  have hw1:IntKind.i64.wrap (((w.objs.length+1:Nat):Int)-1)=(w.objs.length:Int):=by rw[aY (by omega)];omega
  have hl16:w.objs.length+1<=16777216:=by omega
  simp only[go_sem,e4,e7,e5,ha.snap,hb.snap,ha.wk,hb.wk,tQ,mK,bS,dU,tR,bDd,kP,bOc,hl16,bN9,<-hg22]
  refine aJ ?_
  simp only[go_sem,hw1,(aJm _).ret,kA,bOa,if_false];have up2: ∀t,cnt 0 t<=aC cnt1 0 22 (g22+1) 0 t:=fun t=>bOk (up0 t) (bOk (up t) (nG (fun _=>bN9 _) hg22 t))
  have hn5:cnt 0 5<=g5:=bOk (up0 5) l5;have hn22:cnt 0 22<=g22:=by rw[hg22];exact bOk (up0 22) (up 22)
  have lt8:g8<aC cnt1 0 22 (g22+1) 0 8:=bOy (show g8<aC (aC (aC cnt 0 4 (g4+1)) 0 7 (g7+1)) 0 8 (g8+1) 0 8 by simp[aC]) (bOk (up 8) (nG (fun _=>bN9 _) hg22 8))
  refine(aQ0 (dW w o) a left (dE w.objs.length) hc (aUg hf h1) (vO:= .bl ⟨0,22,g22⟩ 0 (w.objs.length+1)) (vT:= .bl ⟨0,8,gT⟩ 0 w.tasks.length) (vU:=vU) (vI:=vI) (.inr ⟨g22,gT,by rw[mD],?_,by simp[aC],rfl,?_,?_,mU.keep (fun g _=>by simp only[go_sem]) (nG (fun _=>bN9 _) hg22 11),mI.keep (fun g _=>by simp only[go_sem]) (nG (fun _=>bN9 _) hg22 14)⟩)).mono ?_
  ·simp only[go_sem,dW,bPn]
  ·simp only[go_sem,eT];rfl
  ·exact bOy mT (nG (fun _=>bN9 _) hg22 8)
  ·intro x en2 cnt2 hO;have e8':=hO.old 8 g8 lt8
   try simp only[go_sem,e8]at e8'
   have hO':=fun Z=>hO.later (en:=en) (cnt:=cnt) (g8:=g8) (fun t g hg=>by
    rw[iV (bPi hg4.symm) hg,iV (ga:=g22) (a:=22) hn22 hg,iV (ga:=g5) (a:=5) hn5 hg];rw[iV (bPi hg4.symm) hg,old t g (bOy hg (up0 t)),oldS hg]) up2 (bPi hg8.symm) lt8 Z
   obtain⟨⟨g5',g9,vU',vI',rfl,_⟩,_,_⟩:=hO;simp only[go_sem,e8'];exact .inr ⟨h1,hO' _⟩
theorem aHi (w:aB)(a:Int)(left:List aA)(o:aR)(hf:Fit w a):PC L 181 [.agg w.cs,.i a,.fz (left.map aA.enc),.agg [.i o.form,.i o.n,.fz (o.vals.map aE.enc),.fz (o.frames.map aA.enc)]] (.agg [.fz ((gS w a left o).w.objs.map aR.enc),.fz ((gS w a left o).w.tasks.map (.int .i64)),.fz ((gS w a left o).w.outs.map bJ.enc),.fz ((gS w a left o).w.ins.map (.int .i64)),.i (gS w a left o).w.used,.i (gS w a left o).what,.i (gS w a left o).e.task,.i (gS w a left o).e.act,.i (gS w a left o).e.n,.i (gS w a left o).e.v.kind,.i (gS w a left o).e.v.n]):=by
 have hL:=at_ Tryz.func181
 conv at hL=>rhs;reduce
 refine aFe hL rfl rfl rfl ((aRa w a left o (rB _) (rB _) (rB _) hf).mono fun v en' cnt' h=>?_)
 rcases h with⟨h1,rfl,_,_⟩|⟨h1,h2⟩
 ·have e:gS w a left o=bD w a 4:=by unfold gS;rw[if_pos h1]
  rw[e];exact⟨_,_,by simp only[go_sem];rfl,by simp only[go_sem]⟩
 ·have e:gS w a left o=bT (dW w o) a left (dE w.objs.length):=by unfold gS;rw[if_neg (by omega)]
  rw[e];exact h2.snapD (d:=bT (dW w o) a left (dE w.objs.length))
variable {left:List aA}
theorem aTb (hp:dV p)(h:cF p w0 S w)(ha:inR a 0 ((w.tasks.length:Int)-1)=true)(hl:LOk p S w left)(hf:VOk p S w f)(hv:VOk p S w v):
  PC L 182 [.agg p.cs,.agg w.cs,.i a,.fz (left.map aA.enc),.agg [.i f.kind,.i f.n],.agg [.i v.kind,.i v.n]] (.agg [.fz ((eL p w a left f v).w.objs.map aR.enc),.fz ((eL p w a left f v).w.tasks.map (.int .i64)),.fz ((eL p w a left f v).w.outs.map bJ.enc),.fz ((eL p w a left f v).w.ins.map (.int .i64)),.i (eL p w a left f v).w.used,.i (eL p w a left f v).what,.i (eL p w a left f v).e.task,.i (eL p w a left f v).e.act,.i (eL p w a left f v).e.n,.i (eL p w a left f v).e.v.kind,.i (eL p w a left f v).e.v.n]):=by
 have hfit:=tY h ha;have hO:=oD w f 5 (fH hf);have hF4:=fL w a 4 hfit;have hF2:=fL w a 2 hfit;have hlen:=hl.len
 by_cases h5:cV w f 5=true
 ·obtain⟨_,a2,a3,_⟩:=eN h hf h5;have hk:=aFh a2 a3;have hkl:=hk.len;have hk0:0<(w.obj f.n).frames.length:=by
   have:=a2.ok;rw[dK,if_neg (by rw[a3];decide),if_pos a3]at this
   simp only[bN8,bRt]at this;omega
  rw[tW,if_pos h5,h5]at hO;have hB:=iX w a (left++(w.obj f.n).frames) v hfit;rw[bPn]at hB;have hl1:left.length<=16777216:=by omega
  have hl2:(w.obj f.n).frames.length<=16777216:=by omega
  have hl3:left.length+(w.obj f.n).frames.length<=16777216:=by omega
  have he2:(w.obj f.n).frames.isEmpty=false:=aJl hk0;have e:eL p w a left f v=if 40<left.length+(w.obj f.n).frames.length then bD w a 4 else bT w a (left++(w.obj f.n).frames) v:=by
   unfold eL;rw[if_pos h5,bOr]
  rw[e];have hL:=at_ Tryz.func182
  conv at hL=>rhs;reduce
  refine aH hL rfl rfl ?_
  by_cases h40:40<left.length+(w.obj f.n).frames.length
  ·rw[if_pos h40];have d1:decide ((40:Int)<((left.length+(w.obj f.n).frames.length:Nat):Int))=true:=decide_eq_true (by omega)
   cases h0:left.isEmpty with
   |true=>
    have:left=[]:=by simpa using h0
    subst this;simp only[bOo,bO1]at d1;simp only[go_sem,kK,hO.ret]
    refine aJ ?_
    simp only[go_sem,kK,bS,dU,mL,iN,gX,he2,hl2,iQ,bOc,kA,bOa,if_false];simp only[go_sem,kK,d1,hF4.ret]
   |false=>
    simp only[go_sem,kK,hO.ret]
    refine aJ ?_
    simp only[go_sem,kK,bS,dU,iN,tR,kP,gX,h0,hl1,hl3,iQ,bOc,bN9,kA,bOa,if_false];simp only[go_sem,kK,d1,hF4.ret]
  ·rw[if_neg h40];have d1:decide ((40:Int)<((left.length+(w.obj f.n).frames.length:Nat):Int))=false:=decide_eq_false (by omega)
   cases h0:left.isEmpty with
   |true=>
    have:left=[]:=by simpa using h0
    subst this;simp only[bOo,bO1]at d1;simp only[bOq,bPb]at hB⊢;simp only[go_sem,kK,hO.ret]
    refine aJ ?_
    simp only[go_sem,kK,bS,dU,mL,iN,gX,he2,hl2,iQ,bOc,kA,bOa,if_false];simp only[go_sem,d1,hB.ret,bOc,bN9,aNu]
   |false=>
    simp only[go_sem,kK,hO.ret]
    refine aJ ?_
    simp only[go_sem,kK,bS,dU,iN,tR,kP,gX,h0,hl1,hl3,iQ,bOc,bN9,kA,bOa,if_false];simp only[go_sem,d1,hB.ret,bOc,bOr,bN9,bOt]
 ·have hB:=aQ9 hp h hf hv;rw[bPf]at h5;rw[h5]at hO;have hL:=at_ Tryz.func182
  conv at hL=>rhs;reduce
  refine aH hL rfl rfl ?_
  cases hb:eZ p w f v with
  |none=>
   have e:eL p w a left f v=bD w a 2:=by unfold eL;rw[if_neg (by rw[h5];decide),hb]
   rw[e];rw[hb]at hB;simp only[go_sem,kK,hO.ret,hB.ret,bQb,hF2.ret]
  |some b=>
   have e:eL p w a left f v=fT w a left b.node b.env:=by unfold eL;rw[if_neg (by rw[h5];decide),hb]
   rw[e];have hv:vL p w f v=b:=by rw[vL,hb];rfl
   rw[hb,hv]at hB;have hN:=aBa w a left b.node b.env hfit (by omega)
   simp only[go_sem,kK,hO.ret,hB.ret,bP2,hN.ret]
theorem tZ (u v:aE):(decide (u.kind=v.kind)&&decide (u.n=v.n))=decide (u=v):=by
 cases u;cases v;simp only[aE.mk.injEq];rw[bQh];simp
theorem aUh (h:VOk p S w v)(h1:v.kind=1): -1000000000<=v.n/\ v.n<=1000000000:=by
 have:=h.ok;rw[dD,if_pos h1]at this
 simpa[inR]using this
theorem bE3 {y:Int}(hx: -1000000000<=x/\ x<=1000000000)(hy: -1000000000<=y/\ y<=1000000000): -1000000000000000000<=x*y/\ x*y<=1000000000000000000:=by
 have h1:x.natAbs<=1000000000:=by omega
 have h2:y.natAbs<=1000000000:=by omega
 have h3:(x*y).natAbs<=1000000000*1000000000:=by rw[Int.natAbs_mul];exact Nat.mul_le_mul h1 h2
 omega
variable {u:aE}{op:Int}
theorem uA (h:cF p w0 S w)(ha:inR a 0 ((w.tasks.length:Int)-1)=true)(hu:VOk p S w u)(hv:VOk p S w v)(ho:op=9 \/op=10 \/op=11 \/op=12 \/op=13):
  PC L 183 [.agg w.cs,.i a,.fz (left.map aA.enc),.i op,.agg [.i u.kind,.i u.n],.agg [.i v.kind,.i v.n]] (.agg [.fz ((cC w a left op u v).w.objs.map aR.enc),.fz ((cC w a left op u v).w.tasks.map (.int .i64)),.fz ((cC w a left op u v).w.outs.map bJ.enc),.fz ((cC w a left op u v).w.ins.map (.int .i64)),.i (cC w a left op u v).w.used,.i (cC w a left op u v).what,.i (cC w a left op u v).e.task,.i (cC w a left op u v).e.act,.i (cC w a left op u v).e.n,.i (cC w a left op u v).e.v.kind,.i (cC w a left op u v).e.v.n]):=by
 have hfit:=tY h ha;have hF2:=fL w a 2 hfit;have hF4:=fL w a 4 hfit;have hI:=mY (pX op u.n v.n) (-1000000000) 1000000000
 by_cases h13:op=13
 ·subst h13
  by_cases h1:u.kind=v.kind
  ·have d1:decide (u.kind=v.kind)=true:=decide_eq_true h1
   by_cases h3:3<u.kind
   ·have d3:decide (3<u.kind)=true:=decide_eq_true h3;have e:cC w a left 13 u v=bD w a 2:=by unfold cC;rw[if_pos rfl,if_pos (.inr h3)]
    rw[e]
    refine aH aGc rfl rfl ?_
    simp only[go_sem,kK,aDo,d1,d3,hF2.ret]
   ·have d3:decide (3<u.kind)=false:=decide_eq_false h3;have e:cC w a left 13 u v=bT w a left (mA (decide (u=v))):=by
     unfold cC;rw[if_pos rfl,if_neg (by rintro(h|h);exact h h1;exact h3 h)]
    rw[e];have hB:=iX w a left (mA (decide (u=v))) hfit
    refine aH aGc rfl rfl ?_
    simp only[go_sem,kK,aDo,d1,d3]
    refine aJ ?_
    simp only[go_sem,tZ,(aHg _).ret,hB.ret,kA,bOa,if_false]
  ·have d1:decide (u.kind=v.kind)=false:=decide_eq_false h1;have e:cC w a left 13 u v=bD w a 2:=by unfold cC;rw[if_pos rfl,if_pos (.inl h1)]
   rw[e]
   refine aH aGc rfl rfl ?_
   simp only[go_sem,kK,aDo,d1,hF2.ret]
 ·have d13:decide (op=13)=false:=decide_eq_false h13
  by_cases h1:u.kind=1
  ·have d1:decide (u.kind=1)=true:=decide_eq_true h1
   by_cases h2:v.kind=1
   ·have d2:decide (v.kind=1)=true:=decide_eq_true h2;have bu:=aUh hu h1;have bv:=aUh hv h2;have bm:=bE3 bu bv
    by_cases h12:op=12
    ·subst h12;have e:cC w a left 12 u v=bT w a left (mA (decide (u.n<v.n))):=by
      unfold cC;rw[if_neg (by decide),if_neg (by rintro(h|h);exact h h1;exact h h2),if_pos rfl]
     rw[e];have hB:=iX w a left (mA (decide (u.n<v.n))) hfit
     refine aH aGc rfl rfl ?_
     simp only[go_sem,kK,aDo,d1,d2]
     refine aJ ?_
     simp only[go_sem,(aHg _).ret,hB.ret,kA,bOa,if_false]
    ·have d12:decide (op=12)=false:=decide_eq_false h12;have e:cC w a left op u v=if inR (pX op u.n v.n) (-1000000000) 1000000000=true then bT w a left (lR (pX op u.n v.n))else bD w a 4:=by
      unfold cC;rw[if_neg h13,if_neg (by rintro(h|h);exact h h1;exact h h2),if_neg h12]
     rw[e];have hB:=iX w a left (lR (pX op u.n v.n)) hfit;have ho':op=9 \/op=10 \/op=11:=by omega
     rcases ho' with rfl|rfl|rfl
     all_goals
      simp only[pX]at hI hB⊢
      simp at hI hB⊢
      split
      ·rename_i hin;rw[hin]at hI
       refine aH aGc rfl rfl ?_
       simp only[go_sem,kK,aDo,d1,d2,aY (show-9223372036854775808<=u.n+v.n/\ u.n+v.n<=9223372036854775807 by omega),aY (show-9223372036854775808<=u.n-v.n/\ u.n-v.n<=9223372036854775807 by omega),aY (show-9223372036854775808<=u.n*v.n/\ u.n*v.n<=9223372036854775807 by omega),hI.ret]
       refine aJ ?_
       simp only[go_sem,(aCj _).ret,hB.ret,kA,bOa,if_false]
      ·rename_i hin;rw[bPf]at hin;rw[hin]at hI
       refine aH aGc rfl rfl ?_
       simp only[go_sem,kK,aDo,d1,d2,aY (show-9223372036854775808<=u.n+v.n/\ u.n+v.n<=9223372036854775807 by omega),aY (show-9223372036854775808<=u.n-v.n/\ u.n-v.n<=9223372036854775807 by omega),aY (show-9223372036854775808<=u.n*v.n/\ u.n*v.n<=9223372036854775807 by omega),hI.ret,hF4.ret]
   ·have d2:decide (v.kind=1)=false:=decide_eq_false h2;have e:cC w a left op u v=bD w a 2:=by unfold cC;rw[if_neg h13,if_pos (.inr h2)]
    rw[e]
    refine aH aGc rfl rfl ?_
    simp only[go_sem,kK,aDo,d13,d1,d2,hF2.ret]
  ·have d1:decide (u.kind=1)=false:=decide_eq_false h1;have e:cC w a left op u v=bD w a 2:=by unfold cC;rw[if_neg h13,if_pos (.inl h1)]
   rw[e]
   refine aH aGc rfl rfl ?_
   simp only[go_sem,kK,aDo,d13,d1,hF2.ret]
def mE (w:aB)(ps:List Pat)(vs:List aE)(k:Nat):Option (List aE):=gC w (ps.take k) (vs.take k)
theorem aAi (w:aB): ∀(ps:List Pat) (vs:List aE) (q:Pat) (v:aE),ps.length=vs.length->gC w (ps++[q]) (vs++[v])=(match gC w ps vs with|none=>none|some l=>match fX w q v with|none=>none|some r=>some (l++r))
 |[],[],q,v,_=>by
  simp only[bPb,gC];cases fX w q v<;>simp
 |[],_::_,_,_,h=>by cases h
 |_::_,[],_,_,h=>by cases h
 |x::ps,y::vs,q,v,h=>by
  simp only[bQj,gC];rw[aAi w ps vs q v (by simpa using h)]
  cases fX w x y with
  |none=>rfl
  |some l=>
   cases gC w ps vs with
   |none=>rfl
   |some r=>
    cases fX w q v with
    |none=>rfl
    |some s=>simp[List.append_assoc]
variable {vs:List aE}{ps:List Pat}
theorem aEg : ∀{k:Nat},ps.length=vs.length->mE w ps vs k=none->gC w ps vs=none:=by
 intro k hl h;have key: ∀m,k<=m->mE w ps vs m=none:=by
  intro m
  induction m with
  |zero=>intro hk;have:k=0:=(by omega);rw[this]at h;exact h
  |succ m ih=>
   intro hk
   by_cases hm:k=m+1
   ·rw[<-hm];exact h
   ·have h1:=ih (by omega)
    by_cases hlt:m<ps.length
    ·unfold mE at h1⊢;rw[iP hlt,iP (show m<vs.length by omega),aAi _ _ _ _ _ (by simp;omega),h1]
    ·unfold mE at h1⊢;rw[bOt (by omega),bOt (by omega)]
     rw[bOt (by omega),bOt (by omega)]at h1
     exact h1
 have:=key (max k ps.length) (by omega)
 unfold mE at this;rw[bOt (by omega),bOt (by omega)]at this
 exact this
variable {k:Nat}
theorem aEh (h1:k<ps.length)(h2:k<vs.length):mE w ps vs (k+1)=(match mE w ps vs k with|none=>none|some l=>match fX w ps[k] vs[k]with|none=>none|some r=>some (l++r)):=by
 unfold mE;rw[iP h1,iP h2,aAi _ _ _ _ _ (by simp;omega)]
mutual
def oE :Pat->Nat
 | .mk _ _ _ ps=>1+gG ps
def gG :List Pat->Nat
 |[]=>0
 |q::ps=>oE q+gG ps
end
theorem sM (q:Pat):oE q=1+gG q.parts:=by cases q;rw[oE];rfl
theorem aAj : ∀(l:List Pat),l.length<=gG l
 |[]=>by simp[gG]
 |q::l=>by
  have:=aAj l;have:=sM q;simp only[bOh,gG];omega
theorem uT : ∀{l:List Pat} {q:Pat},q∈l->oE q<=gG l
 |x::l,q,h=>by
  rw[gG];rcases bO8.1 h with rfl|h
  ·omega
  ·have:=uT h;omega
theorem xY : ∀(l:List Pat) (k:Nat),gG (l.take k)<=gG l
 |[],k=>by simp[gG]
 |q::l,0=>by simp[gG]
 |q::l,k+1=>by
  have:=xY l k;simp only[bOp,gG];omega
mutual
theorem aBd {w:aB}: ∀(q:Pat) {v:aE} {l:List aE},fX w q v=some l->l.length<=oE q
 | .mk f n t ps,v,l,hm=>by
  unfold fX at hm;rw[oE]
  split at hm
  ·cases hm;simp
  split at hm
  ·cases hm;simp
  split at hm
  ·split at hm
   ·cases hm;simp
   ·cases hm
  split at hm
  ·split at hm
   ·cases hm;simp
   ·cases hm
  split at hm
  ·split at hm
   ·cases hm;simp
   ·cases hm
  split at hm
  ·have:=xZ ps hm;omega
  ·cases hm
theorem xZ {w:aB}: ∀(ps:List Pat) {vs l:List aE},gC w ps vs=some l->l.length<=gG ps
 |[],vs,l,hm=>by
  simp only[gC,bN7]at hm;subst hm;simp
 |q::ps,[],l,hm=>by
  simp only[gC,bN7]at hm;subst hm;simp
 |q::ps,v::vs,l,hm=>by
  simp only[gC]at hm
  split at hm
  ·cases hm
  rename_i l1 h1
  split at hm
  ·cases hm
  rename_i l2 h2;simp only[bN7]at hm;subst hm;have:=aBd q h1;have:=xZ ps h2;simp only[bOr,gG];omega
end
theorem aRb : ∀(q:Pat) (n:Int),-1<=n->0<=pG q n->pG q n+oE q=n:=by
 intro q
 induction q using Pat.ind with
 |h p ih=>
  intro n hn h;rw[aI6]at h⊢;rw[sM];have key: ∀(l:List Pat),(∀q∈l,q∈p.parts)-> ∀m:Int,-1<=m->0<=jD l m->jD l m+gG l=m:=by
   intro l
   induction l with
   |nil=>intro _ m _ _;simp[jD,gG]
   |cons q l ihl=>
    intro hl m hm h0;rw[jD]at h0⊢
    by_cases h1:0<=m
    ·rw[if_pos h1]at h0⊢;have hw:=aI7 q m (by omega)
     have h2:0<=pG q m:=by
      by_cases h3:0<=pG q m
      ·exact h3
      ·rw[aCf (by omega)]at h0;exact absurd h0 h3
     have e1:=ih q (hl q (by simp)) m (by omega) h2
     have e2:=ihl (fun x hx=>hl x (by simp[hx])) (pG q m) (by omega) h0
     rw[gG];omega
    ·rw[if_neg h1]at h0;omega
  by_cases h1:n<1
  ·rw[if_pos h1]at h;omega
  ·rw[if_neg h1]at h⊢;have:=key p.parts (fun _ h=>h) (n-1) (by omega) h
   omega
def aN9 (w:aB)(q:Pat)(v:aE):Val:= .tup [.fz (((fX w q v).getD []).map aE.enc),.bool (fX w q v).isSome]
theorem aMa (w:aB)(q:Pat)(v:aE):fX w q v=if q.form=1 then some []else if q.form=2 then some [v]else if q.form=3 then(if v=lR q.n then some []else none)else if q.form=4 then(if v=mA (decide (q.n=1))then some []else none)
  else if q.form=5 then(if v=bL then some []else none)else if cV w v 1=true/\ (w.obj v.n).n=q.n/\ (w.obj v.n).vals.length=q.parts.length then gC w q.parts (w.obj v.n).vals else none:=by
 cases q;rw[fX];rfl
theorem aBe {α:Type}(c:Prop)[Decidable c]:((if c then some ([]:List α)else none).getD []=[])/\ (if c then some ([]:List α)else none).isSome=decide c:=by
 by_cases h:c<;>simp[h]
theorem aZi (h:cF p w0 S w): ∀(q:Pat),oE q<=1000-> ∀(v:aE),VOk p S w v->PC L 229 [.agg w.cs,.agg [.i q.form,.i q.n,.str q.text,.fz (q.parts.map Pat.enc)],.agg [.i v.kind,.i v.n]] (aN9 w q v):=by
 intro q
 induction q using Pat.ind with
 |h q ih=>
 intro hq v hv;have hO:=oD w v 1 (fH hv);unfold aN9;rw[aMa]
 by_cases h1:q.form=1
 ·rw[if_pos h1]
  refine aH aDp rfl rfl ?_
  simp only[go_sem,kK,aBo,h1,bOz,bP2]
 rw[if_neg h1];have d1:decide (q.form=1)=false:=decide_eq_false h1
 by_cases h2:q.form=2
 ·rw[if_pos h2]
  refine aH aDp rfl rfl ?_
  simp only[go_sem,kK,aBo,h2,bOz,bP2]
 rw[if_neg h2];have d2:decide (q.form=2)=false:=decide_eq_false h2
 by_cases h3:q.form=3
 ·rw[if_pos h3]
  refine aH aDp rfl rfl ?_
  simp only[go_sem,kK,aBo,h3]
  refine aJ ?_
  simp only[go_sem,(aCj _).ret,tZ,aBe,kA,bOa,if_false]
 rw[if_neg h3];have d3:decide (q.form=3)=false:=decide_eq_false h3
 by_cases h4:q.form=4
 ·rw[if_pos h4]
  refine aH aDp rfl rfl ?_
  simp only[go_sem,kK,aBo,h4]
  refine aJ ?_
  simp only[go_sem,(aHg _).ret,tZ,aBe,kA,bOa,if_false]
 rw[if_neg h4];have d4:decide (q.form=4)=false:=decide_eq_false h4
 by_cases h5:q.form=5
 ·rw[if_pos h5]
  refine aH aDp rfl rfl ?_
  simp only[go_sem,kK,aBo,h5]
  refine aJ ?_
  simp only[go_sem,mB.ret,tZ,aBe,kA,bOa,if_false]
 rw[if_neg h5];have d5:decide (q.form=5)=false:=decide_eq_false h5
 by_cases hi:cV w v 1=true
 ·rw[tW,if_pos hi,hi]at hO
  by_cases hn:(w.obj v.n).n=q.n
  ·have dn:decide ((w.obj v.n).n=q.n)=true:=decide_eq_true hn
   by_cases hl:(w.obj v.n).vals.length=q.parts.length
   ·have dl:decide ((w.obj v.n).vals.length=q.parts.length)=true:=decide_eq_true hl;rw[if_pos ⟨hi,hn,hl⟩];obtain⟨_,a2,_,_⟩:=eN h hv hi
    refine aH aDp rfl rfl ?_
    simp only[go_sem,kK,aBo,d1,d2,d3,d4,d5,hO.ret,dn,dl]
    refine bH q.parts.length (fun k st=> ∃fr en cnt vO l,st=⟨fr,en,cnt⟩/\ fr 3= .ptr ⟨0,3,0⟩ 0/\ en ⟨0,3,0⟩=some (.box [.fz (w.objs.map aR.enc),.fz (w.tasks.map (.int .i64)),.fz (w.outs.map bJ.enc),.fz (w.ins.map (.int .i64)),.i w.used] false)/\ fr 4= .ptr ⟨0,4,0⟩ 0/\ en ⟨0,4,0⟩=some (.box [.i q.form,.i q.n,.str q.text,.fz (q.parts.map Pat.enc)] false)/\ fr 8= .ptr ⟨0,8,0⟩ 0/\ en ⟨0,8,0⟩=some (.box [.i (w.obj v.n).form,.i (w.obj v.n).n,.fz ((w.obj v.n).vals.map aE.enc),.fz ((w.obj v.n).frames.map aA.enc)] false)/\ fr 10=vO/\ fr 11= .i k/\
     mE w q.parts (w.obj v.n).vals k=some l/\ iZ en vO 2 (l.map aE.enc) [92]) 0 (bOf _) ⟨_,_,_,.cl [],[],rfl,by simp only[go_sem],by simp only[go_sem],by simp only[go_sem],by simp only[go_sem],by simp only[go_sem],by simp only[go_sem],by simp only[go_sem],by simp only[go_sem],by simp[mE,gC],iZ.nil _ _⟩ ?_
    rintro k st hk ⟨fr,en,cnt,vO,l,rfl,k3,e3,k4,e4,k8,e8,k10,k11,hm,hv'⟩
    simp only[go_sem,kK,k4,e4,k11]
    refine aD (fun hq2=>?_) (fun hq2=>?_)
    ·have h':k<q.parts.length:=of_decide_eq_true hq2;have h'':k<(w.obj v.n).vals.length:=by omega
     have hM:=ih q.parts[k] (bOg h') (by
      have:=uT (bOg h');rw[sM]at hq;omega) (w.obj v.n).vals[k] (a2.vals (bOg h''))
     have hst:=aEh (w:=w) h' h'';rw[hm]at hst;unfold aN9 at hM;cases hx:fX w q.parts[k] (w.obj v.n).vals[k]with
     |none=>
      rw[hx]at hM hst;have hnone:=aEg hl.symm hst;rw[hnone];simp only[go_sem,kK,k3,e3,k4,e4,k8,e8,k11,h',h'',hM.ret,bRj,bQb,bOq]
     |some r=>
      rw[hx]at hM hst;have hr:=aBd _ hx;have hr2:=uT (bOg h');have hl3:=xZ _ hm;have hl4:=xY q.parts k;have hlp:=aAj q.parts;rw[sM]at hq;simp only[go_sem,kK,k3,e3,k4,e4,k8,e8,k10,k11,h',h'',hM.ret,bOz,bP2]
      refine zL (D:=[92]) (xs:=l.map aE.enc) (ys:=r.map aE.enc) (rs:=[]) ?_ ?_ ?_ ?_ ?_
      ·simp only[go_sem];exact hv'
      ·simp only[go_sem]
      ·exact rZ r
      ·simp only[bOc];omega
      ·intro v' en' cnt' hown hen hcnt;have q3:en' ⟨0,3,0⟩=some (.box [.fz (w.objs.map aR.enc),.fz (w.tasks.map (.int .i64)),.fz (w.outs.map bJ.enc),.fz (w.ins.map (.int .i64)),.i w.used] false):=by rw[hen 0 3 0 (.inr ⟨by decide,by simp⟩)];simp only[go_sem,e3]
       have q4:en' ⟨0,4,0⟩=some (.box [.i q.form,.i q.n,.str q.text,.fz (q.parts.map Pat.enc)] false):=by rw[hen 0 4 0 (.inr ⟨by decide,by simp⟩)];simp only[go_sem,e4]
       have q8:en' ⟨0,8,0⟩=some (.box [.i (w.obj v.n).form,.i (w.obj v.n).n,.fz ((w.obj v.n).vals.map aE.enc),.fz ((w.obj v.n).frames.map aA.enc)] false):=by rw[hen 0 8 0 (.inr ⟨by decide,by simp⟩)];simp only[go_sem,e8]
       simp only[go_sem,k11]
       refine⟨_,_,_,v',l++r,rfl,?_⟩
       simp only[go_sem,k3,q3,k4,q4,k8,q8,aQ h' (show Few q.parts.length by unfold Few;omega)]
       refine⟨hst,?_⟩
       rw[bPn];exact hown.sub (by simp)
    ·have:k=q.parts.length:=by simp at hq2;omega
     subst this;have hfull:gC w q.parts (w.obj v.n).vals=some l:=by
      unfold mE at hm;rw[bPt,<-hl,bPt]at hm;exact hm
     obtain⟨r1,ks,s1,_,s2,_⟩:=hv'.snap 6;rw[hfull];simp only[go_sem,k10,s1,s2,bOz,bP2]
   ·have dl:decide ((w.obj v.n).vals.length=q.parts.length)=false:=decide_eq_false hl;rw[if_neg (fun h=>hl h.2.2)]
    refine aH aDp rfl rfl ?_
    simp only[go_sem,kK,aBo,d1,d2,d3,d4,d5,hO.ret,dn,dl,bRj,bQb]
  ·have dn:decide ((w.obj v.n).n=q.n)=false:=decide_eq_false hn;rw[if_neg (fun h=>hn h.2.1)]
   refine aH aDp rfl rfl ?_
   simp only[go_sem,kK,aBo,d1,d2,d3,d4,d5,hO.ret,dn,bRj,bQb]
 ·rw[tW,if_neg hi]at hO;rw[if_neg (fun h=>hi h.1)]
  rw[bPf]at hi;rw[hi]at hO
  refine aH aDp rfl rfl ?_
  simp only[go_sem,kK,aBo,d1,d2,d3,d4,d5,hO.ret,bRj,bQb]
theorem aCm :cP n []=true:=(rfl)
variable {env:List aE}
theorem aOa {kids:List Int}{l:List Pat}(hk:k<l.length):jF w a left kids env u k (l.drop k)=(match fX w l[k] u with|some r=>fT w a left (kids.getD (1+k) 0) (env++r)|none=>jF w a left kids env u (k+1) (l.drop (k+1))):=by
 rw[bO9 hk,jF];cases fX w l[k] u<;>rfl
theorem aTc (h:cF p w0 S w)(ha:inR a 0 ((w.tasks.length:Int)-1)=true)(hl:LOk p S w left)(n:aL)(env:List aE)(hu:VOk p S w u)(he:env.length<=30)(hkl:1+n.pats.length<=n.kids.length)(hpc: ∀q∈n.pats,oE q<=1000)(hfew:n.kids.length<=1000):
  PC L 184 [.agg w.cs,.i a,.fz (left.map aA.enc),.agg [.i n.op,.i n.n,.fz (n.kids.map (.int .i64)),.fz (n.pats.map Pat.enc)],.fz (env.map aE.enc),.agg [.i u.kind,.i u.n]] (.agg [.fz ((jM w a left n env u).w.objs.map aR.enc),.fz ((jM w a left n env u).w.tasks.map (.int .i64)),.fz ((jM w a left n env u).w.outs.map bJ.enc),.fz ((jM w a left n env u).w.ins.map (.int .i64)),.i (jM w a left n env u).w.used,.i (jM w a left n env u).what,.i (jM w a left n env u).e.task,.i (jM w a left n env u).e.act,.i (jM w a left n env u).e.n,.i (jM w a left n env u).e.v.kind,.i (jM w a left n env u).e.v.n]):=by
 have hfit:=tY h ha;have hF:=fL w a 3 hfit;have hlen:=hl.len;have hL:=at_ Tryz.func184
 conv at hL=>rhs;reduce
 refine aH hL rfl rfl ?_
 simp only[go_sem,kK]
 refine bH n.pats.length (fun k st=> ∃fr en cnt,st=⟨fr,en,cnt⟩/\ fr 1= .i a/\ fr 2= .fz (left.map aA.enc)/\ fr 4= .fz (env.map aE.enc)/\ fr 6= .ptr ⟨0,6,0⟩ 0/\ en ⟨0,6,0⟩=some (.box [.fz (w.objs.map aR.enc),.fz (w.tasks.map (.int .i64)),.fz (w.outs.map bJ.enc),.fz (w.ins.map (.int .i64)),.i w.used] false)/\ fr 9= .ptr ⟨0,9,0⟩ 0/\ en ⟨0,9,0⟩=some (.box [.i n.op,.i n.n,.fz (n.kids.map (.int .i64)),.fz (n.pats.map Pat.enc)] false)/\ fr 11= .ptr ⟨0,11,0⟩ 0/\ en ⟨0,11,0⟩=some (.box [.i u.kind,.i u.n] false)/\ fr 12= .ptr ⟨0,12,0⟩ 0/\ en ⟨0,12,0⟩=some (.box [.cl [],.cl [],.cl [],.cl [],.i 0,.i 0,.i 0,.i 0,.i 0,.i 0,.i 0] false)/\ fr 13= .i k/\
  jF w a left n.kids env u k (n.pats.drop k)=jM w a left n env u) 0 (bOf _) ⟨_,_,_,rfl,by simp only[go_sem],by simp only[go_sem],by simp only[go_sem],by simp only[go_sem],by simp only[go_sem],by simp only[go_sem],by simp only[go_sem],by simp only[go_sem],by simp only[go_sem],by simp only[go_sem],by simp only[go_sem],by simp only[go_sem],by rw[bQf];rfl⟩ ?_
 rintro k st hk ⟨fr,en,cnt,rfl,k1,k2,k4,k6,e6,k9,e9,k11,e11,k12,e12,k13,hD⟩
 simp only[go_sem,kK,k9,e9,k13]
 refine aD (fun hq2=>?_) (fun hq2=>?_)
 ·have h':k<n.pats.length:=of_decide_eq_true hq2;have hM:=aZi h n.pats[k] (hpc _ (bOg h')) u hu;rw[aOa h']at hD;unfold aN9 at hM;have hw1:IntKind.i64.wrap (1+(k:Int))=((1+k:Nat):Int):=by rw[aY (by omega)];omega
  have hki:1+k<n.kids.length:=by omega
  have hkg:n.kids.getD (1+k) 0=n.kids[1+k]:=by simp[bOd,hki]
  cases hx:fX w n.pats[k] u with
  |none=>
   rw[hx]at hM hD;simp only[go_sem,kK,k6,e6,k9,e9,k11,e11,k13,h',hM.ret,bRj,bQb]
   refine⟨_,_,_,rfl,?_⟩
   simp only[go_sem,k1,k2,k4,k6,e6,k9,e9,k11,e11,k12,e12,aQ h' (show Few n.pats.length by unfold Few;omega)]
   exact hD
  |some r=>
   rw[hx]at hM hD;have hr:=aBd _ hx;have hpk:=hpc _ (bOg h');have hN:=aBa w a left n.kids[1+k] (env++r) hfit (by omega)
   rw[bPn]at hN;rw[<-hD];have hl1:env.length<=16777216:=by omega
   have hl2:r.length<=16777216:=by omega
   have hl3:env.length+r.length<=16777216:=by omega
   simp only[go_sem,kK,k6,e6,k9,e9,k11,e11,k13,h',hM.ret,bOz,bP2]
   refine aJ ?_
   cases h0:env.isEmpty<;>cases h1:r.isEmpty
   all_goals
    try(have h0':env=[]:=(by simpa using h0);subst h0')
    try(have h1':r=[]:=(by simpa using h1);subst h1')
    try simp only[bOq,bPb,bPa]at hN
    simp only[go_sem,k1,k2,k4,k6,e6,k9,e9,k12,e12,k13,hw1,hki,hkg,bS,dU,mL,iN,tR,kP,gX,h0,h1,hl1,hl2,hl3,rZ,aCm,bOc,bOr,bOo,bPo,bO1,bPa,bOq,bPb,bN9,bOt,hN.ret,kA,bOa,if_false]
 ·have:k=n.pats.length:=by simp at hq2;omega
  subst this;rw[bP1,jF]at hD;rw[<-hD];simp only[go_sem,k1,k6,e6,k12,e12,hF.ret]
variable {ko:Option Key}{xs:List aE}{kl:Key}
section
variable {kt kr:Key}{f:aA}{n:aL}{back:List aE}{bv:Val}
structure Acc (en:En) (cnt:Nat->Nat->Nat) (kl:Key) (ko:Option Key) (xs:List aE):Prop where
 ok:Old kl cnt
 v:(ko=none/\ xs=[]/\ en kl=some (.box [.cl []] false)) \/ ∃t g b,ko=some ⟨0,t,g⟩/\ g<cnt 0 t/\ en ⟨0,t,g⟩=some (.blk 2 (xs.map aE.enc) b)/\ en kl=some (.box [.bl ⟨0,t,g⟩ 0 xs.length] false)
theorem Acc.to (h:Acc en cnt kl ko xs)(hk: ∀x,Old x cnt->x=kl \/some x=ko->en' x=en x)(hu: ∀t,cnt 0 t<=cnt' 0 t):Acc en' cnt' kl ko xs:=by
 refine⟨h.ok.up hu,h.v.imp (fun⟨a,b,c⟩=>⟨a,b,by rw[hk kl h.ok (.inl rfl)];exact c⟩) fun⟨t,g,b,c1,c2,c3,c4⟩=>⟨t,g,b,c1,bOy c2 (hu t),?_,?_⟩⟩
 ·rw[hk ⟨0,t,g⟩ ⟨rfl,c2⟩ (.inr c1.symm)];exact c3
 ·rw[hk kl h.ok (.inl rfl)];exact c4
theorem Acc.ne (h:TS kt kr en cnt p w a left f n back bv)(hA:Acc en cnt kl ko xs):(kt≠kl/\ kr≠kl)/\ some kt≠ko/\ some kr≠ko:=by
 have ht:=h.t;have hr:=h.r;rcases hA.v with⟨a,b,c⟩|⟨t,g,b,c1,c2,c3,c4⟩
 ·subst a
  refine⟨⟨?_,?_⟩,by simp,by simp⟩
  ·rintro rfl;rw[ht]at c;simp at c
  ·rintro rfl;rw[hr]at c;simp at c
 ·subst c1
  refine⟨⟨?_,?_⟩,fun e=>?_,fun e=>?_⟩
  ·rintro rfl;rw[ht]at c4;simp at c4
  ·rintro rfl;rw[hr]at c4;simp at c4
  ·rw[bN7]at e;rw[<-e,ht]at c3;cases c3
  ·rw[bN7]at e;rw[<-e,hr]at c3;cases c3
structure bE4 (kt kr:Key) (en:En) (cnt:Nat->Nat->Nat) (p:aI) (w:aB) (a:Int) (left:List aA) (f:aA) (n:aL) (back:List aE) (kl:Key) (ko:Option Key) (xs:List aE) (o:Option (List aE)) (en':En) (cnt':Nat->Nat->Nat):Prop where
 ts: ∃bv',TS kt kr en' cnt' p w a left f n back bv'
 acc: ∀l,o=some l-> ∃ko',Acc en' cnt' kl ko' (xs++l)/\ (ko'=ko \/ ∀x,ko'=some x-> ¬Old x cnt)
 old: ∀x,Old x cnt->x≠kt->x≠kr->x≠kl->some x≠ko->en' x=en x
 up: ∀t,cnt 0 t<=cnt' 0 t
theorem aEi (h:TS kt kr en cnt p w a left f n back bv)(hA:Acc en cnt kl ko xs){o:Option (List aE)}(ho:o=none \/o=some [])(hk: ∀x,Old x cnt->en' x=en x)(hu: ∀t,cnt 0 t<=cnt' 0 t):
  bE4 kt kr en cnt p w a left f n back kl ko xs o en' cnt':=by
 refine⟨(h.stay hk hu).1,fun l hl=>?_,fun x hx _ _ _ _=>hk x hx,hu⟩
 rcases ho with rfl|rfl
 ·cases hl
 ·cases hl
  refine⟨ko,?_,.inl rfl⟩
  rw[bPa];exact hA.to (fun x hx _=>hk x hx) hu
theorem aJ5 : ∀(l:List Pat) {k:Nat} (h:k<l.length),gG (l.take k)+oE l[k]<=gG l
 |q::l,0,_=>by simp[gG]
 |q::l,k+1,h=>by
  have:=aJ5 l (k:=k) (by simpa using h)
  simp only[bOp,gG,List.getElem_cons_succ];omega
theorem aRc (hF:cF p w0 S w)(cons:List cD): ∀(q:Pat),qR cons q=true->oE q<=1000-> ∀(v:aE),VOk p S w v-> ∀{en:En} {cnt:Nat->Nat->Nat} {bv:Val} {kl:Key} {ko:Option Key} {xs:List aE} (h:TS kt kr en cnt p w a left f n back bv) (hA:Acc en cnt kl ko xs),xs.length+oE q<=100000->
  WIn L (.fn 332 [] []) [.ptr kt 0,.agg [.i q.form,.i q.n,.str q.text,.fz (q.parts.map Pat.enc)],.agg [.i v.kind,.i v.n],.ptr kl 0] en cnt fun r en' cnt'=>r= .bool (fX w q v).isSome/\ bE4 kt kr en cnt p w a left f n back kl ko xs (fX w q v) en' cnt':=by
 intro q
 induction q using Pat.ind with
 |h q ih=>
 intro hok hq v hv en cnt bv kl ko xs h hA hlen;have s1:=h.okt.set;have s2:=h.okr.set;have n1:=h.okt.new;have n2:=h.okr.new;have hn:=h.ne;have ht:=h.t;have hr:=h.r;have m1:=h.okt.eqF;have m2:=h.okr.eqF;have o1:=h.okt.eqF';have o2:=h.okr.eqF';have x1: ∀(en:En) (e:Option Ent),En.set en kt e kr=en kr:=fun _ _=>aK hn;have x2: ∀(en:En) (e:Option Ent),En.set en kr e kt=en kt:=fun _ _=>aK hn.symm
 obtain⟨⟨nl1,nl2⟩,no1,no2⟩:=hA.ne h;have l1:=hA.ok.set;have l2:=hA.ok.new;have l3:=hA.ok.eqF;have l4:=hA.ok.eqF';rw[aMa];rw[aI5]at hok;simp only[bN8]at hok;have hhead:=hok.1
 by_cases h1:q.form=1
 ·rw[if_pos h1]
  refine bO aLt rfl rfl ?_
  simp only[go_sem,kK,aGd,h1];exact⟨rfl,aEi h hA (.inr rfl) (fun k hk=>by simp only[hk.set]) (by(repeat refine upS ?_ (by omega));exact aN _)⟩
 rw[if_neg h1];have d1:decide (q.form=1)=false:=decide_eq_false h1
 by_cases h2:q.form=2
 ·rw[if_pos h2]
  refine bO aLt rfl rfl ?_
  have hu: ∀t,cnt 0 t<=aC (aC (aC cnt 0 5 (cnt 0 5+1)) 0 6 (cnt 0 6+1)) 0 23 (cnt 0 23+1) 0 t:=(by(repeat refine upS ?_ (by omega));exact aN _)
  rcases hA.v with⟨v1,v2,v3⟩|⟨t,g,b,v1,v2,v3,v4⟩
  ·subst v1 v2;simp only[go_sem,kK,aGd,h2]
   refine aJ ?_
   simp only[go_sem,kB,l1,v3,bS,dU,tT,aA7,aCm,rA,bOo,bO1,bPb,kA,kF]
   refine⟨rfl,⟨⟨bv,h.to (by simp only[aK nl1,s1]) (by simp only[aK nl2,s2]) hu⟩,fun l hl=>?_,fun x hx _ _ x1 _=>by simp only[aK x1,hx.set],hu⟩⟩
   simp only[bN7]at hl;subst hl
   refine⟨some ⟨0,23,cnt 0 23⟩,⟨hA.ok.up hu,.inr ⟨23,cnt 0 23,false,rfl,by simp[aC],?_,cB⟩⟩,.inr fun x hx ho=>?_⟩
   ·rw[l2,cB];rfl
   ·simp only[bN7]at hx;subst hx;exact Nat.lt_irrefl _ ho.2
  ·subst v1;have hob:Old ⟨0,t,g⟩ cnt:=⟨rfl,v2⟩;have b1:=hob.set;have b0:=hob.new;have bF:=hob.eqF;have bF':=hob.eqF';have bl:(⟨0,t,g⟩:Key)≠kl:=by rintro rfl;rw[v3]at v4;cases v4
   have b2: ∀(en:En) (e:Option Ent),En.set en kl e ⟨0,t,g⟩=en ⟨0,t,g⟩:=fun _ _=>aK bl
   have b4: ∀(en:En) (e:Option Ent),En.set en ⟨0,t,g⟩ e kl=en kl:=fun _ _=>aK bl.symm
   have hlm:xs.length+1<=16777216:=by have:=sM q;omega
   simp only[go_sem,kK,aGd,h2]
   refine aJ ?_
   simp only[go_sem,kB,l1,b1,b4,v3,v4,bS,dU,tR,kP,aA7,hlm,bOc,bOh,bOo,kA,kF];have c1: ∀(en:En) (e:Option Ent),En.set en ⟨0,t,g⟩ e kt=en kt:=fun _ _=>aK fun e=>no1 (by rw[e])
   have c2: ∀(en:En) (e:Option Ent),En.set en ⟨0,t,g⟩ e kr=en kr:=fun _ _=>aK fun e=>no2 (by rw[e])
   refine⟨rfl,⟨⟨bv,h.to (by simp only[aK nl1,s1,c1]) (by simp only[aK nl2,s2,c2]) hu⟩,fun l hl=>?_,fun x hx _ _ x1 x2=>by
    have x3:x≠⟨0,t,g⟩:=fun e=>x2 (by rw[e])
    simp only[aK x1,hx.set,aK x3],hu⟩⟩
   simp only[bN7]at hl;subst hl
   refine⟨some ⟨0,23,cnt 0 23⟩,⟨hA.ok.up hu,.inr ⟨23,cnt 0 23,b,rfl,by simp[aC],?_,?_⟩⟩,.inr fun x hx ho=>?_⟩
   ·rw[l2,cB];simp[aE.enc]
   ·rw[cB];simp
   ·simp only[bN7]at hx;subst hx;exact Nat.lt_irrefl _ ho.2
 rw[if_neg h2];have d2:decide (q.form=2)=false:=decide_eq_false h2
 by_cases h3:q.form=3
 ·rw[if_pos h3]
  refine bO aLt rfl rfl ?_
  simp only[go_sem,kK,aGd,h3]
  refine aJ ?_
  simp only[go_sem,(sK _).ret,tZ,kA,kF]
  refine⟨by rw[(aBe _).2],aEi h hA ?_ (fun k hk=>by simp only[hk.set]) (by(repeat refine upS ?_ (by omega));exact aN _)⟩
  split
  ·exact .inr rfl
  ·exact .inl rfl
 rw[if_neg h3];have d3:decide (q.form=3)=false:=decide_eq_false h3
 by_cases h4:q.form=4
 ·rw[if_pos h4]
  refine bO aLt rfl rfl ?_
  simp only[go_sem,kK,aGd,h4]
  refine aJ ?_
  simp only[go_sem,(aD4 _).ret,tZ,kA,kF]
  refine⟨by rw[(aBe _).2],aEi h hA ?_ (fun k hk=>by simp only[hk.set]) (by(repeat refine upS ?_ (by omega));exact aN _)⟩
  split
  ·exact .inr rfl
  ·exact .inl rfl
 rw[if_neg h4];have d4:decide (q.form=4)=false:=decide_eq_false h4
 by_cases h5:q.form=5
 ·rw[if_pos h5]
  refine bO aLt rfl rfl ?_
  simp only[go_sem,kK,aGd,h5]
  refine aJ ?_
  simp only[go_sem,jP.ret,tZ,kA,kF]
  refine⟨by rw[(aBe _).2],aEi h hA ?_ (fun k hk=>by simp only[hk.set]) (by(repeat refine upS ?_ (by omega));exact aN _)⟩
  split
  ·exact .inr rfl
  ·exact .inl rfl
 rw[if_neg h5];have d5:decide (q.form=5)=false:=decide_eq_false h5;have h6:q.form=6:=by
  simp only[rW,wH,bN8]at hhead
  by_cases h6:q.form=6
  ·exact h6
  ·simp[h1,h2,h3,h4,h5,h6]at hhead
 obtain⟨⟨bv1,t1⟩,k1⟩:=h.stay (cnt':=aC (aC cnt 0 5 (cnt 0 5+1)) 0 6 (cnt 0 6+1)) (en':=(en.set ⟨0,5,cnt 0 5⟩ (some (.box [.i q.form,.i q.n,.str q.text,.fz (q.parts.map Pat.enc)] false))).set ⟨0,6,cnt 0 6⟩ (some (.box [.i v.kind,.i v.n] false))) (fun k hk=>by simp only[hk.set]) (by(repeat refine upS ?_ (by omega));exact aN _)
 have d6:decide (q.form=6)=true:=decide_eq_true h6
 refine bO aLt rfl rfl ?_
 simp only[go_sem,kK,aGd,d2,d3,d4,d5,d6]
 refine(qF t1 (fH hv) 1).mono ?_
 rintro r e1 c1 ⟨⟨x,rfl,hx⟩,⟨bv2,t2⟩,k2⟩
 obtain⟨p5,q5⟩:=k2.loc (d:=5) (g:=cnt 0 5) (by simp[aC]) h.okt.ne.symm h.okr.ne.symm
 obtain⟨p6,q6⟩:=k2.loc (d:=6) (g:=cnt 0 6) (by simp[aC]) h.okt.ne.symm h.okr.ne.symm
 simp only[go_sem]at p5 p6;have fall: ∀{en':En} {cnt':Nat->Nat->Nat},(∀x,Old x cnt->Old x c1->en' x=e1 x)->(∀t,c1 0 t<=cnt' 0 t)->bE4 kt kr en cnt p w a left f n back kl ko xs none en' cnt':=by
  intro en' cnt' hk hu;obtain⟨t3,k3⟩:=h.fin t2 (k1.trans k2) hk hu;exact⟨t3,(fun l hl=>by cases hl),(fun x hx y1 y2 _ _=>k3.old x hx y1 y2),k3.up⟩
 rcases hx with⟨rfl,hI⟩|⟨rfl,hI⟩
 ·rw[if_neg (fun hh=>by rw[hI]at hh;cases hh.1)]
  simp only[go_sem,kK,hI];exact fall (fun x hx hy=>by simp only[hy.set]) (by(repeat refine upS ?_ (by omega));exact aN _)
 by_cases hn2:(w.obj v.n).n=q.n
 case neg=>
  have dn:decide ((w.obj v.n).n=q.n)=false:=decide_eq_false hn2;rw[if_neg (fun hh=>hn2 hh.2.1)]
  simp only[go_sem,kK,hI,dn,p5,q5.set];exact fall (fun x hx hy=>by simp only[hy.set]) (by(repeat refine upS ?_ (by omega));exact aN _)
 have dn:decide ((w.obj v.n).n=q.n)=true:=decide_eq_true hn2
 by_cases hl:(w.obj v.n).vals.length=q.parts.length
 case neg=>
  have dl:decide ((w.obj v.n).vals.length=q.parts.length)=false:=decide_eq_false hl;rw[if_neg (fun hh=>hl hh.2.2)]
  simp only[go_sem,kK,hI,dn,dl,p5,q5.set];exact fall (fun x hx hy=>by simp only[hy.set]) (by(repeat refine upS ?_ (by omega));exact aN _)
 have dl:decide ((w.obj v.n).vals.length=q.parts.length)=true:=decide_eq_true hl;rw[if_pos ⟨hI,hn2,hl⟩];obtain⟨_,a2,_,_⟩:=eN hF hv hI;simp only[go_sem,kK,hI,dn,dl,p5,q5.set];have u1: ∀t,cnt 0 t<=c1 0 t:=fun t=>bOk (k1.up t) (k2.up t)
 have e0: ∀x,Old x cnt->x≠kt->x≠kr->e1 x=en x:=fun x hx y1 y2=>(k1.trans k2).old x hx y1 y2
 have hA1:Acc e1 c1 kl ko xs:=hA.to (fun x hx hy=>e0 x hx (fun e=>by rcases hy with hy|hy;exact nl1 (e▸hy);exact no1 (e▸hy)) (fun e=>by rcases hy with hy|hy;exact nl2 (e▸hy);exact no2 (e▸hy))) u1
 refine bH q.parts.length (fun k st=> ∃fr en2 cnt2 ko2 l,st=⟨fr,en2,cnt2⟩/\ fr 0= .ptr kt 0/\ fr 3= .ptr kl 0/\ fr 9= .ptr ⟨0,9,c1 0 9⟩ 0/\ en2 ⟨0,9,c1 0 9⟩=some (.box [.i (w.obj v.n).form,.i (w.obj v.n).n,.fz ((w.obj v.n).vals.map aE.enc),.fz ((w.obj v.n).frames.map aA.enc)] false)/\ fr 72= .fz (q.parts.map Pat.enc)/\ fr 73= .i q.parts.length/\ fr 74= .i k/\
  mE w q.parts (w.obj v.n).vals k=some l/\ (∃bv2,TS kt kr en2 cnt2 p w a left f n back bv2)/\ Acc en2 cnt2 kl ko2 (xs++l)/\ (ko2=ko \/ ∀x,ko2=some x-> ¬Old x cnt)/\ (∀x,Old x cnt->x≠kt->x≠kr->x≠kl->some x≠ko->en2 x=en x)/\ (∀t,cnt 0 t<=cnt2 0 t)/\ c1 0 9<cnt2 0 9) 0 (bOf _)
  ⟨_,_,_,ko,[],rfl,by simp only[go_sem],by simp only[go_sem],by simp only[go_sem],by simp only[go_sem],by simp only[go_sem],by simp only[go_sem],by simp only[go_sem],by simp[mE,gC],(t2.stay (fun k hk=>by simp only[hk.set]) (by(repeat refine upS ?_ (by omega));exact aN _)).1,by rw[bPa];exact hA1.to (fun x hx _=>by simp only[hx.set]) (by(repeat refine upS ?_ (by omega));exact aN _),.inl rfl,fun x hx y1 y2 _ _=>by simp only[(hx.up u1).set];exact e0 x hx y1 y2,fun t=>bOk (u1 t) (((by(repeat refine upS ?_ (by omega));exact aN _): ∀t,c1 0 t<=aC c1 0 9 (c1 0 9+1) 0 t) t),by simp[aC]⟩ ?_
 rintro k st hk ⟨fr,en2,cnt2,ko2,l,rfl,k0,k3,k9,e9,k72,k73,k74,hm,⟨bv3,t3⟩,hA3,hko,hold,hup,h9⟩
 have q9:Old ⟨0,9,c1 0 9⟩ cnt2:=⟨rfl,h9⟩;have hlp:=aAj q.parts;have hl3:=xZ _ hm;have hl4:=xY q.parts k;rw[sM]at hq hlen;simp only[go_sem,kK,k73,k74]
 refine aD (fun hq2=>?_) (fun hq2=>?_)
 ·have h':k<q.parts.length:=of_decide_eq_true hq2;have h'':k<(w.obj v.n).vals.length:=by omega
  have hr2:=uT (bOg h');have hr3:=aJ5 q.parts h';have hst:=aEh (w:=w) h' h'';rw[hm]at hst;simp only[go_sem,k0,k3,k9,e9,k72,k74,h',h'',q9.set];obtain⟨⟨bv4,t4⟩,k4⟩:=t3.stay (cnt':=aC cnt2 0 12 (cnt2 0 12+1)) (en':=(en2.set ⟨0,12,cnt2 0 12⟩ (some (.box [.i 0,.i 0,.str ⟨#[]⟩,.cl []] false))).set ⟨0,12,cnt2 0 12⟩ (some (.box [.i q.parts[k].form,.i q.parts[k].n,.str q.parts[k].text,.fz (q.parts[k].parts.map Pat.enc)] false))) (fun k hk=>by simp only[hk.set]) (by(repeat refine upS ?_ (by omega));exact aN _)
  have n9:some (⟨0,9,c1 0 9⟩:Key)≠ko2:=by
   rintro rfl
   rcases hA3.v with⟨z,_⟩|⟨t,g,b,z1,_,z3,_⟩
   ·cases z
   ·simp only[bN7]at z1;rw[<-z1,e9]at z3;cases z3
  have u3: ∀t,cnt2 0 t<=aC cnt2 0 12 (cnt2 0 12+1) 0 t:=(by(repeat refine upS ?_ (by omega));exact aN _)
  have hA4:=hA3.to (cnt':=aC cnt2 0 12 (cnt2 0 12+1)) (en':=(en2.set ⟨0,12,cnt2 0 12⟩ (some (.box [.i 0,.i 0,.str ⟨#[]⟩,.cl []] false))).set ⟨0,12,cnt2 0 12⟩ (some (.box [.i q.parts[k].form,.i q.parts[k].n,.str q.parts[k].text,.fz (q.parts[k].parts.map Pat.enc)] false))) (fun x hx _=>by simp only[hx.set]) u3
  have hpo:qR cons q.parts[k]=true:=bOe.1 hok.2 _ (bOg h')
  refine(ih q.parts[k] (bOg h') hpo (by omega) (w.obj v.n).vals[k] (a2.vals (bOg h'')) t4 hA4 (by rw[bOr];omega)).mono ?_
  rintro r e5 c5 ⟨rfl,F5⟩
  have up5: ∀t,cnt 0 t<=c5 0 t:=fun t=>bOk (hup t) (bOk (u3 t) (F5.up t))
  have old5: ∀x,Old x cnt->x≠kt->x≠kr->x≠kl->some x≠ko->e5 x=en x:=fun x hx y1 y2 y3 y4=>by
   have hx2:=hx.up hup;rw[F5.old x (hx2.up u3) y1 y2 y3 (fun e=>by
    rcases hko with hko|hko
    ·exact y4 (e.trans hko)
    ·exact hko x e.symm hx),hx2.set,hx2.set]
   exact hold x hx y1 y2 y3 y4
  have e59:e5 ⟨0,9,c1 0 9⟩=some (.box [.i (w.obj v.n).form,.i (w.obj v.n).n,.fz ((w.obj v.n).vals.map aE.enc),.fz ((w.obj v.n).frames.map aA.enc)] false):=by
   rw[F5.old _ (q9.up u3) t2.okt.ne.symm t2.okr.ne.symm hA1.ok.ne.symm n9,q9.set,q9.set];exact e9
  cases hx:fX w q.parts[k] (w.obj v.n).vals[k]with
  |none=>
   rw[hx]at F5 hst;have hnone:=aEg hl.symm hst;rw[hnone];simp only[go_sem,kK,bQb];exact⟨F5.ts,(fun l hl=>by cases hl),old5,up5⟩
  |some r=>
   rw[hx]at F5 hst;obtain⟨ko5,hA5,hko5⟩:=F5.acc r rfl;simp only[go_sem,kK,bP2,k74,aQ h' (show Few q.parts.length by unfold Few;omega)]
   refine⟨_,_,_,ko5,l++r,rfl,?_⟩
   simp only[go_sem,k0,k3,k9,k72,k73]
   refine⟨e59,hst,F5.ts,by rw[<-List.append_assoc];exact hA5,?_,old5,up5,bOy h9 (bOk (u3 9) (F5.up 9))⟩
   rcases hko5 with hko5|hko5
   ·rw[hko5];exact hko
   ·exact .inr fun x hx ho=>hko5 x hx ((ho.up hup).up u3)
 ·have:k=q.parts.length:=by simp at hq2;omega
  subst this;have hfull:gC w q.parts (w.obj v.n).vals=some l:=by
   unfold mE at hm;rw[bPt,<-hl,bPt]at hm;exact hm
  rw[hfull];simp only[go_sem,bP2];exact⟨⟨bv3,t3⟩,fun l' hl'=>by cases hl';exact⟨ko2,hA3,hko⟩,hold,hup⟩
end
theorem aJ6 (v:aE):v.enc= .agg [.i v.kind,.i v.n]:=rfl
variable {l:List aE}
theorem aS (h:0<l.length):oP 2 en (.fz (l.map aE.enc)) (.i 0)=some {v:= .fp [.i (aF l 0).kind,.i (aF l 0).n] 0}:=
 aBp (f:=aE.enc) (size:=2) (i:=0) kR (by simp only[inR,bRt];omega) fun _=>rfl
theorem fP (h:1<l.length):oP 2 en (.fz (l.map aE.enc)) (.i 1)=some {v:= .fp [.i (aF l 1).kind,.i (aF l 1).n] 0}:=
 aBp (f:=aE.enc) (size:=2) (i:=1) kR (by simp only[inR,bRt];omega) fun _=>rfl
noncomputable def aRd :{c//L 188=some c}:=by
 have hL:=at_ Tryz.func188
 conv at hL=>rhs;reduce
 exact⟨_,hL⟩
theorem aV8 (h:cF p w0 S w)(ha:inR a 0 ((w.tasks.length:Int)-1)=true)(hv:VOk p S w v):
  PC L 188 [.agg w.cs,.i a,.fz (left.map aA.enc),.agg [.i v.kind,.i v.n]] (.agg [.fz ((fO w a left v).w.objs.map aR.enc),.fz ((fO w a left v).w.tasks.map (.int .i64)),.fz ((fO w a left v).w.outs.map bJ.enc),.fz ((fO w a left v).w.ins.map (.int .i64)),.i (fO w a left v).w.used,.i (fO w a left v).what,.i (fO w a left v).e.task,.i (fO w a left v).e.act,.i (fO w a left v).e.n,.i (fO w a left v).e.v.kind,.i (fO w a left v).e.v.n]):=by
 have hfit:=tY h ha;have hF:=fL w a 2 hfit;have hO:=oD w v 6 (fH hv)
 by_cases h6:cV w v 6=true
 ·obtain⟨_,a2,a3,_⟩:=eN h hv h6;rw[tW,if_pos h6,h6]at hO;have hF3:=fL w a (w.obj v.n).n hfit
  by_cases h0:(w.obj v.n).n=0
  ·have d0:decide ((w.obj v.n).n=0)=true:=decide_eq_true h0;have e:fO w a left v=lS w:=by unfold fO;rw[if_pos h6,if_pos h0]
   rw[e]
   refine aH aRd.2 rfl rfl ?_
   simp only[go_sem,kK,aRd,hO.ret,d0,lS,gR,kR]
  ·have d0:decide ((w.obj v.n).n=0)=false:=decide_eq_false h0
   by_cases h1:(w.obj v.n).n=1
   ·have d1:decide ((w.obj v.n).n=1)=true:=decide_eq_true h1;have e:fO w a left v=cW (bT w a left (aF (w.obj v.n).vals 0)) a 20 0 (aF (w.obj v.n).vals 0):=by unfold fO;rw[if_pos h6,if_neg h0,if_neg (by rw[h1];decide)]
    rw[e];have hk:=a2.ok;rw[dK,if_pos a3,jU,if_neg h0,if_pos h1]at hk;simp only[bN8,bRt]at hk;have hB:=iX w a left (aF (w.obj v.n).vals 0) hfit;have hE:=lK (bT w a left (aF (w.obj v.n).vals 0)) a 20 0 (aF (w.obj v.n).vals 0)
    refine aH aRd.2 rfl rfl ?_
    simp only[go_sem,kK,aRd,hO.ret,d0,d1]
    refine aJ ?_
    simp only[go_sem,aS (l:=(w.obj v.n).vals) (by omega),hB.ret,hE.ret,kA,bOa,if_false]
   ·have d1:decide ((w.obj v.n).n=1)=false:=decide_eq_false h1;have e:fO w a left v=bD w a (w.obj v.n).n:=by unfold fO;rw[if_pos h6,if_neg h0,if_pos h1]
    rw[e]
    refine aH aRd.2 rfl rfl ?_
    simp only[go_sem,kK,aRd,hO.ret,d0,d1,hF3.ret]
 ·have e:fO w a left v=bD w a 2:=by unfold fO;rw[if_neg h6]
  rw[e];rw[bPf]at h6;rw[h6]at hO
  refine aH aRd.2 rfl rfl ?_
  simp only[go_sem,kK,aRd,hO.ret,hF.ret]
theorem aOb {n:Int}{o:aR}(hf:Fit w a):Fit (dR w n o) a:=by
 refine⟨?_,hf.at_,?_⟩
 ·rw[pN];exact hf.len
 ·rw[pN];exact hf.rng
noncomputable def aRe :{c//L 186=some c}:=by
 have hL:=at_ Tryz.func186
 conv at hL=>rhs;reduce
 exact⟨_,hL⟩
theorem aFi (h:cF p w0 S w)(ha:inR a 0 ((w.tasks.length:Int)-1)=true)(hv: ∀v∈l,VOk p S w v)(h0:0<l.length)(ho:op=16 \/op=17 \/op=18/\ 1<l.length):
  PC L 186 [.agg w.cs,.i a,.fz (left.map aA.enc),.i op,.fz (l.map aE.enc)] (.agg [.fz ((eC w a left op l).w.objs.map aR.enc),.fz ((eC w a left op l).w.tasks.map (.int .i64)),.fz ((eC w a left op l).w.outs.map bJ.enc),.fz ((eC w a left op l).w.ins.map (.int .i64)),.i (eC w a left op l).w.used,.i (eC w a left op l).what,.i (eC w a left op l).e.task,.i (eC w a left op l).e.act,.i (eC w a left op l).e.n,.i (eC w a left op l).e.v.kind,.i (eC w a left op l).e.v.n]):=by
 have hfit:=tY h ha;have hF:=fL w a 2 hfit;have hv0:=hv _ (cY h0);have hO:=oD w (aF l 0) 3 (fH hv0)
 by_cases h16:op=16
 ·subst h16;have e:eC w a left 16 l=cW (gS w a left ⟨3,0,[aF l 0],[]⟩) a 16 0 (aF l 0):=by unfold eC;rw[if_pos rfl]
  rw[e];have hM:=aHi w a left ⟨3,0,[aF l 0],[]⟩ hfit;have hE:=lK (gS w a left ⟨3,0,[aF l 0],[]⟩) a 16 0 (aF l 0);simp only[bO4,bOq,aJ6]at hM
  refine aH aRe.2 rfl rfl ?_
  simp only[go_sem,kK,aRe]
  refine aJ ?_
  simp only[go_sem,aS h0,pE,kO,hM.ret,hE.ret,kA,bOa,if_false]
 ·have d16:decide (op=16)=false:=decide_eq_false h16
  by_cases h3:cV w (aF l 0) 3=true
  ·obtain⟨a1,a2,a3,_⟩:=eN h hv0 h3;rw[tW,if_pos h3,h3]at hO;have hk:=a2.ok;simp only[dK,a3]at hk
   simp at hk
   by_cases h17:op=17
   ·subst h17;have e:eC w a left 17 l=cW (bT w a left (aF (w.obj (aF l 0).n).vals 0)) a 17 0 (aF (w.obj (aF l 0).n).vals 0):=by
     unfold eC;rw[if_neg (by decide),if_pos h3,if_pos rfl]
    rw[e];have hB:=iX w a left (aF (w.obj (aF l 0).n).vals 0) hfit;have hE:=lK (bT w a left (aF (w.obj (aF l 0).n).vals 0)) a 17 0 (aF (w.obj (aF l 0).n).vals 0)
    refine aH aRe.2 rfl rfl ?_
    simp only[go_sem,kK,aRe]
    refine aJ ?_
    simp only[go_sem,kK,aS h0,hO.ret,kA,bOa,if_false]
    refine aJ ?_
    simp only[go_sem,aS (l:=(w.obj (aF l 0).n).vals) (by omega),hB.ret,hE.ret,kA,bOa,if_false]
   ·have d17:decide (op=17)=false:=decide_eq_false h17;have h18:op=18:=by omega
    have hl1:1<l.length:=by omega
    subst h18;have e:eC w a left 18 l=cW (bT (dR w (aF l 0).n ⟨3,0,[aF l 1],[]⟩) a left bL) a 18 0 (aF l 1):=by
     unfold eC;rw[if_neg (by decide),if_pos h3,if_neg (by decide)]
    rw[e];simp only[inR,bRt]at ha;have hS:=aJw w (aF l 0).n ⟨3,0,[aF l 1],[]⟩ a1 (by omega) hfit.len
    have hB:=iX (dR w (aF l 0).n ⟨3,0,[aF l 1],[]⟩) a left bL (aOb hfit);have hE:=lK (bT (dR w (aF l 0).n ⟨3,0,[aF l 1],[]⟩) a left bL) a 18 0 (aF l 1);simp only[bO4,bOq,aJ6]at hS
    refine aH aRe.2 rfl rfl ?_
    simp only[go_sem,kK,aRe]
    refine aJ ?_
    simp only[go_sem,kK,aS h0,hO.ret,kA,bOa,if_false]
    refine aJ ?_
    simp only[go_sem,aS h0,fP hl1,pE,kO,hS.ret,kA,bOa,if_false]
    refine aJ ?_
    simp only[go_sem,fP hl1,mB.ret,hB.ret,hE.ret,kA,bOa,if_false]
  ·have e:eC w a left op l=bD w a 2:=by unfold eC;rw[if_neg h16,if_neg h3]
   rw[e];rw[bPf]at h3;rw[h3]at hO
   refine aH aRe.2 rfl rfl ?_
   simp only[go_sem,kK,aRe,d16]
   refine aJ ?_
   simp only[go_sem,kK,aS h0,hO.ret,kA,bOa,if_false];simp only[go_sem,hF.ret]
variable {size:Nat}
theorem aBf {xs:List Val}{k:IntKind}(h:1<=xs.length)(hs:cP size xs=true):jK false size en (.fz xs) (some (.int k 1)) none none=some {v:= .fz (xs.drop 1)}:=aIu (i:=1) h hs
noncomputable def aK3 :{c//L 190=some c}:=by
 have hL:=at_ Tryz.func190
 conv at hL=>rhs;reduce
 exact⟨_,hL⟩
theorem aEj (h:cF p w0 S w)(ha:inR a 0 ((w.tasks.length:Int)-1)=true)(hv: ∀v∈l,VOk p S w v)(h0:0<l.length)(ho:op=22/\ 1<l.length \/op=23):
  PC L 190 [.agg w.cs,.i a,.fz (left.map aA.enc),.i op,.fz (l.map aE.enc)] (.agg [.fz ((bY w a left op l).w.objs.map aR.enc),.fz ((bY w a left op l).w.tasks.map (.int .i64)),.fz ((bY w a left op l).w.outs.map bJ.enc),.fz ((bY w a left op l).w.ins.map (.int .i64)),.i (bY w a left op l).w.used,.i (bY w a left op l).what,.i (bY w a left op l).e.task,.i (bY w a left op l).e.act,.i (bY w a left op l).e.n,.i (bY w a left op l).e.v.kind,.i (bY w a left op l).e.v.n]):=by
 have hfit:=tY h ha;have hF:=fL w a 2 hfit;have hv0:=hv _ (cY h0);have hO:=oD w (aF l 0) 4 (fH hv0);have ht:0<w.tasks.length:=by simp only[inR,bRt]at ha;omega
 by_cases h3:cV w (aF l 0) 4=true
 ·obtain⟨a1,a2,a3,_⟩:=eN h hv0 h3;rw[tW,if_pos h3,h3]at hO;have hk:=a2.ok;simp only[dK,a3]at hk;simp[bE]at hk
  by_cases h22:op=22
  ·subst h22;have hl1:1<l.length:=by omega
   by_cases h4:4<=(w.obj (aF l 0).n).vals.length
   ·have d4:decide ((4:Int)<=((w.obj (aF l 0).n).vals.length:Int))=true:=decide_eq_true (by omega)
    have e:bY w a left 22 l=lS w:=by unfold bY;rw[if_pos h3,if_pos rfl,if_pos h4]
    rw[e]
    refine aH aK3.2 rfl rfl ?_
    simp only[go_sem,kK,aK3]
    refine aJ ?_
    simp only[go_sem,kK,aS h0,hO.ret,kA,bOa,if_false];simp only[go_sem,kK,d4,lS,gR,kR]
   ·have d4:decide ((4:Int)<=((w.obj (aF l 0).n).vals.length:Int))=false:=decide_eq_false (by omega)
    have e:bY w a left 22 l=cW (bT (dR w (aF l 0).n ⟨4,0,(w.obj (aF l 0).n).vals++[aF l 1],[]⟩) a left bL) a 22 0 (aF l 1):=by
     unfold bY;rw[if_pos h3,if_pos rfl,if_neg h4]
    rw[e];have hM:=aD2 (w.obj (aF l 0).n).vals (aF l 1) (by omega)
    have hS:=aJw w (aF l 0).n ⟨4,0,(w.obj (aF l 0).n).vals++[aF l 1],[]⟩ a1 ht hfit.len;have hB:=iX (dR w (aF l 0).n ⟨4,0,(w.obj (aF l 0).n).vals++[aF l 1],[]⟩) a left bL (aOb hfit);have hE:=lK (bT (dR w (aF l 0).n ⟨4,0,(w.obj (aF l 0).n).vals++[aF l 1],[]⟩) a left bL) a 22 0 (aF l 1);simp only[bOq]at hS
    refine aH aK3.2 rfl rfl ?_
    simp only[go_sem,kK,aK3]
    refine aJ ?_
    simp only[go_sem,kK,aS h0,hO.ret,kA,bOa,if_false];simp only[go_sem,d4]
    refine aJ ?_
    simp only[go_sem,aS h0,fP hl1,hM.ret,hS.ret,kA,bOa,if_false]
    refine aJ ?_
    simp only[go_sem,fP hl1,mB.ret,hB.ret,hE.ret,kA,bOa,if_false]
  ·have h23:op=23:=by omega
   subst h23
   by_cases hz:(w.obj (aF l 0).n).vals.length=0
   ·have dz:decide (((w.obj (aF l 0).n).vals.length:Int)=0)=true:=decide_eq_true (by omega)
    have e:bY w a left 23 l=lS w:=by unfold bY;rw[if_pos h3,if_neg (by decide),if_pos hz]
    rw[e]
    refine aH aK3.2 rfl rfl ?_
    simp only[go_sem,kK,aK3]
    refine aJ ?_
    simp only[go_sem,kK,aS h0,hO.ret,kA,bOa,if_false];simp only[go_sem,kK,dz,lS,gR,kR]
   ·have dz:decide (((w.obj (aF l 0).n).vals.length:Int)=0)=false:=decide_eq_false (by omega)
    have e:bY w a left 23 l=cW (bT (dR w (aF l 0).n ⟨4,0,(w.obj (aF l 0).n).vals.drop 1,[]⟩) a left (aF (w.obj (aF l 0).n).vals 0)) a 23 0 (aF (w.obj (aF l 0).n).vals 0):=by
     unfold bY;rw[if_pos h3,if_neg (by decide),if_neg hz]
    rw[e];have hS:=aJw w (aF l 0).n ⟨4,0,(w.obj (aF l 0).n).vals.drop 1,[]⟩ a1 ht hfit.len;have hB:=iX (dR w (aF l 0).n ⟨4,0,(w.obj (aF l 0).n).vals.drop 1,[]⟩) a left (aF (w.obj (aF l 0).n).vals 0) (aOb hfit);have hE:=lK (bT (dR w (aF l 0).n ⟨4,0,(w.obj (aF l 0).n).vals.drop 1,[]⟩) a left (aF (w.obj (aF l 0).n).vals 0)) a 23 0 (aF (w.obj (aF l 0).n).vals 0);simp only[bOq]at hS;have hge:1<=(w.obj (aF l 0).n).vals.length:=by omega
    have hl16:((w.obj (aF l 0).n).vals.drop 1).length<=16777216:=by simp only[bQk];omega
    refine aH aK3.2 rfl rfl ?_
    simp only[go_sem,kK,aK3]
    refine aJ ?_
    simp only[go_sem,kK,aS h0,hO.ret,kA,bOa,if_false];simp only[go_sem,dz]
    refine aJ ?_
    cases hd:((w.obj (aF l 0).n).vals.drop 1).isEmpty with
    |true=>
     have hd':(w.obj (aF l 0).n).vals.drop 1=[]:=by simpa using hd
     rw[hd']at hS hB hE⊢;simp only[bOq]at hS;simp only[go_sem,aS h0,aBf,rZ,hge,bS,dU,mL,<-bQ1,hd',bOq,pE,kO,hS.ret,kA,bOa,if_false]
     refine aJ ?_
     simp only[go_sem,aS (l:=(w.obj (aF l 0).n).vals) (by omega),hB.ret,hE.ret,kA,bOa,if_false]
    |false=>
     generalize hgd:(w.obj (aF l 0).n).vals.drop 1=dl at*;simp only[go_sem,aS h0,aBf,rZ,hge,bS,dU,iN,<-bQ1,hgd,gX,hd,hl16,bOc,bN9,bOt,tQ,mK,hS.ret,kA,bOa,if_false]
     refine aJ ?_
     simp only[go_sem,aS (l:=(w.obj (aF l 0).n).vals) (by omega),hB.ret,hE.ret,kA,bOa,if_false]
 ·have e:bY w a left op l=bD w a 2:=by unfold bY;rw[if_neg h3]
  rw[e];rw[bPf]at h3;rw[h3]at hO
  refine aH aK3.2 rfl rfl ?_
  simp only[go_sem,kK,aK3]
  refine aJ ?_
  simp only[go_sem,kK,aS h0,hO.ret,kA,bOa,if_false];simp only[go_sem,hF.ret]
theorem aMb {n:Nat}{k:Key}{kk:IntKind}(hn:1<=n):jK false size en (.bl k 0 n) (some (.int kk 1)) none none=(match en k with
  |some (.blk sz _ _)=>if sz=size then some {v:= .bl k 1 (n-1),rs:=[.val k]}else none
  |_=>none):=by
 have hb:iG (some (.int kk 1)) 0 n=some 1:=sI (i:=1) hn;simp only[jK,tG,hb,bOa,if_false];cases en k with
 |none=>rfl
 |some e=>cases e<;>simp
theorem aZj {outs:List bJ}{ins:List Int}{used:Int}(hf:Fit w a)(h1:outs.length<=110)(h2:ins.length<=60):Fit ⟨w.objs,w.tasks,outs,ins,used⟩ a:=⟨⟨hf.len.1,hf.len.2.1,h1,h2⟩,hf.at_,hf.rng⟩
theorem aMc (x:Int)(l:List Int):(x::l).map (Val.int .i64)= .i x::l.map (.int .i64):=rfl
set_option maxHeartbeats 1600000 in
theorem aJ7 (h:cF p w0 S w)(ha:inR a 0 ((w.tasks.length:Int)-1)=true)(n:aL)(hv: ∀v∈l,VOk p S w v)(ho:n.op=25 \/n.op=24/\ 0<l.length):
  PC L 191 [.agg [.fz (w.objs.map aR.enc),.fz (w.tasks.map (.int .i64)),.fz (w.outs.map bJ.enc),.fz (w.ins.map (.int .i64)),.i w.used],.i a,.fz (left.map aA.enc),.agg [.i n.op,.i n.n,.fz (n.kids.map (.int .i64)),.fz (n.pats.map Pat.enc)],.fz (l.map aE.enc)] (.agg [.fz ((cX w a left n.op n.n l).w.objs.map aR.enc),.fz ((cX w a left n.op n.n l).w.tasks.map (.int .i64)),.fz ((cX w a left n.op n.n l).w.outs.map bJ.enc),.fz ((cX w a left n.op n.n l).w.ins.map (.int .i64)),.i (cX w a left n.op n.n l).w.used,.i (cX w a left n.op n.n l).what,.i (cX w a left n.op n.n l).e.task,.i (cX w a left n.op n.n l).e.act,.i (cX w a left n.op n.n l).e.n,.i (cX w a left n.op n.n l).e.v.kind,.i (cX w a left n.op n.n l).e.v.n]):=by
 have hfit:=tY h ha;have hF2:=fL w a 2 hfit;have hF4:=fL w a 4 hfit
 try simp only[aB.cs,Val.is]at hF2 hF4
 obtain⟨b1,b2,b3,b4,b5,b6,b7⟩:=dL.1 h.ok;simp only[mH,bN8,bRt]at b3;simp only[inR,bRt]at b4;have hat:=hfit.at_;have hrng:=hfit.rng;simp only[inR,bRt]at hat hrng;have t1:((w.objs.map aR.enc).take w.objs.length)=w.objs.map aR.enc:=bOt (by simp)
 have t2:((w.tasks.map (Val.int .i64)).take w.tasks.length)=w.tasks.map (.int .i64):=bOt (by simp)
 have t3:((w.outs.map bJ.enc).take w.outs.length)=w.outs.map bJ.enc:=bOt (by simp)
 have t4:((w.ins.map (Val.int .i64)).take w.ins.length)=w.ins.map (.int .i64):=bOt (by simp)
 have hL:=at_ Tryz.func191
 conv at hL=>rhs;reduce
 refine aH hL rfl rfl ?_
 simp only[go_sem,kK]
 refine(aEa w (by omega) (by omega) hfit.len (aAd _ _ w)).mono ?_
 rintro x en1 cnt1 ⟨⟨g5,g8,vU,vI,rfl,e5,l5,m5,e8,l8,m8,mU,mI⟩,old,up⟩
 have q5:=old 5 0 (by simp[aC])
 have q8:=old 8 0 (by simp[aC])
 have q10:=old 10 0 (by simp[aC])
 have n5: ¬g5=0:=by simp[aC]at l5;omega
 have n8: ¬g8=0:=by simp[aC]at l8;omega
 have n5': ¬0=g5:=by omega
 have n8': ¬0=g8:=by omega
 try simp only[go_sem]at q5 q8 q10
 obtain⟨g11,hg11⟩: ∃g,g=cnt1 0 11:=⟨_,rfl⟩
 have eU:=True.intro;have eI:=True.intro;have nU:=True.intro
 by_cases h25:n.op=25
 ·rw[h25];cases hins:w.ins with
  |nil=>
   have e:cX w a left 25 n.n l=lS w:=by unfold cX;rw[if_pos rfl,hins]
   rw[e];rcases mI with⟨rfl,hi⟩|⟨gI,rfl,eI,lI,hi⟩
   ·rcases mU with⟨rfl,hu⟩|⟨gU,rfl,eU,lU,hu⟩
    all_goals simp only[go_sem,kK,q5,q8,q10,n5,h25,e5,e8,eU,t1,t2,t3,bOc,bN9,lS,gR,kR,hu,hins,bOq]
   ·rw[hins]at hi;cases hi
  |cons x xs=>
   have hx:inR x (-1000000000) 1000000000=true:=by rw[hins]at b3;simp only[bQg,bN8]at b3;exact b3.2.1
   have hlx:xs.length+1<=50:=by rw[hins]at b3;have:=b3.1;simp only[bOh]at this;omega
   have hlen:w.ins.length=xs.length+1:=by rw[hins];rfl
   rcases mI with⟨rfl,hi⟩|⟨gI,rfl,eI,lI,hi⟩
   ·rw[hins]at hi;cases hi
   rw[hins,aMc]at eI;have tx:(xs.map (Val.int .i64)).take xs.length=xs.map (.int .i64):=bOt (by simp)
   have dpos:(0:Int)<((xs.length+1:Nat):Int):=by omega
   have di:decide (((xs.length+1:Nat):Int)=0)=false:=decide_eq_false (by omega)
   by_cases hus:1000000000<=w.used
   ·have du:decide ((1000000000:Int)<=w.used)=true:=decide_eq_true hus;have e:cX w a left 25 n.n l=bD w a 4:=by unfold cX;rw[if_pos rfl,hins];simp only;rw[if_pos hus]
    rw[e];rw[hins,aMc]at hF4;rcases mU with⟨rfl,hu⟩|⟨gU,rfl,eU,lU,hu⟩
    ·rw[hu]at hF4;simp only[go_sem,kK,q5,q8,q10,n5,h25,e5,e8,eI,t1,t2,bOc,bOh,bN9,hlen,di,dpos,Int.le_refl,bQn,tx,(aCj _).ret,<-hg11,du,hF4.ret]
    ·have nU: ¬gU=g11:=by omega
     simp only[go_sem,kK,q5,q8,q10,n5,h25,e5,e8,eI,eU,nU,t1,t2,t3,bOc,bOh,bN9,hlen,di,dpos,Int.le_refl,bQn,tx,(aCj _).ret,<-hg11,du,hF4.ret]
   ·have du:decide ((1000000000:Int)<=w.used)=false:=decide_eq_false hus;have e:cX w a left 25 n.n l=cW (bT ⟨w.objs,w.tasks,w.outs,xs,w.used+1⟩ a left (lR x)) a 25 0 (lR x):=by unfold cX;rw[if_pos rfl,hins];simp only;rw[if_neg hus]
    rw[e];have hwu:IntKind.i64.wrap (w.used+1)=w.used+1:=aY (by omega)
    have hB:=iX ⟨w.objs,w.tasks,w.outs,xs,w.used+1⟩ a left (lR x) (aZj hfit (by omega) (by omega))
    have hE:=lK (bT ⟨w.objs,w.tasks,w.outs,xs,w.used+1⟩ a left (lR x)) a 25 0 (lR x);dsimp only[aB.cs,Val.is]at hB;have hx1:1<=xs.length+1:=by omega
    have hx2:xs.length+1-1=xs.length:=by omega
    have hx3:1+xs.length<=xs.length+1:=by omega
    have hx4:xs.length<=16777216:=by omega
    cases hxe:xs.isEmpty
    all_goals
     try(have hxe':xs=[]:=(by simpa using hxe);subst hxe')
     try simp only[bOq]at hB
     rcases mU with⟨rfl,hu⟩|⟨gU,rfl,eU,lU,hu⟩
     ·rw[hu]at hB;simp only[go_sem,kK,q5,q8,h25,eI,bOc,bOh,bN9,hlen,di,dpos,Int.le_refl,bQn,(aCj _).ret,<-hg11,du]
      refine aJ ?_
      simp only[go_sem,kB,eI,hx1,hx2,hx3,hx4,hxe,tx,aMb,aJv,bS,dU,mL,iN,gX,aA6,bOc,bOh,bOo,bN9,hwu,bOq,kA,bOa,if_false]
      refine aJ ?_
      simp only[go_sem,q8,q10,n5,n8',h25,e5,e8,hB.ret,hE.ret,t1,t2,tx,bOc,bN9,bOq,kA,bOa,if_false]
     ·have nU: ¬gU=g11:=by omega
      have nU': ¬g11=gU:=by omega
      simp only[go_sem,kK,q5,q8,h25,eI,bOc,bOh,bN9,hlen,di,dpos,Int.le_refl,bQn,(aCj _).ret,<-hg11,du]
      refine aJ ?_
      simp only[go_sem,kB,eI,hx1,hx2,hx3,hx4,hxe,tx,aMb,aJv,bS,dU,mL,iN,gX,aA6,bOc,bOh,bOo,bN9,hwu,bOq,kA,bOa,if_false]
      refine aJ ?_
      simp only[go_sem,q8,q10,n5,n8',h25,e5,e8,eU,nU,nU',hB.ret,hE.ret,t1,t2,t3,tx,bOc,bN9,bOq,kA,bOa,if_false]
 ·have h24:n.op=24:=by omega
  have h0:0<l.length:=by omega
  rw[h24]
  by_cases hk:(aF l 0).kind=1
  ·have dk:decide ((aF l 0).kind=1)=true:=decide_eq_true hk
   by_cases h100:100<=w.outs.length
   ·have d1:decide ((100:Int)<=(w.outs.length:Int))=true:=decide_eq_true (by omega)
    have e:cX w a left 24 n.n l=bD w a 4:=by unfold cX;rw[if_neg (by decide),if_neg (fun h=>h hk),if_pos h100]
    rw[e];rcases mU with⟨rfl,hu⟩|⟨gU,rfl,eU,lU,hu⟩
    ·have:w.outs=[]:=by simpa using hu
     rw[this]at h100;simp at h100
    ·rcases mI with⟨rfl,hi⟩|⟨gI,rfl,eI,lI,hi⟩
     ·rw[hi]at hF4;simp only[go_sem,kK,q5,q8,q10,n5,h24,aS h0,dk,d1,e5,e8,eU,t1,t2,t3,bOc,bN9,hF4.ret]
     ·simp only[go_sem,kK,q5,q8,q10,n5,h24,aS h0,dk,d1,e5,e8,eU,eI,t1,t2,t3,t4,bOc,bN9,hF4.ret]
   ·have e:cX w a left 24 n.n l=cW (bT ⟨w.objs,w.tasks,w.outs++[⟨n.n,(aF l 0).n⟩],w.ins,w.used⟩ a left bL) a 24 n.n (aF l 0):=by
     unfold cX;rw[if_neg (by decide),if_neg (fun h=>h hk),if_neg h100]
    rw[e];have hB:=iX ⟨w.objs,w.tasks,w.outs++[⟨n.n,(aF l 0).n⟩],w.ins,w.used⟩ a left bL (aZj hfit (by simp only[bOr,bOh,bOo];omega) (by omega))
    have hE:=lK (bT ⟨w.objs,w.tasks,w.outs++[⟨n.n,(aF l 0).n⟩],w.ins,w.used⟩ a left bL) a 24 n.n (aF l 0);simp only[aB.cs,Val.is,bPn,bO4,bOq,bJ.enc]at hB;have hl1:w.outs.length+1<=16777216:=by omega
    rcases mU with⟨rfl,hu⟩|⟨gU,rfl,eU,lU,hu⟩
    ·have d1:decide ((100:Int)<=0)=false:=decide_eq_false (by omega)
     have hu':List.map (fun x:bJ=>Val.agg [.i x.port,.i x.n]) w.outs=[]:=hu
     have hu2:w.outs=[]:=by simpa using hu
     rw[hu2]at hB hE⊢;simp only[bOq,bPb]at hB hE⊢;rcases mI with⟨rfl,hi⟩|⟨gI,rfl,eI,lI,hi⟩
     all_goals
      try rw[hi]at hB
      simp only[go_sem,kK,q5,q8,h24,aS h0,dk,bOc,bN9]
      refine aJ ?_
      simp only[go_sem,q8,h24,aS h0,kB,bN9,bS,dU,iN,List.isEmpty_cons,bDb,kA,bOa,if_false]
      refine aJ ?_
      simp only[go_sem,q8,q10,n5,n8',h24,aS h0,e5,e8,eI,t1,t2,t4,bOc,bN9,mB.ret,hB.ret,hE.ret,kA,bOa,if_false]
    ·have d1:decide ((100:Int)<=(w.outs.length:Int))=false:=decide_eq_false (by omega)
     rcases mI with⟨rfl,hi⟩|⟨gI,rfl,eI,lI,hi⟩
     all_goals
      try rw[hi]at hB
      simp only[go_sem,kK,q5,q8,h24,aS h0,dk,d1,bOc,bN9]
      refine aJ ?_
      simp only[go_sem,q8,h24,aS h0,kB,eU,bOc,bN9,hl1,bS,dU,tR,kP,bQ9,bDb,kA,bOa,if_false]
      refine aJ ?_
      simp only[go_sem,q8,q10,n5,n8',h24,aS h0,e5,e8,eI,t1,t2,t4,bOc,bN9,bOr,bQ9,bOt,mB.ret,hB.ret,hE.ret,kA,bOa,if_false]
  ·have dk:decide ((aF l 0).kind=1)=false:=decide_eq_false hk;have e:cX w a left 24 n.n l=bD w a 2:=by unfold cX;rw[if_neg (by decide),if_pos hk]
   rw[e];rcases mU with⟨rfl,hu⟩|⟨gU,rfl,eU,lU,hu⟩<;>rcases mI with⟨rfl,hi⟩|⟨gI,rfl,eI,lI,hi⟩
   all_goals
    try rw[hu]at hF2
    try rw[hi]at hF2
    simp only[go_sem,kK,q5,q8,q10,n5,h24,aS h0,dk,e5,e8,eU,eI,t1,t2,t3,t4,bOc,bN9,hF2.ret]
theorem fC {f:aA}(hf:FOk p S w f):inR f.node 0 ((p.nodes.length:Int)-1)=true:=by
 have:=hf.ok;simp only[dA,bN8]at this;exact this.1.1
theorem oF :fN p left (k+1)=if(p.node (left.getD k default).node).op=26 then k+1 else fN p left k:=rfl
set_option maxHeartbeats 1600000 in
theorem aTd (h:cF p w0 S w)(ha:inR a 0 ((w.tasks.length:Int)-1)=true)(hl:LOk p S w left){kid:Int}(he:env.length<=30):
  PC L 185 [.agg p.cs,.agg w.cs,.i a,.fz (left.map aA.enc),.i kid,.fz (env.map aE.enc)] (.agg [.fz ((eM p w a left kid env).w.objs.map aR.enc),.fz ((eM p w a left kid env).w.tasks.map (.int .i64)),.fz ((eM p w a left kid env).w.outs.map bJ.enc),.fz ((eM p w a left kid env).w.ins.map (.int .i64)),.i (eM p w a left kid env).w.used,.i (eM p w a left kid env).what,.i (eM p w a left kid env).e.task,.i (eM p w a left kid env).e.act,.i (eM p w a left kid env).e.n,.i (eM p w a left kid env).e.v.kind,.i (eM p w a left kid env).e.v.n]):=by
 have hfit:=tY h ha;have hF3:=fL w a 3 hfit;have hF4:=fL w a 4 hfit;have hlen:=hl.len;have hwl:IntKind.i64.wrap ((left.length:Int)-1)=(left.length:Int)-1:=aY (by omega)
 have hL:=at_ Tryz.func185
 conv at hL=>rhs;reduce
 refine aH hL rfl rfl ?_
 simp only[go_sem,kK,hwl]
 refine Go.Abs.wp_loop (fun(k:Nat) st=> ∃fr en cnt,st=⟨fr,en,cnt⟩/\ fr 2= .i a/\ fr 3= .fz (left.map aA.enc)/\ fr 4= .i kid/\ fr 5= .fz (env.map aE.enc)/\ fr 6= .ptr ⟨0,6,0⟩ 0/\ en ⟨0,6,0⟩=some (.box [.fz (p.nodes.map aL.enc),.fz (p.funs.map (.int .i64)),.i p.main,.fz (p.cons.map cD.enc)] false)/\ fr 7= .ptr ⟨0,7,0⟩ 0/\ en ⟨0,7,0⟩=some (.box [.fz (w.objs.map aR.enc),.fz (w.tasks.map (.int .i64)),.fz (w.outs.map bJ.enc),.fz (w.ins.map (.int .i64)),.i w.used] false)/\ fr 12= .ptr ⟨0,12,0⟩ 0/\ en ⟨0,12,0⟩=some (.box [.cl [],.cl [],.cl [],.cl [],.i 0,.i 0,.i 0,.i 0,.i 0,.i 0,.i 0] false)/\ fr 13= .i ((k:Int)-1)/\ (cnt 0 7=1/\ cnt 0 12=1/\ cnt 0 14=0)/\ k<=left.length/\ fN p left k=fN p left left.length) (fun k=>k) left.length ⟨_,_,_,rfl,by simp only[go_sem],by simp only[go_sem],by simp only[go_sem],by simp only[go_sem],by simp only[go_sem],by simp only[go_sem],by simp only[go_sem],by simp only[go_sem],by simp only[go_sem],by simp only[go_sem],by simp only[go_sem],by simp[aC],bN9 _,rfl⟩ ?_
 rintro k st ⟨fr,en,cnt,rfl,k2,k3,k4,k5,k6,e6,k7,e7,k12,e12,k13,kc,hk,hR⟩
 cases k with
 |zero=>
  have k13':fr 13= .i (-1):=by simpa using k13
  have e:eM p w a left kid env=bD w a 3:=by unfold eM;rw[<-hR];rfl
  rw[e];simp only[go_sem,kK,k2,k7,e7,k12,e12,k13',hF3.ret]
 |succ k=>
  have k13':fr 13= .i (k:Int):=by rw[k13];congr 1;omega
  have h':k<left.length:=by omega
  have d0:decide ((0:Int)<=(k:Int))=true:=decide_eq_true (by omega)
  have hfk:=hl.ok _ (bOg h');have hgd:left.getD k default=left[k]:=by simp[bOd,h']
  have hwk:IntKind.i64.wrap ((k:Int)-1)=(k:Int)-1:=aY (by omega)
  rw[oF,hgd]at hR
  by_cases h26:(p.node left[k].node).op=26
  ·rw[if_pos h26]at hR;have d26:decide ((p.node left[k].node).op=26)=true:=decide_eq_true h26;have dneg:decide ((k:Int)<0)=false:=decide_eq_false (by omega)
   by_cases h120:120<=w.objs.length
   ·have d120:decide ((120:Int)<=(w.objs.length:Int))=true:=decide_eq_true (by omega)
    have e:eM p w a left kid env=bD w a 4:=by unfold eM;rw[<-hR];simp only;rw[if_pos h120]
    rw[e];simp only[go_sem,kK,k2,k3,k6,e6,k7,e7,k12,e12,k13',h',d0,bI (fC hfk),d26,dneg,d120,hF4.ret]
   ·have d120:decide ((120:Int)<=(w.objs.length:Int))=false:=decide_eq_false (by omega)
    have hat:=hfit.at_;have hrng:=hfit.rng;simp only[inR,bRt]at hat hrng;have hK:Fit (dW w ⟨5,0,[],left.drop k⟩) a:=aUg hfit (by omega)
    have hN:=aBa (dW w ⟨5,0,[],left.drop k⟩) a (left.take (k+1)) kid (env++[dE w.objs.length]) hK (by simp only[bPl];omega)
    have hM:=aD2 env (dE w.objs.length) (by omega)
    have hF:=fL w a (fT (dW w ⟨5,0,[],left.drop k⟩) a (left.take (k+1)) kid (env++[dE w.objs.length])).e.n hfit;have e:eM p w a left kid env=if(fT (dW w ⟨5,0,[],left.drop k⟩) a (left.take (k+1)) kid (env++[dE w.objs.length])).what=1 then bD w a (fT (dW w ⟨5,0,[],left.drop k⟩) a (left.take (k+1)) kid (env++[dE w.objs.length])).e.n else fT (dW w ⟨5,0,[],left.drop k⟩) a (left.take (k+1)) kid (env++[dE w.objs.length]):=by
     unfold eM;rw[<-hR];simp only;rw[if_neg h120]
    rw[e];generalize hD:fT (dW w ⟨5,0,[],left.drop k⟩) a (left.take (k+1)) kid (env++[dE w.objs.length])=D at hN hF⊢
    try simp only[aB.cs,Val.is]at hN
    rw[show((dW w ⟨5,0,[],left.drop k⟩).objs.map aR.enc)=w.objs.map aR.enc++[aR.enc ⟨5,0,[],left.drop k⟩]from by simp[dW]]at hN
    simp only[dW,bOq,aR.enc]at hN;have hde:(left.drop k).isEmpty=false:=aJl (by simp only[bQk];omega)
    have hdl:(left.drop k).length<=16777216:=by simp only[bQk];omega
    have hkl:k<=left.length:=by omega
    have hkl1:k+1<=left.length:=by omega
    have hol:w.objs.length+1<=16777216:=by omega
    have hwr:IntKind.i64.wrap (((w.objs.length+1:Nat):Int)-1)=(w.objs.length:Int):=by rw[aY (by omega)];omega
    have hwk1:IntKind.i64.wrap ((k:Int)+1)=((k+1:Nat):Int):=by rw[aY (by omega)];omega
    obtain⟨c7,c12,c14⟩:=kc;simp only[go_sem,kK,k3,k6,e6,k7,e7,k12,e12,k13',h',d0,bI (fC hfk),d26,dneg,d120,c14]
    refine(aEa w (by omega) (by omega) hfit.len (aAd _ _ w)).mono ?_
    rintro x en1 cnt1 ⟨⟨g5,g8,vU,vI,rfl,e5,l5,m5,e8,l8,m8,mU,mI⟩,old,up⟩
    have q7:=old 7 0 (by simp[aC];omega)
    have q12:=old 12 0 (by simp[aC];omega)
    have q14:=old 14 0 (by simp[aC])
    try simp only[go_sem,e7,e12]at q7 q12 q14
    have eU:=True.intro;have eI:=True.intro;have t2:((w.tasks.map (Val.int .i64)).take w.tasks.length)=w.tasks.map (.int .i64):=bOt (by simp)
    have t3:((w.outs.map bJ.enc).take w.outs.length)=w.outs.map bJ.enc:=bOt (by simp)
    have t4:((w.ins.map (Val.int .i64)).take w.ins.length)=w.ins.map (.int .i64):=bOt (by simp)
    obtain⟨g15,hg15⟩: ∃g,g=cnt1 0 15:=⟨_,rfl⟩
    simp only[go_sem,q7]
    refine aJ ?_
    simp only[go_sem,k3,k7,k13',e5,aIu,iQ,hkl,<-bQ1,bS,dU,iN,tR,kP,gX,hde,hdl,hol,bDd,bOc,bN9,bOt,tQ,mK,kA,bOa,if_false];have n14: ∀{g:Nat},g<cnt1 0 14->True:=fun _=>trivial
    by_cases hw:D.what=1
    ·have dw:decide (D.what=1)=true:=decide_eq_true hw;rw[if_pos hw];rcases mU with⟨rfl,hu⟩|⟨gU,rfl,eU,lU,hu⟩<;>rcases mI with⟨rfl,hi⟩|⟨gI,rfl,eI,lI,hi⟩
     all_goals
      try rw[hu]at hN
      try rw[hi]at hN
      have nI:=True.intro
      try(have nI: ¬0=gI:=by(rintro rfl;rw[q14]at eI;cases eI))
      refine aJ ?_
      simp only[go_sem,kK,k2,k3,k4,k5,k7,k13',e8,eU,eI,t2,t3,t4,tH,hkl1,hwk1,<-bP0,bOc,bOr,bQ9,bN9,bOt,hwr,(aJm _).ret,hM.ret,hN.ret,<-hg15,kA,bOa,if_false];simp only[go_sem,kK,k2,k12,q12,q14,nI,dw,hF.ret]
    ·have dw:decide (D.what=1)=false:=decide_eq_false hw;rw[if_neg hw];rcases mU with⟨rfl,hu⟩|⟨gU,rfl,eU,lU,hu⟩<;>rcases mI with⟨rfl,hi⟩|⟨gI,rfl,eI,lI,hi⟩
     all_goals
      try rw[hu]at hN
      try rw[hi]at hN
      have nI:=True.intro
      try(have nI: ¬0=gI:=by(rintro rfl;rw[q14]at eI;cases eI))
      refine aJ ?_
      simp only[go_sem,kK,k2,k3,k4,k5,k7,k13',e8,eU,eI,t2,t3,t4,tH,hkl1,hwk1,<-bP0,bOc,bOr,bQ9,bN9,bOt,hwr,(aJm _).ret,hM.ret,hN.ret,<-hg15,kA,bOa,if_false];simp only[go_sem,k12,q12,dw]
  ·rw[if_neg h26]at hR;have d26:decide ((p.node left[k].node).op=26)=false:=decide_eq_false h26;simp only[go_sem,kK,k3,k6,e6,k13',h',d0,bI (fC hfk),d26,hwk]
   refine⟨k,⟨_,_,_,rfl,?_⟩,Nat.lt_succ_self _⟩
   simp only[go_sem,k2,k3,k4,k5,k6,e6,k7,e7,k12,e12];exact⟨kc,by omega,hR⟩
structure bE5 (p:aI) (w:aB) (a:Int) (left:List aA) (f:aE) (fr:Nat->Val) (en:En) (cnt:Nat->Nat->Nat) (o:aR) (oa ob:Val):Prop where
 form:o.form=6
 n:o.n=0
 pa:aBw oa (.fz (o.vals.map aE.enc))
 pb:aBw ob (.fz (o.frames.map aA.enc))
 is:dX p w a left f=yN w a left o
 k2:fr 2= .i a
 k3:fr 3= .fz (left.map aA.enc)
 k6:fr 6= .ptr ⟨0,6,0⟩ 0
 e6:en ⟨0,6,0⟩=some (.box [.fz (w.objs.map aR.enc),.fz (w.tasks.map (.int .i64)),.fz (w.outs.map bJ.enc),.fz (w.ins.map (.int .i64)),.i w.used] false)
 k10:fr 10= .ptr ⟨0,10,0⟩ 0
 e10:en ⟨0,10,0⟩=some (.box [.cl [],.cl [],.cl [],.cl [],.i 0,.i 0,.i 0,.i 0,.i 0,.i 0,.i 0] false)
 k11:fr 11= .ptr ⟨0,11,0⟩ 0
 e11:en ⟨0,11,0⟩=some (.box [.i 6,.i 0,oa,ob] false)
 c6:cnt 0 6=1
 c10:cnt 0 10=1
def bBo (p:aI)(w:aB)(a:Int)(left:List aA)(f:aE)(st:St):Prop:= ∃o oa ob,bE5 p w a left f st.fr st.en st.cnt o oa ob
set_option maxHeartbeats 1600000 in
theorem aTe (hp:dV p)(h:cF p w0 S w)(ha:inR a 0 ((w.tasks.length:Int)-1)=true){f:aE}(hf:VOk p S w f):
  PC L 187 [.agg p.cs,.agg w.cs,.i a,.fz (left.map aA.enc),.agg [.i f.kind,.i f.n]] (.agg [.fz ((dX p w a left f).w.objs.map aR.enc),.fz ((dX p w a left f).w.tasks.map (.int .i64)),.fz ((dX p w a left f).w.outs.map bJ.enc),.fz ((dX p w a left f).w.ins.map (.int .i64)),.i (dX p w a left f).w.used,.i (dX p w a left f).what,.i (dX p w a left f).e.task,.i (dX p w a left f).e.act,.i (dX p w a left f).e.n,.i (dX p w a left f).e.v.kind,.i (dX p w a left f).e.v.n]):=by
 have hfit:=tY h ha;have hO:=oD w f 5 (fH hf);have hF4:=fL w a 4 hfit;have hF2:=fL w a 2 hfit;have hB:=aQ9 hp h hf (pP (p:=p) (S:=S) (w:=w));have hL:=at_ Tryz.func187
 conv at hL=>rhs;reduce
 refine aH hL rfl rfl ?_
 simp only[go_sem,aCc,Go.Abs.start]
 refine aA5 (bBo p w a left f) ?_ ?_
 ·by_cases h5:cV w f 5=true
  ·rw[tW,if_pos h5,h5]at hO;simp only[go_sem,kK,hO.ret]
   refine aJ ?_
   simp only[go_sem,mB.ret,pE,kO,kA,bOa,if_false];exact⟨⟨6,0,[bL],(w.obj f.n).frames⟩,.cl [.agg [.i bL.kind,.i bL.n]],.fz ((w.obj f.n).frames.map aA.enc),⟨rfl,rfl,aEb _,rB _,by unfold dX;rw[if_pos h5],by simp only[go_sem],by simp only[go_sem],by simp only[go_sem],by simp only[go_sem],by simp only[go_sem],by simp only[go_sem],by simp only[go_sem],by simp only[go_sem],by simp[aC],by simp[aC]⟩⟩
  ·rw[bPf]at h5;rw[h5]at hO;cases hb:eZ p w f bL with
   |none=>
    have e:dX p w a left f=bD w a 2:=by unfold dX;rw[if_neg (by rw[h5];decide),hb]
    rw[hb]at hB;rw[e];simp only[go_sem,kK,hO.ret]
    refine aJ ?_
    simp only[go_sem,kK,mB.ret,hB.ret,bQb,kA,bOa,if_false];simp only[go_sem,hF2.ret]
   |some b=>
    have hv:vL p w f bL=b:=by rw[vL,hb];rfl
    rw[hb,hv]at hB;obtain⟨b1,b2,b3⟩:=aCk hp h hf pP hb
    by_cases h30:30<b.env.length
    ·have d30:decide ((30:Int)<(b.env.length:Int))=true:=decide_eq_true (by omega)
     have e:dX p w a left f=bD w a 4:=by unfold dX;rw[if_neg (by rw[h5];decide),hb];simp only;rw[if_pos h30]
     rw[e];simp only[go_sem,kK,hO.ret]
     refine aJ ?_
     simp only[go_sem,kK,mB.ret,hB.ret,bP2,kA,bOa,if_false];simp only[go_sem,kK,d30,hF4.ret]
    ·have d30:decide ((30:Int)<(b.env.length:Int))=false:=decide_eq_false (by omega)
     have e:dX p w a left f=yN w a left ⟨6,0,[],[b]⟩:=by unfold dX;rw[if_neg (by rw[h5];decide),hb];simp only;rw[if_neg h30]
     simp only[go_sem,kK,hO.ret]
     refine aJ ?_
     simp only[go_sem,kK,mB.ret,hB.ret,bP2,kA,bOa,if_false];simp only[go_sem,d30,pE,kO];exact⟨⟨6,0,[],[b]⟩,.cl [],.cl [.agg [.i b.node,.fz (b.env.map aE.enc),.fz (b.vals.map aE.enc)]],⟨rfl,rfl,aEb _,aEb _,e,by simp only[go_sem],by simp only[go_sem],by simp only[go_sem],by simp only[go_sem],by simp only[go_sem],by simp only[go_sem],by simp only[go_sem],by simp only[go_sem],by simp[aC],by simp[aC]⟩⟩
 ·rintro fr en cnt ⟨o,oa,ob,hs⟩
  obtain⟨of_,on,pa,pb,is,k2,k3,k6,e6,k10,e10,k11,e11,c6,c10⟩:=hs;dsimp only at k2 k3 k6 e6 k10 e10 k11 e11 c6 c10;have hF:=aRa w a left o (rB _) pa pb hfit (en:=en) (cnt:=cnt);rw[of_,on]at hF;rw[is];simp only[go_sem,kK,k2,k3,k6,e6,k11,e11]
  refine hF.mono ?_
  rintro x en1 cnt1 (⟨h120,rfl,old,up⟩|⟨h120,hO1⟩)
  ·have q10:=old 10 0 (by omega)
   rw[e10]at q10;obtain⟨g16,hg16⟩: ∃g,g=cnt1 0 16:=⟨_,rfl⟩
   have e:yN w a left o=cW (bD w a 4) a 19 0 bL:=by
    unfold yN gS;simp only[if_pos h120];rw[if_pos (show(bD w a 4).what=1 from rfl)]
   rw[e];have hE:=lK (bD w a 4) a 19 0 bL;have dw:decide ((bD w a 4).what=1)=true:=rfl;simp only[go_sem,kK,<-hg16,dw]
   refine aJ ?_
   simp only[go_sem,k2,k10,q10,mB.ret,hE.ret,kA,bOa,if_false]
  ·have q10:=hO1.old 10 0 (by omega)
   rw[e10]at q10;obtain⟨g16,hg16⟩: ∃g,g=cnt1 0 16:=⟨_,rfl⟩
   obtain⟨g71,hg71⟩: ∃g,g=cnt1 0 71:=⟨_,rfl⟩
   have e:yN w a left o=cW ⟨pK (bT (dW w o) a left (dE w.objs.length)).w,0,gR⟩ a 19 0 bL:=by
    unfold yN gS;simp only[if_neg (show¬120<=w.objs.length by omega)];rw[if_neg (by simp[bT])];rfl
   rw[e];have hE:=lK ⟨pK (bT (dW w o) a left (dE w.objs.length)).w,0,gR⟩ a 19 0 bL
   try simp only[]at hE
   have hle:(bT (dW w o) a left (dE w.objs.length)).w.objs.length=w.objs.length+1:=by simp only[bT,pN,mD]
   have hlt:(bT (dW w o) a left (dE w.objs.length)).w.tasks.length=w.tasks.length:=rfl;have hfl:=hfit.len;generalize hW:(bT (dW w o) a left (dE w.objs.length)).w=W at hO1 hE hle hlt⊢;obtain⟨⟨g5,g8,vU,vI,rfl,e5,l5,m5,e8,l8,m8,mU,mI⟩,old,up⟩:=hO1;have hwr:IntKind.i64.wrap ((W.objs.length:Int)-1)=(W.objs.length:Int)-1:=aY (by omega)
   have hl16:W.tasks.length+1<=16777216:=by omega
   have t1:((W.objs.map aR.enc).take W.objs.length)=W.objs.map aR.enc:=bOt (by simp)
   have t3:((W.outs.map bJ.enc).take W.outs.length)=W.outs.map bJ.enc:=bOt (by simp)
   have t4:((W.ins.map (Val.int .i64)).take W.ins.length)=W.ins.map (.int .i64):=bOt (by simp)
   simp only[pK,gR,kR,bPn,bO4,bOq]at hE;have eU:=True.intro;have eI:=True.intro;rcases mU with⟨rfl,hu⟩|⟨gU,rfl,eU,lU,hu⟩<;>rcases mI with⟨rfl,hi⟩|⟨gI,rfl,eI,lI,hi⟩
   all_goals
    try rw[hu]at hE
    try rw[hi]at hE
    simp only[go_sem,kK,<-hg16,<-hg71,e8,kB,hwr,bS,dU,tR,kP,aZd,hl16,bOc,bN9]
    refine aJ ?_
    simp only[go_sem,k2,k10,q10,e5,eU,eI,t1,t3,t4,bOc,bOr,bQ9,bOt,bN9,mB.ret,hE.ret,kA,bOa,if_false];rfl
end Go.Proofs.YtmnchlhngpdffaaGreat
