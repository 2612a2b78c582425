/- The interpreter of the translated code, and its proof: part C. -/
import Derived.Test.YtcoemakddkfdcaaGreatHxB
import Derived.OrdersIn
import Derived.LoopNIn
import Derived.RangeFuncNested
import Derived.Scope
import Derived.RecoverIn
import Derived.KernelRfl
import Derived.ProofKit
import Derived.OpenShut
import Derived.JoinedOf
set_option linter.all false
namespace Go.Abs
def effO (o : LOper) (r : Res) (st : St) : St :=
 { fr := putFr st.fr o.dst r.v,en := match r.mem with | some p => fun k => if r.unch k = true then st.en k else p.1 k | none => W.applyAll st.en r.ws,cnt := match r.mem with | some p => p.2 | none => if r.bump then setCnt st.cnt (o.op.me 0) (o.dst.getD 0) (st.cnt (o.op.me 0) (o.dst.getD 0) + 1) else st.cnt }
def Res.quiet (r : Res) : Prop := r.ws = [] ∧ r.bump = false ∧ r.mem = none
theorem step_eff {n : Nat} {call : CallFn} {io : Inl} {st st' : St} {o : LOper} {r : Res} (h : step n call io 0 st o = some (st',r)) :
  st' = effO o r st ∧ (r.bump = true → o.dst.isSome = true) ∧ (o.op.writesMem = false → r.quiet) ∧ (o.op.readsMem = false → r.rs = []) := by
 simp only [step] at h
 split at h
 ·simp only [Option.some.injEq,Prod.mk.injEq] at h
  obtain ⟨rfl,rfl⟩ := h
  exact ⟨rfl,by simp,fun _ => ⟨rfl,rfl,rfl⟩,fun _ => rfl⟩
 ·split at h
  ·rename_i f args hop
   split at h
   case h_2 => cases h
   rename_i v st1 hc
   simp only [Option.some.injEq,Prod.mk.injEq] at h
   obtain ⟨rfl,rfl⟩ := h
   refine ⟨?_,by simp,fun hw => by rw [hop] at hw; simp [LOp.writesMem] at hw,fun _ => rfl⟩
   simp only [effO]
   congr 1
   funext k
   split
   ·rename_i hk; exact (sameE_eq hk).symm
   ·rfl
  ·split at h
   case h_2 => cases h
   rename_i r' hev
   split at h
   ·cases h
   rename_i hb
   simp only [Option.some.injEq,Prod.mk.injEq] at h
   obtain ⟨rfl,rfl⟩ := h
   refine ⟨by simp only [effO,eval_mem hev],fun h => ?_,fun hw => ⟨eval_nowrite hev hw,eval_nobump hev hw,eval_mem hev⟩,eval_noread hev⟩
   rw [h] at hb
   cases ho : o.dst with
   | none => rw [ho] at hb; simp at hb
   | some d => rfl
 ·cases h
structure Like (o : LOper) (r : Res) (s s' : St) : Prop where
 fr : ∀ t ∈ o.uses,s.fr t = s'.fr t
 en : ∀ ρ ∈ r.rs,Same s.en s'.en ρ
 cnt : r.bump = true → ∀ d,o.dst = some d → s.cnt (o.op.me 0) d = s'.cnt (o.op.me 0) d
 all : r.mem.isSome = true → s.en = s'.en ∧ s.cnt = s'.cnt
theorem Like.refl (o : LOper) (r : Res) (s : St) : Like o r s s := ⟨fun _ _ => rfl,fun _ _ => Same.refl _ _,fun _ _ _ => rfl,fun _ => ⟨rfl,rfl⟩⟩
theorem Like.trans {o : LOper} {r : Res} {a b c : St} (h : Like o r a b) (k : Like o r b c) : Like o r a c :=
 ⟨fun t ht => (h.fr t ht).trans (k.fr t ht),fun ρ hρ => (h.en ρ hρ).trans (k.en ρ hρ),fun hb d hd => (h.cnt hb d hd).trans (k.cnt hb d hd),fun hm => ⟨(h.all hm).1.trans (k.all hm).1,(h.all hm).2.trans (k.all hm).2⟩⟩
theorem Like.symm {o : LOper} {r : Res} {a b : St} (h : Like o r a b) : Like o r b a :=
 ⟨fun t ht => (h.fr t ht).symm,fun ρ hρ => (h.en ρ hρ).symm,fun hb d hd => (h.cnt hb d hd).symm,fun hm => ⟨(h.all hm).1.symm,(h.all hm).2.symm⟩⟩
theorem step_like {n : Nat} {call : CallFn} {io : Inl} {st st' st2 : St} {o : LOper} {r : Res} (h : step n call io 0 st o = some (st',r)) (hl : Like o r st st2) : step n call io 0 st2 o = some (effO o r st2,r) := by
 have hw : wanted st2.fr o.guard = wanted st.fr o.guard := by
  cases hg : o.guard with
  | none => rfl
  | some p =>
   obtain ⟨t,b⟩ := p
   simp only [wanted]
   rw [hl.fr t (by simp [LOper.uses,hg])]
 have hgt : ∀ x ∈ o.op.opds,St.get st2.fr x = St.get st.fr x := by
  intro x hx
  cases x with
  | t i => exact (hl.fr i (by simp only [LOper.uses,List.mem_append,List.mem_flatMap]; exact .inl ⟨_,hx,by simp [Opd.tmp]⟩)).symm
  | c v => rfl
  | f i => rfl
  | m tbl i => simp only [St.get]; rw [(hl.fr i (by simp only [LOper.uses,List.mem_append,List.mem_flatMap]; exact .inl ⟨_,hx,by simp [Opd.tmp]⟩)).symm]
 simp only [step] at h ⊢
 rw [hw]
 split at h
 ·simp only [Option.some.injEq,Prod.mk.injEq] at h
  obtain ⟨_,rfl⟩ := h
  rfl
 ·split at h
  ·rename_i f args hop
   split at h
   case h_2 => cases h
   rename_i v st1 hc
   simp only [Option.some.injEq,Prod.mk.injEq] at h
   obtain ⟨_,rfl⟩ := h
   obtain ⟨e1,e2⟩ := hl.all rfl
   rw [hgt f (by simp [hop,LOp.opds]),show args.map (St.get st2.fr) = args.map (St.get st.fr) from List.map_congr_left fun p hp => hgt p (by simp [hop,LOp.opds,hp]),← e1,← e2,hc]
   simp only [effO,← e1]
   congr 3
   funext k
   split
   ·rename_i hk; exact (sameE_eq hk).symm
   ·rfl
  ·rename_i hni
   split at h
   case h_2 => cases h
   rename_i r' hev
   split at h
   ·cases h
   rename_i hb
   simp only [Option.some.injEq,Prod.mk.injEq] at h
   obtain ⟨_,rfl⟩ := h
   have hev2 : eval n call (o.op.me 0) (o.dst.getD 0) (st2.cnt (o.op.me 0) (o.dst.getD 0)) st2.en (St.get st2.fr) o.op = some r' := by
    have h1 := eval_frame hev hgt hl.en
    cases hbb : r'.bump with
    | false => exact eval_g h1 hbb _
    | true =>
     cases hd : o.dst with
     | some d => rw [hd] at h1; simp only [Option.getD_some] at h1 ⊢; rw [← hl.cnt hbb d hd]; exact h1
     | none => rw [hd,hbb] at hb; simp at hb
   rw [hev2]
   simp only [if_neg hb]
   simp only [effO,eval_mem hev]
 ·cases h
structure Free (o o' : LOper) (r r' : Res) : Prop where
 dst : ∀ d,o.dst = some d → o'.dst ≠ some d
 use : ∀ d,o.dst = some d → d ∉ o'.uses
 use' : ∀ d,o'.dst = some d → d ∉ o.uses
 ww : ∀ w ∈ r.ws,∀ w' ∈ r'.ws,apartWW w w' = true
 wr : ∀ w ∈ r.ws,∀ ρ ∈ r'.rs,apartWR w ρ = true
 rw : ∀ w ∈ r'.ws,∀ ρ ∈ r.rs,apartWR w ρ = true
 m1 : r.mem.isSome = true → r'.quiet ∧ ∀ ρ ∈ r'.rs,r.unch ρ.key = true
 m2 : r'.mem.isSome = true → r.quiet ∧ ∀ ρ ∈ r.rs,r'.unch ρ.key = true
theorem setFr_comm {fr : Nat → Val} {d d' : Nat} {u v : Val} (h : d ≠ d') : setFr (setFr fr d u) d' v = setFr (setFr fr d' v) d u := by
 funext i
 simp only [setFr]
 by_cases h1 : i = d'
 ·subst h1
  rw [if_pos rfl,if_neg fun e : i = d => h e.symm,if_pos rfl]
 ·rw [if_neg h1,if_neg h1]
theorem putFr_comm {fr : Nat → Val} {d d' : Option Nat} {u v : Val} (h : ∀ x,d = some x → d' ≠ some x) : putFr (putFr fr d u) d' v = putFr (putFr fr d' v) d u := by
 cases d with
 | none => rfl
 | some d =>
  cases d' with
  | none => rfl
  | some d' => exact setFr_comm fun e => h d rfl (by rw [e])
theorem putFr_other {fr : Nat → Val} {d : Option Nat} {v : Val} {t : Nat} (h : ∀ x,d = some x → t ≠ x) : putFr fr d v t = fr t := by
 cases d with
 | none => rfl
 | some d => simp only [putFr,setFr]; rw [if_neg (h d rfl)]
theorem Free.comm {o o' : LOper} {r r' : Res} (h : Free o o' r r') (hb : r.bump = true → o.dst.isSome = true) (hb' : r'.bump = true → o'.dst.isSome = true) (s : St) :
  effO o' r' (effO o r s) = effO o r (effO o' r' s) := by
 simp only [effO]
 cases hm : r.mem with
 | some p =>
  obtain ⟨⟨q1,q2,q3⟩,_⟩ := h.m1 (by rw [hm]; rfl)
  simp only [q1,q2,q3,W.applyAll,List.foldl_nil,Bool.false_eq_true,if_false]
  rw [putFr_comm h.dst]
 | none =>
  cases hm' : r'.mem with
  | some p =>
   obtain ⟨⟨q1,q2,_⟩,_⟩ := h.m2 (by rw [hm']; rfl)
   simp only [q1,q2,W.applyAll,List.foldl_nil,Bool.false_eq_true,if_false]
   rw [putFr_comm h.dst]
  | none =>
   simp only
   congr 1
   ·exact putFr_comm h.dst
   ·exact applyAll_comm _ _ _ h.ww
   ·by_cases hbb : r.bump = true
    ·by_cases hbb' : r'.bump = true
     ·obtain ⟨d,hd⟩ := Option.isSome_iff_exists.1 (hb hbb)
      obtain ⟨d',hd'⟩ := Option.isSome_iff_exists.1 (hb' hbb')
      have hne : d ≠ d' := fun e => h.dst d hd (by rw [hd',e])
      simp only [hbb,hbb',if_true,hd,hd',Option.getD_some]
      funext n t
      simp only [setCnt]
      by_cases h1 : n = o'.op.me 0 ∧ t = d'
      ·obtain ⟨rfl,rfl⟩ := h1
       have h3 : ¬ t = d := fun e => hne e.symm
       simp [h3]
      ·by_cases h2 : n = o.op.me 0 ∧ t = d
       ·obtain ⟨rfl,rfl⟩ := h2
        simp [hne]
       ·simp [h1,h2]
     ·simp [hbb']
    ·simp [hbb]
theorem same_of_key {en en' : En} {ρ : R} (h : en ρ.key = en' ρ.key) : Same en en' ρ := by
 cases ρ <;> simp only [Same,R.key] at h ⊢ <;> rw [h]
theorem like_gen {o o' : LOper} {r r' : Res} (hd : ∀ d,o.dst = some d → o'.dst ≠ some d) (hu : ∀ d,o.dst = some d → d ∉ o'.uses) (hwr : ∀ w ∈ r.ws,∀ ρ ∈ r'.rs,apartWR w ρ = true)
  (h1 : r.mem.isSome = true → r'.quiet ∧ ∀ ρ ∈ r'.rs,r.unch ρ.key = true) (h2 : r'.mem.isSome = true → r.quiet ∧ ∀ ρ ∈ r.rs,r'.unch ρ.key = true) (hb : r.bump = true → o.dst.isSome = true) (s : St) : Like o' r' (effO o r s) s := by
 refine ⟨fun t ht => ?_,fun ρ hρ => ?_,fun hbump d hd' => ?_,fun hm => ?_⟩
 ·exact putFr_other fun x hx e => hu x hx (e ▸ ht)
 ·simp only [effO]
  cases hm : r.mem with
  | some p => have hu := (h1 (by rw [hm]; rfl)).2 ρ hρ; exact same_of_key (by simp only [hu,if_true])
  | none => exact applyAll_same _ _ _ fun w hw => hwr w hw ρ hρ
 ·simp only [effO]
  cases hm : r.mem with
  | some p => have := (h1 (by rw [hm]; rfl)).1.2.1; rw [hbump] at this; cases this
  | none =>
   simp only
   split
   ·rename_i hbb
    obtain ⟨d0,hd0⟩ := Option.isSome_iff_exists.1 (hb hbb)
    simp only [hd0,Option.getD_some,setCnt]
    rw [if_neg]
    rintro ⟨_,rfl⟩
    exact hd _ hd0 hd'
   ·rfl
 ·obtain ⟨⟨q1,q2,q3⟩,_⟩ := h2 hm
  simp only [effO,q1,q2,q3,W.applyAll,List.foldl_nil,Bool.false_eq_true,if_false,and_self]
theorem Free.like {o o' : LOper} {r r' : Res} (h : Free o o' r r') (hb : r.bump = true → o.dst.isSome = true) (s : St) : Like o' r' (effO o r s) s :=
 like_gen h.dst h.use h.wr h.m1 h.m2 hb s
theorem Free.like' {o o' : LOper} {r r' : Res} (h : Free o o' r r') (hb : r'.bump = true → o'.dst.isSome = true) (s : St) : Like o r (effO o' r' s) s :=
 like_gen (fun d hd hd' => h.dst d hd' hd) h.use' h.rw h.m2 h.m1 hb s
structure Run (n : Nat) (call : CallFn) (io : Inl) (l : Nat → LOper) (r : Nat → Res) (N : Nat) (st : St) (s : Nat → St) : Prop where
 zero : s 0 = st
 step : ∀ i,i < N → step n call io 0 (s i) (l i) = some (s (i + 1),r i)
theorem Run.fold {n : Nat} {call : CallFn} {io : Inl} {l : Nat → LOper} {r : Nat → Res} {N : Nat} {st : St} {s : Nat → St} (h : Run n call io l r N st s) :
  ∀ i,i ≤ N → s i = foldE (fun k => effO (l k) (r k)) (fun _ => true) st i
 | 0,_ => h.zero
 | i + 1,hi => by
  simp only [foldE,if_true]
  rw [← h.fold i (by omega)]
  exact (step_eff (h.step i (by omega))).1
theorem fold_below {σ : Type} {E : Nat → σ → σ} {s : σ} {i : Nat} : ∀ {N : Nat},i ≤ N → foldE E (fun k => decide (k < i)) s N = foldE E (fun _ => true) s i
 | 0,h => by
  have : i = 0 := by omega
  subst this; rfl
 | N + 1,h => by
  by_cases hi : i = N + 1
  ·subst hi; exact foldE_congr fun k hk => by simp [hk]
  ·simp only [foldE]
   rw [if_neg (by simp; omega),fold_below (by omega)]
theorem draw_step {n : Nat} {call : CallFn} {io : Inl} {l : Nat → LOper} {r : Nat → Res} {N : Nat} {st : St} {s : Nat → St} (h : Run n call io l r N st s) {ord : Nat → Nat → Prop} (hord : ∀ i j,ord i j → i < j)
  (hfree : ∀ i j,i < j → j < N → ¬ ord i j → Free (l i) (l j) (r i) (r j)) {L : Nat → Bool} (hcl : ∀ j,j < N → L j = true → ∀ i,ord i j → L i = true) {i : Nat} (hi : i < N) (hL : L i = false) (hr : ∀ k,ord k i → L k = true) :
  step n call io 0 (foldE (fun k => effO (l k) (r k)) L st N) (l i) = some (foldE (fun k => effO (l k) (r k)) (fun k => k == i || L k) st N,r i) := by
 have hb : ∀ k,k < N → (r k).bump = true → (l k).dst.isSome = true := fun k hk => (step_eff (h.step k hk)).2.1
 have comm : ∀ j k,j < k → k < N → ¬ ord j k → ∀ s,effO (l k) (r k) (effO (l j) (r j) s) = effO (l j) (r j) (effO (l k) (r k) s) :=
  fun j k hjk hk ho s => (hfree j k hjk hk ho).comm (hb j (by omega)) (hb k hk) s
 have a : Like (l i) (r i) (s i) (foldE (fun k => effO (l k) (r k)) (fun k => decide (k < i) && L k) st N) := by
  have h1 := foldE_drop (E := fun k => effO (l k) (r k)) (L := fun k => decide (k < i)) (s := st) (n := N) (Like (l i) (r i)) (Like.refl _ _) (fun _ _ _ => Like.trans) L N (Nat.le_refl _) (fun j hj h1 h2 => by
   simp only [decide_eq_true_eq] at h1
   have ho : ¬ ord j i := fun ho => by rw [hr j ho] at h2; cases h2
   refine ⟨(hfree j i h1 hi ho).like (hb j hj),fun k hjk hk h3 h4 => comm j k hjk hk fun ho => ?_⟩
   rw [hcl k hk h4 j ho] at h2; cases h2)
  rw [foldE_congr (L' := fun k => decide (k < i)) fun k hk => by simp [hk],fold_below (by omega),← h.fold i (by omega)] at h1
  exact h1
 have b : Like (l i) (r i) (foldE (fun k => effO (l k) (r k)) L st N) (foldE (fun k => effO (l k) (r k)) (fun k => decide (k < i) && L k) st N) := by
  have h1 := foldE_drop (E := fun k => effO (l k) (r k)) (L := L) (s := st) (n := N) (Like (l i) (r i)) (Like.refl _ _) (fun _ _ _ => Like.trans) (fun k => decide (k < i)) N (Nat.le_refl _) (fun j hj h1 h2 => by
   simp only [decide_eq_false_iff_not] at h2
   have hne : j ≠ i := by rintro rfl; rw [hL] at h1; cases h1
   have hij : i < j := by omega
   have ho : ¬ ord i j := fun ho => by rw [hcl j hj h1 i ho] at hL; cases hL
   refine ⟨(hfree i j hij hj ho).like' (hb j hj),fun k hjk hk h3 h4 => ?_⟩
   simp only [decide_eq_true_eq] at h4
   omega)
  rw [foldE_congr (L' := L) fun k hk => by simp [hk],foldE_congr (L' := fun k => decide (k < i) && L k) (fun k hk => Bool.and_comm _ _)] at h1
  exact h1
 rw [step_like (h.step i hi) (a.trans b.symm)]
 congr 2
 refine (foldE_put hL hi fun k hik hk hLk s => comm i k hik hk (fun ho => ?_) s).symm
 rw [hcl k hk hLk i ho] at hL; cases hL
end Go.Abs
namespace Go.Abs
open Go.RowKit (Below)
variable [Inhabited Glob]
def noRes : Res := { v := .tup [] }
theorem run_of_rec {n : Nat} {call : CallFn} {io : Inl} : ∀ {l : List LOper} {st stn : St} {rs : List Res},runRec n call io 0 l st = some (stn,rs) →
  rs.length = l.length ∧ ∃ s,Run n call io (fun i => l.getD i default) (fun i => rs.getD i noRes) l.length st s ∧ s l.length = stn
 | [],st,stn,rs,h => by
  simp only [runRec,Option.some.injEq,Prod.mk.injEq] at h
  obtain ⟨rfl,rfl⟩ := h
  exact ⟨rfl,fun _ => st,⟨rfl,fun i hi => by simp at hi⟩,rfl⟩
 | o :: l,st,stn,rs,h => by
  simp only [runRec] at h
  split at h
  case h_2 => cases h
  rename_i st' r hs
  split at h
  case h_2 => cases h
  rename_i st'' rs' hr
  simp only [Option.some.injEq,Prod.mk.injEq] at h
  obtain ⟨rfl,rfl⟩ := h
  obtain ⟨hl,s,⟨h0,h1⟩,h2⟩ := run_of_rec hr
  refine ⟨by simp [hl],fun i => match i with | 0 => st | i + 1 => s i,⟨rfl,fun i hi => ?_⟩,h2⟩
  match i with
  | 0 => simpa [h0] using hs
  | i + 1 => simpa using h1 i (by simpa using hi)
def direct (o : Oper) : List Nat := (o.after.toList.filter (Region.binds .any)).map (·.on)
theorem ancsGo_spec : ∀ {l : List Oper} {acc an : List (List Nat)},ancsGo l acc = some an → (∀ k,k < acc.length → an.getD k [] = acc.getD k []) ∧
  ∀ m (h : m < l.length),(∀ k ∈ direct l[m],k < acc.length + m) ∧ ∀ i ∈ an.getD (acc.length + m) [],∃ k ∈ direct l[m],i = k ∨ i ∈ an.getD k []
 | [],acc,an,h => by
  simp only [ancsGo,Option.some.injEq] at h; subst h
  exact ⟨fun _ _ => rfl,fun m hm => by simp at hm⟩
 | o :: l,acc,an,h => by
  simp only [ancsGo] at h
  split at h
  case isFalse => cases h
  rename_i hd
  obtain ⟨h1,h2⟩ := ancsGo_spec h
  have hpre : ∀ k,k < acc.length → an.getD k [] = acc.getD k [] := fun k hk => by
   rw [h1 k (by simp; omega)]; simp [List.getD_eq_getElem?_getD,List.getElem?_append_left hk]
  have hdir : ∀ k ∈ direct o,k < acc.length := fun k hk => by simpa using List.all_eq_true.1 hd k hk
  refine ⟨hpre,fun m hm => ?_⟩
  match m with
  | 0 =>
   refine ⟨fun k hk => by simpa using hdir k hk,fun i hi => ?_⟩
   rw [Nat.add_zero,h1 acc.length (by simp)] at hi
   simp only [List.getD_eq_getElem?_getD,List.getElem?_append_right (Nat.le_refl _),Nat.sub_self,List.getElem?_cons_zero,Option.getD_some,List.mem_eraseDups,List.mem_append,List.mem_flatMap] at hi
   rcases hi with hi | ⟨k,hk,hi⟩
   ·exact ⟨i,hi,.inl rfl⟩
   ·exact ⟨k,hk,.inr (by rw [hpre k (hdir k hk),List.getD_eq_getElem?_getD]; exact hi)⟩
  | m + 1 =>
   have := h2 m (by simpa using hm)
   simp only [List.length_append,List.length_cons,List.length_nil] at this
   rw [show acc.length + (0 + 1) + m = acc.length + (m + 1) by omega] at this
   simpa using this
theorem ancs_spec {ops : Array Oper} {an : List (List Nat)} (h : ancs ops = some an) {j : Nat} {o : Oper} (ho : ops[j]? = some o) :
  (∀ k ∈ direct o,k < j) ∧ ∀ i ∈ an.getD j [],∃ k ∈ direct o,i = k ∨ i ∈ an.getD k [] := by
 obtain ⟨hj,ho'⟩ := Array.getElem?_eq_some_iff.1 ho
 have := (ancsGo_spec h).2 j (by simpa using hj)
 simpa [ho'] using this
theorem ancs_lt {ops : Array Oper} {an : List (List Nat)} (h : ancs ops = some an) : ∀ j i,j < ops.size → i ∈ an.getD j [] → i < j := by
 intro j
 induction j using Nat.strongRecOn with
 | ind j ih =>
  intro i hj hi
  obtain ⟨h1,h2⟩ := ancs_spec h (Array.getElem?_eq_getElem hj)
  obtain ⟨k,hk,h3⟩ := h2 i hi
  have := h1 k hk
  rcases h3 with rfl | h3
  ·exact this
  ·have := ih k this i (by omega) h3; omega
def ClosedD (ops : Array Oper) (L : Nat → Bool) : Prop := ∀ j o,ops[j]? = some o → L j = true → ∀ k ∈ direct o,L k = true
theorem ancs_closed {ops : Array Oper} {an : List (List Nat)} (h : ancs ops = some an) {L : Nat → Bool} (hc : ClosedD ops L) : ∀ j o,ops[j]? = some o → (∀ k ∈ direct o,L k = true) → ∀ i ∈ an.getD j [],L i = true := by
 intro j
 induction j using Nat.strongRecOn with
 | ind j ih =>
  intro o ho hd i hi
  obtain ⟨h1,h2⟩ := ancs_spec h ho
  obtain ⟨k,hk,h3⟩ := h2 i hi
  have hkj := h1 k hk
  have hj := (Array.getElem?_eq_some_iff.1 ho).1
  rcases h3 with rfl | h3
  ·exact hd _ hk
  ·have hok := Array.getElem?_eq_getElem (xs := ops) (i := k) (by omega)
   exact ih k hkj _ hok (hc k _ hok (hd k hk)) i h3
theorem free_of {an : List (List Nat)} {l : List LOper} {ps : List (Nat × Nat)} (hp : drawPairs an l = some ps) {rs : List Res} (hok : pairsOk rs ps = true)
  (hw : ∀ i,i < l.length → ((l.getD i default).op.writesMem = false → (rs.getD i noRes).quiet) ∧ ((l.getD i default).op.readsMem = false → (rs.getD i noRes).rs = []))
  (hlt : ∀ j i,j < l.length → i ∈ an.getD j [] → i < j) {i j : Nat} (hij : i < j) (hj : j < l.length) (ho : ¬ i ∈ an.getD j []) :
  Free (l.getD i default) (l.getD j default) (rs.getD i noRes) (rs.getD j noRes) := by
 have ho' : ¬ j ∈ an.getD i [] := fun h => by have := hlt i j (by omega) h; omega
 simp only [drawPairs] at hp
 split at hp
 case isFalse => cases hp
 rename_i hall
 simp only [Option.some.injEq] at hp
 have hst : ∀ a b,a < l.length → b < l.length → a ≠ b → ¬ a ∈ an.getD b [] → ¬ b ∈ an.getD a [] → ∀ d,(l.getD a default).dst = some d → (l.getD b default).dst ≠ some d ∧ d ∉ (l.getD b default).uses := by
  intro a b ha hb hab h1 h2 d hd
  have := List.all_eq_true.1 (List.all_eq_true.1 hall b (List.mem_range.2 hb)) a (List.mem_range.2 ha)
  simp only [Bool.or_eq_true,beq_iff_eq,hab,false_or,hd] at this
  simp only [Bool.and_eq_true,bne_iff_ne,ne_eq,Bool.or_eq_true,Bool.not_eq_true',List.contains_eq_mem,decide_eq_true_eq,decide_eq_false_iff_not] at this
  exact ⟨this.1,this.2.resolve_right fun h => h.elim h1 h2⟩
 have hmem : (((l.getD i default).op.writesMem && ((l.getD j default).op.readsMem || (l.getD j default).op.writesMem)) || ((l.getD j default).op.writesMem && (l.getD i default).op.readsMem)) = true → (i,j) ∈ ps := by
  intro hc
  rw [← hp]
  simp only [List.mem_flatMap,List.mem_range,List.mem_map,List.mem_filter,Bool.and_eq_true,Bool.not_eq_true']
  refine ⟨j,hj,i,⟨hij,?_,hc⟩,rfl⟩
  simp only [List.contains_eq_mem,Bool.or_eq_false_iff,decide_eq_false_iff_not]
  exact ⟨ho,ho'⟩
 have heff : (∀ w ∈ (rs.getD i noRes).ws,∀ w' ∈ (rs.getD j noRes).ws,apartWW w w' = true) ∧ (∀ w ∈ (rs.getD i noRes).ws,∀ ρ ∈ (rs.getD j noRes).rs,apartWR w ρ = true) ∧
   (∀ w ∈ (rs.getD j noRes).ws,∀ ρ ∈ (rs.getD i noRes).rs,apartWR w ρ = true) ∧ ((rs.getD i noRes).mem.isSome = true → (rs.getD j noRes).quiet ∧ ∀ ρ ∈ (rs.getD j noRes).rs,(rs.getD i noRes).unch ρ.key = true) ∧
   ((rs.getD j noRes).mem.isSome = true → (rs.getD i noRes).quiet ∧ ∀ ρ ∈ (rs.getD i noRes).rs,(rs.getD j noRes).unch ρ.key = true) := by
  by_cases hc : (((l.getD i default).op.writesMem && ((l.getD j default).op.readsMem || (l.getD j default).op.writesMem)) || ((l.getD j default).op.writesMem && (l.getD i default).op.readsMem)) = true
  ·have := List.all_eq_true.1 hok _ (hmem hc)
   simp only at this
   split at this
   case h_2 => cases this
   rename_i a b ha hb
   simp only [List.getD_eq_getElem?_getD,ha,hb,Option.getD_some]
   simp only [apartRes] at this
   split at this
   ·rename_i h1
    simp only [Bool.and_eq_true,Res.still,List.isEmpty_iff,Bool.not_eq_true',List.all_eq_true,Option.isNone_iff_eq_none] at this
    obtain ⟨⟨e0,⟨q1,q2⟩,q3⟩,q4⟩ := this
    rw [e0,q1]
    exact ⟨fun w h => (by simp at h),fun w h => (by simp at h),fun w h => (by simp at h),fun _ => ⟨⟨q1,q2,q3⟩,q4⟩,fun h => (by rw [q3] at h; cases h)⟩
   ·rename_i h1
    split at this
    ·rename_i h2
     simp only [Bool.and_eq_true,Res.still,List.isEmpty_iff,Bool.not_eq_true',List.all_eq_true,Option.isNone_iff_eq_none] at this
     obtain ⟨⟨e0,⟨q1,q2⟩,q3⟩,q4⟩ := this
     rw [e0,q1]
     exact ⟨fun w h => (by simp at h),fun w h => (by simp at h),fun w h => (by simp at h),fun h => absurd h h1,fun _ => ⟨⟨q1,q2,q3⟩,q4⟩⟩
    ·rename_i h2
     simp only [Bool.and_eq_true,List.all_eq_true] at this
     obtain ⟨t1,t2⟩ := this
     exact ⟨fun w h w' h' => (t1 w h).2 w' h',fun w h ρ h' => (t1 w h).1 ρ h',fun w h ρ h' => t2 w h ρ h',fun h => absurd h h1,fun h => absurd h h2⟩
  ·have hi := hw i (by omega)
   have hj := hw j hj
   cases h1 : (l.getD i default).op.writesMem with
   | false =>
    have q := hi.1 h1
    have e1 := q.1
    have e3 := q.2.2
    rw [e1,e3]
    refine ⟨fun w h => by simp at h,fun w h => by simp at h,?_,fun h => (by cases h),fun h => ⟨q,?_⟩⟩
    ·cases h2 : (l.getD j default).op.writesMem with
     | false => rw [(hj.1 h2).1]; intro w h; simp at h
     | true =>
      have : (l.getD i default).op.readsMem = false := by simp only [h1,h2,Bool.false_and,Bool.true_and,Bool.false_or] at hc; simpa using hc
      rw [hi.2 this]; intro w _ ρ h; simp at h
    ·cases h2 : (l.getD j default).op.writesMem with
     | false => rw [(hj.1 h2).2.2] at h; cases h
     | true =>
      have : (l.getD i default).op.readsMem = false := by simp only [h1,h2,Bool.false_and,Bool.true_and,Bool.false_or] at hc; simpa using hc
      exact fun ρ hρ => (by rw [hi.2 this] at hρ; simp at hρ)
   | true =>
    simp only [h1,Bool.true_and,Bool.or_eq_true,not_or,Bool.and_eq_true] at hc
    obtain ⟨⟨h2,h3⟩,h4⟩ := hc
    have q := hj.1 (by simpa using h3)
    have e1 := q.1
    have e3 := q.2.2
    have e2 := hj.2 (by simpa using h2)
    rw [e1,e2,e3]
    exact ⟨fun w _ w' h => by simp at h,fun w _ ρ h => by simp at h,fun w h => by simp at h,fun _ => ⟨q,fun ρ hρ => (by simp at hρ)⟩,fun h => (by cases h)⟩
 obtain ⟨f1,f2,f3,f4,f5⟩ := heff
 exact ⟨fun d hd => (hst i j (by omega) hj (by omega) ho ho' d hd).1,fun d hd => (hst i j (by omega) hj (by omega) ho ho' d hd).2,fun d hd => (hst j i hj (by omega) (by omega) ho' ho d hd).2,f1,f2,f3,f4,f5⟩
theorem countP_put (f g : Nat → Bool) (i : Nat) (hf : f i = true) (hg : g i = false) (h : ∀ k,k ≠ i → g k = f k) : ∀ N,i < N → (List.range N).countP g + 1 = (List.range N).countP f
 | 0,h => by omega
 | N + 1,hi => by
  simp only [List.range_succ,List.countP_append,List.countP_singleton]
  by_cases hn : i = N
  ·subst hn
   have : (List.range i).countP g = (List.range i).countP f := List.countP_congr fun k hk => by
    have := List.mem_range.1 hk
    rw [h k (by omega)]
   simp [this,hf,hg]
  ·have := countP_put f g i hf hg h N (by omega)
   rw [h N (by omega)]
   omega
section
variable {P : Program} {Ξ : Env} {B : Nat} {S : Nat → Nat → Prop} {N : Nat} {ops : Array Oper} {l : List LOper} {n : Nat} {call : CallFn} {io : Inl} {I : Operand → Bool} {ro : Option Nat} {m : Nat}
theorem ops_sound (hcall : CallOk P call) (hio : InlOk P io) (hl : mapO (lowOper P I ops) ops.toList = some l) (hd : l.all (fun o => o.dst.all (· < N)) = true) {Q : Exit → Act → World → Prop} :
  ∀ (k i : Nat) (st st' : St) (G : Gh) (a : Act) (w : World),i + k = ops.size → Rel P Ξ B S G st N a w → runOps n call io 0 (l.drop i) st = some st' →
   (∀ a' w' G',Rel P Ξ B S G' st' N a' w' → Below B w w' → Q .normal a' w') → wpOpsIn (Fx ro) m P ops Q (List.range' i k) a w := by
 obtain ⟨l1,l2⟩ := mapO_some hl
 intro k
 induction k with
 | zero =>
  intro i st st' G a w hik hR hrun hQ
  have : l.drop i = [] := List.drop_eq_nil_iff.2 (by rw [l1]; simp; omega)
  rw [this] at hrun
  simp only [runOps,Option.some.injEq] at hrun; subst hrun
  exact hQ a w G hR (Below.refl _ _)
 | succ k ih =>
  intro i st st' G a w hik hR hrun hQ
  have hi : i < ops.size := by omega
  have hil : i < l.length := by rw [l1]; simpa using hi
  rw [List.drop_eq_getElem_cons hil] at hrun
  simp only [runOps] at hrun
  split at hrun
  case h_2 => cases hrun
  rename_i st1 r hs
  rw [List.range'_succ,wpOpsIn_cons]
  unfold wpOpIn
  rw [Array.getElem?_eq_getElem hi]
  have hlow := l2 i (by simpa using hi) hil
  simp only [Array.getElem_toList] at hlow
  exact step_sound hcall hio hR hlow (List.all_eq_true.1 hd _ (List.getElem_mem hil)) hs fun a' w' G' h1 h2 =>
   ih (i + 1) st1 st' G' a' w' (by omega) h1 hrun fun a'' w'' G'' h3 h4 => hQ a'' w'' G'' h3 (h2.trans h4)
theorem any_sound (hcall : CallOk P call) (hio : InlOk P io) (hl : mapO (lowOper P I ops) ops.toList = some l) (hd : l.all (fun o => o.dst.all (· < N)) = true) {an : List (List Nat)} (han : ancs ops = some an)
  {ps : List (Nat × Nat)} (hps : drawPairs an l = some ps) {st stn : St} {rs : List Res} (hrun : runRec n call io 0 l st = some (stn,rs)) (hok : pairsOk rs ps = true) {Q : Exit → Act → World → Prop} :
  ∀ (fuel : Nat) (listed : Array Bool) (G : Gh) (a : Act) (w : World),listed.size = ops.size → (List.range ops.size).countP (fun i => !listed.getD i false) ≤ fuel → ClosedD ops (fun i => listed.getD i false) →
   Rel P Ξ B S G (foldE (fun k => effO (l.getD k default) (rs.getD k noRes)) (fun i => listed.getD i false) st ops.size) N a w → (∀ a' w' G',Rel P Ξ B S G' stn N a' w' → Below B w w' → Q .normal a' w') →
   wpAnyIn (Fx ro) m P .any ops Q fuel listed a w := by
 obtain ⟨l1,l2⟩ := mapO_some hl
 have hN : l.length = ops.size := by rw [l1]; simp
 obtain ⟨hrl,s,hrun',hsn⟩ := run_of_rec hrun
 rw [hN] at hrun' hsn
 have hlt := ancs_lt han
 have hw : ∀ i,i < l.length → ((l.getD i default).op.writesMem = false → (rs.getD i noRes).quiet) ∧ ((l.getD i default).op.readsMem = false → (rs.getD i noRes).rs = []) :=
  fun i hi => (step_eff (hrun'.step i (by omega))).2.2
 have hfree : ∀ i j,i < j → j < ops.size → ¬ i ∈ an.getD j [] → Free (l.getD i default) (l.getD j default) (rs.getD i noRes) (rs.getD j noRes) :=
  fun i j hij hj ho => free_of hps hok hw (fun j i hj hi => hlt j i (by omega) hi) hij (by omega) ho
 have full : ∀ (listed : Array Bool),listed.size = ops.size → Region.ready .any ops listed = [] → ∀ i,i < ops.size → listed.getD i false = true := by
  intro listed hsz hr i
  induction i using Nat.strongRecOn with
  | ind i ih =>
   intro hi
   cases hb : listed.getD i false with
   | true => rfl
   | false =>
    exfalso
    have hm : i ∈ Region.ready .any ops listed := by
     rw [mem_ready]
     refine ⟨?_,ops[i],Array.getElem?_eq_getElem hi,fun e he hbd => ?_⟩
     ·rw [Array.getD_eq_getD_getElem?,Array.getElem?_eq_getElem (by omega)] at hb ⊢; simpa using hb
     ·have hk : e.on ∈ direct ops[i] := List.mem_map.2 ⟨e,List.mem_filter.2 ⟨by simpa using he,hbd⟩,rfl⟩
      have := (ancs_spec han (Array.getElem?_eq_getElem hi)).1 _ hk
      exact ih _ this (by omega)
    rw [hr] at hm; simp at hm
 have done : ∀ (listed : Array Bool) (G : Gh) (a : Act) (w : World),listed.size = ops.size → Region.ready .any ops listed = [] →
   Rel P Ξ B S G (foldE (fun k => effO (l.getD k default) (rs.getD k noRes)) (fun i => listed.getD i false) st ops.size) N a w → (∀ a' w' G',Rel P Ξ B S G' stn N a' w' → Below B w w' → Q .normal a' w') → Q .normal a w := by
  intro listed G a w hsz hr hR hQ
  refine hQ a w G ?_ (Below.refl _ _)
  rw [foldE_congr (L' := fun _ => true) fun i hi => full listed hsz hr i hi,← hrun'.fold _ (Nat.le_refl _),hsn] at hR
  exact hR
 intro fuel
 induction fuel with
 | zero =>
  intro listed G a w hsz hc hcl hR hQ
  have hr : Region.ready .any ops listed = [] := by
   cases h : Region.ready .any ops listed with
   | nil => rfl
   | cons i rest =>
    exfalso
    have hm : i ∈ Region.ready .any ops listed := by rw [h]; simp
    obtain ⟨h0,o,ho,_⟩ := mem_ready.1 hm
    have hi := (Array.getElem?_eq_some_iff.1 ho).1
    have hb : listed.getD i false = false := by
     rw [Array.getD_eq_getD_getElem?,Array.getElem?_eq_getElem (by omega)] at h0 ⊢; simpa using h0
    have := List.countP_pos_iff (p := fun i => !listed.getD i false) (l := List.range ops.size) |>.2 ⟨i,List.mem_range.2 hi,by simp only [hb]; rfl⟩
    omega
  exact ⟨hr,done listed G a w hsz hr hR hQ⟩
 | succ fuel ih =>
  intro listed G a w hsz hc hcl hR hQ
  refine ⟨fun hr => done listed G a w hsz hr hR hQ,fun i hm => ?_⟩
  obtain ⟨h0,o,ho,hready⟩ := mem_ready.1 hm
  have hi := (Array.getElem?_eq_some_iff.1 ho).1
  have hoi : o = ops[i] := by rw [Array.getElem?_eq_getElem hi,Option.some.injEq] at ho; exact ho.symm
  have hb : listed.getD i false = false := by
   rw [Array.getD_eq_getD_getElem?,Array.getElem?_eq_getElem (by omega)] at h0 ⊢; simpa using h0
  have hdir : ∀ k ∈ direct o,listed.getD k false = true := by
   intro k hk
   obtain ⟨e,he,rfl⟩ := List.mem_map.1 hk
   obtain ⟨he1,he2⟩ := List.mem_filter.1 he
   exact hready e (by simpa using he1) he2
  have hst := draw_step hrun' (ord := fun i j => j < ops.size ∧ i ∈ an.getD j []) (fun i j h => hlt j i h.1 h.2) (fun i j hij hj ho => hfree i j hij hj fun h => ho ⟨hj,h⟩) (L := fun i => listed.getD i false)
   (fun j hj hLj i hord => ancs_closed han hcl j _ (Array.getElem?_eq_getElem hj) (hcl j _ (Array.getElem?_eq_getElem hj) hLj) i hord.2) hi hb
   (fun k hk => ancs_closed han hcl i o ho hdir k hk.2)
  have hset : ∀ k,(listed.setIfInBounds i true).getD k false = (k == i || listed.getD k false) := by
   intro k
   by_cases hk : k = i
   ·subst hk
    simp [show k < listed.size by omega]
   ·rw [getD_set_ne false fun e => hk e.symm]
    have : (k == i) = false := by simpa using hk
    rw [this,Bool.false_or]
  have hil : i < l.length := by omega
  have hlow := l2 i (by simpa using hi) hil
  simp only [Array.getElem_toList] at hlow
  have hli : l.getD i default = l[i] := by simp [List.getD_eq_getElem?_getD,hil]
  rw [hli] at hst
  unfold wpOpIn
  rw [Array.getElem?_eq_getElem hi]
  refine step_sound hcall hio hR hlow (List.all_eq_true.1 hd _ (List.getElem_mem hil)) hst fun a' w' G' h1 h2 => ?_
  refine ih _ G' a' w' (by simpa using hsz) ?_ ?_ ?_ fun a'' w'' G'' h3 h4 => hQ a'' w'' G'' h3 (h2.trans h4)
  ·have := countP_put (fun i => !listed.getD i false) (fun k => !(listed.setIfInBounds i true).getD k false) i (by simp only [hb]; rfl) (by simp only [hset]; simp) (fun k hk => by
    simp only [hset]
    have : (k == i) = false := by simpa using hk
    rw [this,Bool.false_or]) ops.size hi
   omega
  ·intro j oj hoj hLj k hk
   simp only [hset] at hLj ⊢
   by_cases hj : j = i
   ·subst hj
    rw [ho,Option.some.injEq] at hoj; subst hoj
    rw [hdir k hk,Bool.or_true]
   ·have : (j == i) = false := by simpa using hj
    rw [this,Bool.false_or] at hLj
    have h5 : listed.getD k false = true := hcl j oj hoj hLj k hk
    rw [h5,Bool.or_true]
  ·rw [foldE_congr (L' := fun k => k == i || listed.getD k false) fun k _ => hset k]
   exact h1
end
end Go.Abs
namespace Go.Abs
open Go.RowKit (Below)
variable [Inhabited Glob]
def FV (v : Val) (x : Value) : Prop := ∀ (T : Nat → Nat → Prop) (G : Gh) (w : World),VR T G w v x
def chainOf (x : Value) : List PanicEntry := [{ v := x,recovered := false }]
def PanOk (P : Program) (pan : CallFn) : Prop := ∀ f args v,pan f args = some v → (∃ fn,P.funcs[f]? = some fn ∧ (fn.name == "runtime.NumGoroutine") = false ∧ fn.body.isNone = false) ∧
 ∀ (S : Nat → Nat → Prop) (w : World) (vals : Array Value),(∀ b o,S b o → b < w.heap.size) → GlobOk S w → vals.size = args.length → (∀ i,i < args.length → VR S Gh.none w (args.getD i .dead) (vals.getD i undef)) →
  Calls P f vals w fun e w' => ∃ x,e = .panicked (chainOf x) ∧ Below w.heap.size w w' ∧ FV v x
def PinPost (P : Program) (Ξ : Env) (B : Nat) (S : Nat → Nat → Prop) (st st' : St) (N : Nat) (a : Act) (w : World) (v : Val) (e : Ending) (w' : World) : Prop :=
 ∃ x G',e = .panicked (chainOf x) ∧ FV v x ∧ Rel P Ξ B S G' { fr := st.fr,en := st'.en,cnt := st'.cnt } N a w' ∧ Below B w w'
def PinOk (P : Program) (pin : Nat → List Val → St → Option (Val × St)) : Prop := ∀ f args v (st0 st' : St),pin f args st0 = some (v,st') → (∃ fn,P.funcs[f]? = some fn ∧ (fn.name == "runtime.NumGoroutine") = false ∧ fn.body.isNone = false) ∧
  ∀ (Ξ : Env) (B : Nat) (S : Nat → Nat → Prop) (G : Gh) (st : St) (N : Nat) (a : Act) (w : World) (vals : Array Value),Rel P Ξ B S G st N a w → st0.en = st.en → st0.cnt = st.cnt → vals.size = args.length →
   (∀ i,i < args.length → VR (Stab B S G w.heap.size) G w (args.getD i .dead) (vals.getD i undef)) → Calls P f vals w (PinPost P Ξ B S st st' N a w v)
section
variable {P : Program} {Ξ : Env} {B : Nat} {S : Nat → Nat → Prop} {G : Gh} {st : St} {N : Nat} {a : Act} {w : World} {o : Oper}
theorem lowOp_panic {I : Operand → Bool} {op : Op} {y : Opd} (h : lowOp P I op = some (.panic y)) : ∃ x,op = .panic x ∧ lowOpd x = some y := by
 cases op
 case panic x =>
  simp only [lowOp] at h
  obtain ⟨z,h1,h2⟩ := Option.map_eq_some_iff.1 h
  simp only [LOp.panic.injEq] at h2
  exact ⟨x,rfl,h2 ▸ h1⟩
 case binOp op t x y ty =>
  exfalso
  simp only [lowOp,Option.bind_eq_bind,Option.bind_eq_some_iff] at h
  obtain ⟨e,_,h⟩ := h
  split at h
  ·split at h
   ·simp [Option.bind_eq_some_iff] at h
   ·cases h
  ·split at h <;> simp [Option.bind_eq_some_iff] at h
 all_goals (exfalso; simp only [lowOp] at h; (repeat' split at h) <;> first | contradiction | (simp [Option.bind_eq_some_iff,Option.map_eq_some_iff] at h; done) | (have := lowZ_some h; simp at this))
theorem lowOp_call {I : Operand → Bool} {op : Op} {f : Opd} {ys : List Opd} (h : lowOp P I op = some (.call f ys)) : ∃ c,op = .call c ∧ lowOpds c.args.toList = some ys ∧
  ((∃ F,c.callee = .value F ∧ lowOpd F = some f) ∨ ∃ t name,c.callee = .invoke (.tmp t) name ∧ f = .m (methodTbl P name) t) := by
 cases op
 case call c =>
  simp only [lowOp] at h
  split at h
  ·rename_i F hc
   split at h
   ·simp [Option.bind_eq_some_iff] at h
   ·simp only [Option.bind_eq_bind,Option.bind_eq_some_iff,Option.pure_def,Option.some.injEq,LOp.call.injEq] at h
    obtain ⟨x',h1,ys',h2,rfl,rfl⟩ := h
    exact ⟨c,rfl,h2,.inl ⟨F,hc,h1⟩⟩
  ·rename_i t name hc
   simp only [Option.bind_eq_bind,Option.bind_eq_some_iff,Option.pure_def,Option.some.injEq,LOp.call.injEq] at h
   obtain ⟨ys',h2,rfl,rfl⟩ := h
   exact ⟨c,rfl,h2,.inr ⟨t,name,hc,rfl⟩⟩
  all_goals (repeat' split at h) <;> first | (simp [Option.bind_eq_some_iff,Option.map_eq_some_iff] at h; done) | (have := lowZ_some h; simp at this)
 case binOp op t x y ty =>
  exfalso
  simp only [lowOp,Option.bind_eq_bind,Option.bind_eq_some_iff] at h
  obtain ⟨e,_,h⟩ := h
  split at h
  ·split at h
   ·simp [Option.bind_eq_some_iff] at h
   ·cases h
  ·split at h <;> simp [Option.bind_eq_some_iff] at h
 all_goals (exfalso; simp only [lowOp] at h; (repeat' split at h) <;> first | contradiction | (simp [Option.bind_eq_some_iff,Option.map_eq_some_iff] at h; done) | (have := lowZ_some h; simp at this))
theorem callee_vals (hR : Rel P Ξ B S G st N a w) {c : Call} {F : Operand} {x : Opd} {ys : List Opd} {f : Nat} {A Z : List Val} (ho : o.op = .call c) (hc : c.callee = .value F) (h1 : lowOpd F = some x) (h2 : lowOpds c.args.toList = some ys)
  (hf : St.get st.fr x = .fn f A Z) (hfn : ∃ fn,P.funcs[f]? = some fn ∧ (fn.name == "runtime.NumGoroutine") = false ∧ fn.body.isNone = false) :
  ∃ Y : Array Value,(execOp a.eval o).run P w = .ok (.enter f Y) w ∧ Y.size = (A ++ ys.map (St.get st.fr) ++ Z).length ∧
   ∀ i,i < (A ++ ys.map (St.get st.fr) ++ Z).length → VR (Stab B S G w.heap.size) G w ((A ++ ys.map (St.get st.fr) ++ Z).getD i .dead) (Y.getD i undef) := by
 obtain ⟨fn,hfn,hnm,hbody⟩ := hfn
 have hF := opd_sound hR h1
 rw [hf] at hF
 obtain ⟨ly,vy⟩ := opds_sound hR h2
 generalize hgF : a.eval F = uF at hF
 cases hF with
 | fn _ _ _ p q hp hq hvp hvq =>
 refine ⟨p ++ c.args.map a.eval ++ q,?_,by simp [hp,hq,ly],?_⟩
 ·have hnm' : ¬ fn.name = "runtime.NumGoroutine" := by simpa using hnm
  have hbody' : ¬ fn.body = none := by intro h; rw [h] at hbody; cases hbody
  simp [execOp,ho,resolve,hc,hgF,Deferred.ofValue,invoke,callFunc,hfn,hnm',hbody']
 ·intro i hi
  simp only [List.getD_eq_getElem?_getD,Array.getD_eq_getD_getElem?,List.getElem?_append,Array.getElem?_append,List.length_append,Array.size_append,Array.size_map,List.length_map] at hi ⊢
  have e1 : p.size = A.length := hp
  have e2 : c.args.size = ys.length := by simp [ly]
  rw [e1,e2]
  split
  ·split
   ·rename_i h; have := hvp i h; simpa [List.getD_eq_getElem?_getD,Array.getD_eq_getD_getElem?] using this
   ·have hi' : i - A.length < ys.length := by omega
    have := vy (i - A.length) hi'
    have hi2 : i - A.length < c.args.size := by omega
    simpa [List.getD_eq_getElem?_getD,Array.getD_eq_getD_getElem?,hi',hi2] using this
  ·have := hvq (i - (A.length + ys.length)) (by omega); simpa [List.getD_eq_getElem?_getD,Array.getD_eq_getD_getElem?] using this
theorem panStep_sound {n : Nat} {pan : CallFn} {pin : Nat → List Val → St → Option (Val × St)} (hpan : PanOk P pan) (hpin : PinOk P pin) (hR : Rel P Ξ B S G st N a w) {I : Operand → Bool} {ops : Array Oper} {lo : LOper} {st' : St} {v : Val}
  (hl : lowOper P I ops o = some lo) (hs : panStep n pan pin st lo = some (v,st')) {ro : Option Nat} {m : Nat} {next : Act → World → Prop} {Q : Exit → Act → World → Prop}
  (k : ∀ a' w' G' x,FV v x → Rel P Ξ B S G' st' N a' w' → Below B w w' → Q (.panic (chainOf x)) a' w') :
  Region.wanted o (yielded ops a.tmps) = true ∧ o.wpIn (Fx ro) m P a w next Q := by
 simp only [lowOper,Option.bind_eq_bind,Option.bind_eq_some_iff,Option.pure_def,Option.some.injEq] at hl
 obtain ⟨lop,hop,g,hg,rfl⟩ := hl
 simp only [panStep] at hs
 split at hs
 case h_2 => cases hs
 rename_i hw
 refine ⟨wanted_sound hR hg hw,?_⟩
 split at hs
 ·rename_i y
  split at hs
  case h_2 => cases hs
  rename_i t u hu
  split at hs
  case isFalse => cases hs
  rename_i hfl
  simp only [Option.some.injEq,Prod.mk.injEq] at hs
  obtain ⟨rfl,rfl⟩ := hs
  obtain ⟨x,e1,e2⟩ := lowOp_panic hop
  have hx := opd_sound hR e2
  rw [hu] at hx
  generalize hax : a.eval x = z at hx
  have hfv : FV (.ifc t u) z := fun T' G' w' => flat_mono hx hfl
  cases hx with
  | ifc _ _ z' hz =>
  have hrun : (execOp a.eval o).run P w = .halt (.panic (.iface t z')) w := by
   simp [execOp,e1,hax,Instr.panic,goPanic]
  refine ⟨fun _ _ => trivial,?_⟩
  rw [Oper.semAt_eq _ _ _ (by simp [e1]),hrun]
  exact k a w G _ hfv hR (Below.refl _ _)
 ·rename_i f args
  split at hs
  case h_2 => cases hs
  rename_i f' A Z hnoM hf
  split at hs
  case h_2 => cases hs
  rename_i rs hsn
  obtain ⟨v',hv,he⟩ := Option.map_eq_some_iff.1 hs
  simp only [Prod.mk.injEq] at he
  obtain ⟨rfl,rfl⟩ := he
  obtain ⟨hfn,hcalls⟩ := hpan _ _ _ hv
  obtain ⟨c,e1,e2,e3⟩ := lowOp_call hop
  obtain ⟨Y,hrun,hYl,hYv⟩ : ∃ Y : Array Value,(execOp a.eval o).run P w = .ok (.enter f' Y) w ∧ Y.size = (A ++ args.map (St.get st.fr) ++ Z).length ∧
    ∀ i,i < (A ++ args.map (St.get st.fr) ++ Z).length → VR (Stab B S G w.heap.size) G w ((A ++ args.map (St.get st.fr) ++ Z).getD i .dead) (Y.getD i undef) := by
   rcases e3 with ⟨F,e3,e4⟩ | ⟨t,name,e3,rfl⟩
   ·exact callee_vals hR e1 e3 e4 e2 hf hfn
   ·cases hnoM
  obtain ⟨s1,s2⟩ := snaps_some hsn
  have hrl : (rs.map (·.1.wk1)).length = (A ++ args.map (St.get st.fr) ++ Z).length := by rw [← s1]; simp
  refine ⟨fun _ _ => trivial,?_⟩
  rw [semAt_of hrun (by simp),Oper.uponIn_enter]
  refine ⟨fun h => by simp [Fx,Fence.wide] at h,?_⟩
  refine callsIn_any (Calls.mono (hcalls (fun b _ => b < w.heap.size) w Y (fun _ _ h => h) (hR.glob.mono fun _ _ h => h.1) (by rw [hrl,hYl]) (fun i hi => ?_)) ?_)
  ·rw [hrl] at hi
   obtain ⟨ks,q1,_⟩ := s2 i hi
   have := (snap_sound hR.ents (T' := fun b _ => b < w.heap.size) ⟨fun _ _ h => h.1,G.le_refl,fun _ _ _ _ h => h,fun _ _ _ _ h => h,fun _ _ h => h,fun _ r h => ⟨r,h⟩⟩ n (hYv i hi) q1 fun k _ e he => cov_all hR he).wk1
   rw [show rs.map (·.1.wk1) = (rs.map (·.1)).map Val.wk1 by simp]
   rw [wk1_getD]; exact this
  ·rintro e w' ⟨x,rfl,hb,hv⟩
   exact k a w' G x hv (hR.below hb) ⟨hb.os,hb.tape,hb.output,hb.size,fun k hk => hb.block k (Nat.lt_of_lt_of_le hk hR.size)⟩
 ·rename_i f args
  split at hs
  case h_2 => cases hs
  rename_i f' A Z hf
  split at hs
  case h_2 => cases hs
  rename_i v' st1 hv
  simp only [Option.some.injEq,Prod.mk.injEq] at hs
  obtain ⟨rfl,rfl⟩ := hs
  obtain ⟨hfn,hcalls⟩ := hpin _ _ _ _ _ hv
  obtain ⟨c,F,e1,e2,e3,e4⟩ := lowOp_icall hop
  obtain ⟨Y,hrun,hYl,hYv⟩ := callee_vals hR e1 e2 e3 e4 hf hfn
  refine ⟨fun _ _ => trivial,?_⟩
  rw [semAt_of hrun (by simp),Oper.uponIn_enter]
  refine ⟨fun h => by simp [Fx,Fence.wide] at h,?_⟩
  refine callsIn_any (Calls.mono (hcalls Ξ B S G st N a w Y hR rfl rfl hYl hYv) ?_)
  rintro e w' ⟨x,G',rfl,hv,hR',hb⟩
  exact k a w' G' x hv hR' hb
 ·cases hs
end
def Ex.val : Ex → Value → Prop
 | .panic v,x => FV v x
 | _,_ => True
def RelE (P : Program) (Ξ : Env) (B : Nat) (S : Nat → Nat → Prop) (G : Gh) (st : St) (N : Nat) (e : Ex) (a : Act) (w : World) : Prop :=
 ∃ tm : Array Value,Rel P Ξ B S G st N { a with tmps := tm } w ∧ (e.calm = true → tm = a.tmps) ∧ ∀ t,(st.fr t).isUndef = false → tm.getD t undef = a.tmps.getD t undef
theorem Rel.e {P : Program} {Ξ : Env} {B : Nat} {S : Nat → Nat → Prop} {G : Gh} {st : St} {N : Nat} {a : Act} {w : World} (h : Rel P Ξ B S G st N a w) {e : Ex} : RelE P Ξ B S G st N e a w := ⟨a.tmps,h,fun _ => rfl,fun _ _ => rfl⟩
theorem RelE.rel {P : Program} {Ξ : Env} {B : Nat} {S : Nat → Nat → Prop} {G : Gh} {st : St} {N : Nat} {e : Ex} {a : Act} {w : World} (h : RelE P Ξ B S G st N e a w) (hc : e.calm = true) : Rel P Ξ B S G st N a w := by
 obtain ⟨tm,h1,h2,_⟩ := h
 have := h2 hc
 subst this
 exact h1
def Ex.toExit (x : Value) : Ex → Exit
 | .normal => .normal
 | .exit id => .exit id
 | .ret => .ret
 | .panic _ => .panic (chainOf x)
section
variable {P : Program} {Ξ : Env} {B : Nat} {S : Nat → Nat → Prop} {N : Nat} {ops : Array Oper} {l : List LOper} {n : Nat} {call : CallFn} {io : Inl} {pan : CallFn} {pin : Nat → List Val → St → Option (Val × St)} {I : Operand → Bool} {ro : Option Nat} {m : Nat}
theorem opsP_sound (hcall : CallOk P call) (hio : InlOk P io) (hpan : PanOk P pan) (hpin : PinOk P pin) (hl : mapO (lowOper P I ops) ops.toList = some l) (hd : l.all (fun o => o.dst.all (· < N)) = true) {Q : Exit → Act → World → Prop} :
  ∀ (k i : Nat) (st st' : St) (e : Ex) (G : Gh) (a : Act) (w : World),i + k = ops.size → Rel P Ξ B S G st N a w → runP n call io pan pin (l.drop i) st = some (e,st') →
   (∀ a' w' G' x,e.val x → RelE P Ξ B S G' st' N e a' w' → Below B w w' → Q (e.toExit x) a' w') → wpOpsIn (Fx ro) m P ops Q (List.range' i k) a w := by
 obtain ⟨l1,l2⟩ := mapO_some hl
 intro k
 induction k with
 | zero =>
  intro i st st' e G a w hik hR hrun hQ
  have : l.drop i = [] := List.drop_eq_nil_iff.2 (by rw [l1]; simp; omega)
  rw [this] at hrun
  simp only [runP,Option.some.injEq,Prod.mk.injEq] at hrun
  obtain ⟨rfl,rfl⟩ := hrun
  exact hQ a w G undef trivial hR.e (Below.refl _ _)
 | succ k ih =>
  intro i st st' e G a w hik hR hrun hQ
  have hi : i < ops.size := by omega
  have hil : i < l.length := by rw [l1]; simpa using hi
  rw [List.drop_eq_getElem_cons hil] at hrun
  simp only [runP] at hrun
  rw [List.range'_succ,wpOpsIn_cons]
  unfold wpOpIn
  rw [Array.getElem?_eq_getElem hi]
  have hlow := l2 i (by simpa using hi) hil
  simp only [Array.getElem_toList] at hlow
  split at hrun
  ·rename_i v st1 hp
   simp only [Option.some.injEq,Prod.mk.injEq] at hrun
   obtain ⟨rfl,rfl⟩ := hrun
   obtain ⟨q1,q2⟩ := panStep_sound (ro := ro) (m := m) (next := fun a w => wpOpsIn (Fx ro) m P ops Q (List.range' (i + 1) k) a w) (Q := Q) hpan hpin hR hlow hp fun a' w' G' x h1 h2 h3 => hQ a' w' G' x h1 h2.e h3
   simp only [q1,if_true]
   exact q2
  ·split at hrun
   case h_2 => cases hrun
   rename_i st1 r hs
   exact step_sound hcall hio hR hlow (List.all_eq_true.1 hd _ (List.getElem_mem hil)) hs fun a' w' G' h1 h2 =>
    ih (i + 1) st1 st' e G' a' w' (by omega) h1 hrun fun a'' w'' G'' x h3 h4 h5 => hQ a'' w'' G'' x h3 h4 (h2.trans h5)
end
end Go.Abs
namespace Go.Abs
open Go.RowKit (Below)
variable [Inhabited Glob]
theorem cutAt_length {an : List (List Nat)} {j : Nat} {l : List LOper} : (cutAt an j l).length = l.length := by simp [cutAt]
theorem cutAt_get {an : List (List Nat)} {j : Nat} {l : List LOper} {i : Nat} (hi : i < l.length) : (cutAt an j l).getD i default = if behind an j i = true then nopO else if loneV an j l i = true then deadO (l.getD i default) else l.getD i default := by
 simp [cutAt,List.getD_eq_getElem?_getD,hi]
theorem cutAt_dst {an : List (List Nat)} {j : Nat} {l : List LOper} {i : Nat} (hi : i < l.length) (hb : ¬ behind an j i = true) : ((cutAt an j l).getD i default).dst = (l.getD i default).dst := by
 rw [cutAt_get hi,if_neg hb]; split <;> rfl
theorem cutAt_uses {an : List (List Nat)} {j : Nat} {l : List LOper} {i : Nat} (hi : i < l.length) (hb : ¬ behind an j i = true) {d : Nat} (h : d ∈ ((cutAt an j l).getD i default).uses) : d ∈ (l.getD i default).uses := by
 rw [cutAt_get hi,if_neg hb] at h
 split at h
 ·simp [deadO,LOper.uses,LOp.opds,Opd.tmp] at h
 ·exact h
theorem cutAt_mem {an : List (List Nat)} {j : Nat} {l : List LOper} {i : Nat} (hi : i < l.length) (hb : ¬ behind an j i = true) :
  (((cutAt an j l).getD i default).op.writesMem = true → (l.getD i default).op.writesMem = true) ∧ (((cutAt an j l).getD i default).op.readsMem = true → (l.getD i default).op.readsMem = true) := by
 rw [cutAt_get hi,if_neg hb]
 split
 ·exact ⟨fun h => by simp [deadO,LOp.writesMem] at h,fun h => by simp [deadO,LOp.readsMem] at h⟩
 ·exact ⟨id,id⟩
theorem drawPairs_cut {an : List (List Nat)} {j : Nat} {l : List LOper} {ps : List (Nat × Nat)} (h : drawPairs an l = some ps) : ∃ ps',drawPairs an (cutAt an j l) = some ps' ∧ ∀ p ∈ ps',p ∈ ps := by
 simp only [drawPairs] at h ⊢
 split at h
 case isFalse => cases h
 rename_i hall
 simp only [Option.some.injEq] at h
 rw [cutAt_length]
 have hc : ((List.range l.length).all fun k => (List.range l.length).all fun i => i == k ||
   (match ((cutAt an j l).getD i default).dst with
    | some d => ((cutAt an j l).getD k default).dst != some d && (!((cutAt an j l).getD k default).uses.contains d || ((an.getD k []).contains i || (an.getD i []).contains k))
    | none => true)) = true := by
  rw [List.all_eq_true]
  intro k hk
  rw [List.all_eq_true]
  intro i hi
  have hk' := List.mem_range.1 hk
  have hi' := List.mem_range.1 hi
  have h0 := List.all_eq_true.1 (List.all_eq_true.1 hall k hk) i hi
  by_cases hik : (i == k) = true
  ·rw [hik]; rfl
  ·simp only [hik,Bool.false_or] at h0 ⊢
   by_cases hbi : behind an j i = true
   ·rw [cutAt_get hi',if_pos hbi]; rfl
   ·rw [cutAt_dst hi' hbi]
    cases hd : (l.getD i default).dst with
    | none => rfl
    | some d =>
     rw [hd] at h0
     simp only at h0 ⊢
     by_cases hbk : behind an j k = true
     ·rw [cutAt_get hk',if_pos hbk]
      have e1 : nopO.dst = none := rfl
      have e2 : nopO.uses = [] := rfl
      rw [e1,e2]
      simp
     ·rw [cutAt_dst hk' hbk]
      rw [Bool.and_eq_true] at h0 ⊢
      refine ⟨h0.1,?_⟩
      have h1 := h0.2
      rw [Bool.or_eq_true] at h1 ⊢
      refine h1.imp (fun h2 => ?_) id
      simp only [Bool.not_eq_true',List.contains_eq_mem,decide_eq_false_iff_not] at h2 ⊢
      exact fun h3 => h2 (cutAt_uses hk' hbk h3)
 refine ⟨_,if_pos hc,fun p hp => ?_⟩
 rw [← h]
 simp only [List.mem_flatMap,List.mem_range,List.mem_map,List.mem_filter,Bool.and_eq_true] at hp ⊢
 obtain ⟨k,hk,i,⟨hik,hord,hcond⟩,rfl⟩ := hp
 refine ⟨k,hk,i,⟨hik,hord,?_⟩,rfl⟩
 have e1 : nopO.op.writesMem = false := rfl
 have e2 : nopO.op.readsMem = false := rfl
 by_cases hbi : behind an j i = true
 ·rw [cutAt_get (i := i) (by omega),if_pos hbi] at hcond
  simp [e1,e2] at hcond
 ·by_cases hbk : behind an j k = true
  ·rw [cutAt_get hk,if_pos hbk] at hcond
   simp [e1,e2] at hcond
  ·have mi := cutAt_mem (an := an) (j := j) (l := l) (i := i) (by omega) hbi
   have mk := cutAt_mem (an := an) (j := j) (l := l) hk hbk
   simp only [Bool.or_eq_true,Bool.and_eq_true] at hcond ⊢
   exact hcond.imp (fun h => ⟨mi.1 h.1,h.2.imp mk.2 mk.1⟩) (fun h => ⟨mk.1 h.1,mi.2 h.2⟩)
theorem pairsOk_sub {rs : List Res} {ps ps' : List (Nat × Nat)} (h : pairsOk rs ps = true) (hs : ∀ p ∈ ps',p ∈ ps) : pairsOk rs ps' = true := by
 simp only [pairsOk,List.all_eq_true] at h ⊢
 exact fun p hp => h p (hs p hp)
theorem panStep_like {n : Nat} {pan : CallFn} {pin : Nat → List Val → St → Option (Val × St)} {st st2 s : St} {o : LOper} {v : Val} (h : panStep n pan pin st o = some (v,st2)) (hen : s.en = st.en) (hcnt : s.cnt = st.cnt) (hfr : ∀ t ∈ o.uses,s.fr t = st.fr t) :
  panStep n pan pin s o = some (v,{ fr := s.fr,en := st2.en,cnt := st2.cnt }) ∧ st2.fr = st.fr := by
 have hw : wanted s.fr o.guard = wanted st.fr o.guard := by
  cases hg : o.guard with
  | none => rfl
  | some p =>
   obtain ⟨t,b⟩ := p
   simp only [wanted]
   rw [hfr t (by simp [LOper.uses,hg])]
 have hgt : ∀ x ∈ o.op.opds,St.get s.fr x = St.get st.fr x := by
  intro x hx
  cases x with
  | t i => exact hfr i (by simp only [LOper.uses,List.mem_append,List.mem_flatMap]; exact .inl ⟨_,hx,by simp [Opd.tmp]⟩)
  | c v => rfl
  | f i => rfl
  | m tbl i => simp only [St.get]; rw [hfr i (by simp only [LOper.uses,List.mem_append,List.mem_flatMap]; exact .inl ⟨_,hx,by simp [Opd.tmp]⟩)]
 simp only [panStep] at h ⊢
 rw [hw]
 split at h
 case h_2 => cases h
 split at h
 ·rename_i x hop
  rw [hgt x (by simp [hop,LOp.opds])]
  split at h
  case h_2 => cases h
  split at h
  case isFalse => cases h
  rename_i hfl
  simp only [Option.some.injEq,Prod.mk.injEq] at h
  obtain ⟨rfl,rfl⟩ := h
  rw [if_pos hfl]
  exact ⟨by rw [← hen,← hcnt],by first | rfl | trivial⟩
 ·rename_i f args hop
  rw [hgt f (by simp [hop,LOp.opds]),show args.map (St.get s.fr) = args.map (St.get st.fr) from List.map_congr_left fun p hp => hgt p (by simp [hop,LOp.opds,hp]),hen]
  split at h
  case h_2 => cases h
  split at h
  case h_2 => cases h
  rename_i hs
  obtain ⟨v',hv,he⟩ := Option.map_eq_some_iff.1 h
  simp only [Prod.mk.injEq] at he
  obtain ⟨rfl,rfl⟩ := he
  simp only [hs,hv,Option.map_some]
  exact ⟨by rw [← hen,← hcnt],by first | rfl | trivial⟩
 ·rename_i f args hop
  rw [hgt f (by simp [hop,LOp.opds]),show args.map (St.get s.fr) = args.map (St.get st.fr) from List.map_congr_left fun p hp => hgt p (by simp [hop,LOp.opds,hp])]
  split at h
  case h_2 => cases h
  split at h
  case h_2 => cases h
  rename_i hs
  simp only [Option.some.injEq,Prod.mk.injEq] at h
  obtain ⟨rfl,rfl⟩ := h
  have e : ({ s with fr := fun _ => Val.dead } : St) = { st with fr := fun _ => Val.dead } := by rw [← hen,← hcnt]
  rw [e,hs]
  exact ⟨rfl,rfl⟩
 ·cases h
theorem fold_fr {l : List LOper} {r : Nat → Res} {L : Nat → Bool} {st : St} {t : Nat} : ∀ (k : Nat),(∀ i,i < k → (l.getD i default).dst ≠ some t) → (foldE (fun k => effO (l.getD k default) (r k)) L st k).fr t = st.fr t
 | 0,_ => rfl
 | k + 1,h => by
  simp only [foldE]
  split
  ·simp only [effO]
   rw [putFr_other fun x hx e => h k (by omega) (by rw [hx,e])]
   exact fold_fr k fun i hi => h i (by omega)
  ·exact fold_fr k fun i hi => h i (by omega)
theorem lowOp_alloc {P : Program} {I : Operand → Bool} {op : Op} {z : List Val} (h : lowOp P I op = some (.alloc z)) : ∃ t,op = .alloc t ∧ lowZero P t = some z := by
 cases op
 case alloc t =>
  simp only [lowOp,Option.bind_eq_bind,Option.bind_eq_some_iff,Option.pure_def,Option.some.injEq,LOp.alloc.injEq] at h
  obtain ⟨z',h1,rfl⟩ := h
  exact ⟨t,rfl,h1⟩
 case binOp op t x y ty =>
  exfalso
  simp only [lowOp,Option.bind_eq_bind,Option.bind_eq_some_iff] at h
  obtain ⟨e,_,h⟩ := h
  split at h
  ·split at h
   ·simp [Option.bind_eq_some_iff] at h
   ·cases h
  ·split at h <;> simp [Option.bind_eq_some_iff] at h
 all_goals (exfalso; simp only [lowOp] at h; (repeat' split at h) <;> first | contradiction | (simp [Option.bind_eq_some_iff,Option.map_eq_some_iff] at h; done) | (have := lowZ_some h; simp at this))
theorem garb_sound {P : Program} {Ξ : Env} {B : Nat} {S : Nat → Nat → Prop} {G : Gh} {st : St} {N : Nat} {a : Act} {w : World} {o : Oper} {n : Nat} {call : CallFn} {io : Inl}
  (hR : Rel P Ξ B S G st N a w) {I : Operand → Bool} {ops : Array Oper} {lo : LOper} {st' : St} {r : Res} (hl : lowOper P I ops o = some lo) (hd : lo.dst.all (· < N) = true) (hlo : (lo.guard.isNone && (match lo.op with | .alloc _ => true | _ => false)) = true)
  (hs : step n call io 0 st (deadO lo) = some (st',r)) {ro : Option Nat} {m : Nat} {next : Act → World → Prop} {Q : Exit → Act → World → Prop} (k : ∀ a' w' G',Rel P Ξ B S G' st' N a' w' → Below B w w' → next a' w') :
  if Region.wanted o (yielded ops a.tmps) = true then o.wpIn (Fx ro) m P a w next Q else (∀ f,o.about P w a.eval = some f → (Fx ro).fn f) ∧ next (a.put o.dst undef) w := by
 simp only [lowOper,Option.bind_eq_bind,Option.bind_eq_some_iff,Option.pure_def,Option.some.injEq] at hl
 obtain ⟨lop,hop,g,hg,rfl⟩ := hl
 simp only [Bool.and_eq_true,Option.isNone_iff_eq_none] at hlo
 obtain ⟨rfl,hlo⟩ := hlo
 have hex : ∃ z,lop = .alloc z := by cases lop <;> first | exact ⟨_,rfl⟩ | cases hlo
 obtain ⟨z,rfl⟩ := hex
 obtain ⟨t,ho,hz⟩ := lowOp_alloc hop
 have hw : wanted st.fr none = some true := rfl
 rw [wanted_sound hR hg hw,if_pos rfl]
 have hst : st' = { st with fr := putFr st.fr o.dst .dead } := by
  simp [step,deadO,wanted,eval,St.get] at hs
  exact hs.1.symm
 subst hst
 obtain ⟨i,v,hi,hz,hs,ho1,hv⟩ := zero_sound (P := P) (G := G) (w := w) (T := Stab B S G w.heap.size) hz
 refine ⟨fun _ _ => trivial,?_⟩
 rw [semAt_of (x := .value (.pointer (some ⟨w.heap.size,0,none⟩))) (w' := w.alloc (.cells v.cells t)) (by simp [execOp,ho,Instr.alloc,run_zeroValue hi hz,newVar,newRow]) (by simp)]
 have hR' : Rel P Ξ B S G st N a (w.alloc (.cells v.cells t)) := hR.below ((Below.refl _ w).alloc (Nat.le_refl _) _)
 exact k _ _ G (hR'.putO' o.dst (v := .dead) (.dead _ rfl) hd) (below_alloc hR _)
section
variable {P : Program} {Ξ : Env} {B : Nat} {S : Nat → Nat → Prop} {N : Nat} {ops : Array Oper} {l : List LOper} {n : Nat} {call : CallFn} {io : Inl} {pan : CallFn} {pin : Nat → List Val → St → Option (Val × St)} {I : Operand → Bool} {ro : Option Nat} {m : Nat}
theorem anyP_sound (hcall : CallOk P call) (hio : InlOk P io) (hpan : PanOk P pan) (hpin : PinOk P pin) (hl : mapO (lowOper P I ops) ops.toList = some l) (hd : l.all (fun o => o.dst.all (· < N)) = true) {an : List (List Nat)} (han : ancs ops = some an)
  {ps : List (Nat × Nat)} (hps : drawPairs an l = some ps) {st : St} {j : Nat} {e : Ex} {st' : St} (hj : j < l.length) (hrunP : drawPan n call io pan pin l an ps j st = some (e,st')) {Q : Exit → Act → World → Prop}
  {G0 : Gh} {a0 : Act} {w0 : World} (hR0 : Rel P Ξ B S G0 st N a0 w0) (hQ : ∀ a' w' G' x,e.val x → RelE P Ξ B S G' st' N e a' w' → Below B w0 w' → Q (e.toExit x) a' w') :
  wpAnyIn (Fx ro) m P .any ops Q ops.size (Array.replicate ops.size false) a0 w0 := by
 obtain ⟨l1,l2⟩ := mapO_some hl
 have hN : l.length = ops.size := by rw [l1]; simp
 simp only [drawPan] at hrunP
 split at hrunP
 case h_2 => cases hrunP
 rename_i st1 rs hrun
 split at hrunP
 case isFalse => cases hrunP
 rename_i hck
 simp only [stillBut,Bool.and_eq_true,List.all_eq_true,List.mem_range,Bool.or_eq_true] at hck
 obtain ⟨hok,hstill⟩ := hck
 split at hrunP
 case h_2 => cases hrunP
 rename_i v st2 hpj
 simp only [Option.some.injEq,Prod.mk.injEq] at hrunP
 obtain ⟨rfl,rfl⟩ := hrunP
 obtain ⟨ps',hps',hsub⟩ := drawPairs_cut (j := j) hps
 have hok' := pairsOk_sub hok hsub
 obtain ⟨hrl,s,hrun',hsn⟩ := run_of_rec hrun
 have hN' : (cutAt an j l).length = ops.size := by rw [cutAt_length,hN]
 rw [hN'] at hrun' hsn
 have hlt := ancs_lt han
 have hw : ∀ i,i < (cutAt an j l).length → (((cutAt an j l).getD i default).op.writesMem = false → (rs.getD i noRes).quiet) ∧ (((cutAt an j l).getD i default).op.readsMem = false → (rs.getD i noRes).rs = []) :=
  fun i hi => (step_eff (hrun'.step i (by omega))).2.2
 have hfree : ∀ i k,i < k → k < ops.size → ¬ i ∈ an.getD k [] → Free ((cutAt an j l).getD i default) ((cutAt an j l).getD k default) (rs.getD i noRes) (rs.getD k noRes) :=
  fun i k hik hk ho => free_of hps' hok' hw (fun j i hj hi => hlt j i (by omega) hi) hik (by omega) ho
 have hjN : j < ops.size := by omega
 have atj : ∀ (L : Nat → Bool),ClosedD ops L → (∀ k,k ∈ an.getD j [] → L k = true) → (∀ k,behind an j k = true → L k = false) →
   panStep n pan pin (foldE (fun k => effO ((cutAt an j l).getD k default) (rs.getD k noRes)) L st ops.size) (l.getD j default) =
    some (v,{ fr := (foldE (fun k => effO ((cutAt an j l).getD k default) (rs.getD k noRes)) L st ops.size).fr,en := st2.en,cnt := st2.cnt }) := by
  intro L hcl hanc hbeh
  have hb : ∀ k,k < ops.size → (rs.getD k noRes).bump = true → ((cutAt an j l).getD k default).dst.isSome = true := fun k hk => (step_eff (hrun'.step k hk)).2.1
  have drop := foldE_drop (E := fun k => effO ((cutAt an j l).getD k default) (rs.getD k noRes)) (L := fun _ => true) (s := st) (n := ops.size)
   (fun a b => a.en = b.en ∧ a.cnt = b.cnt ∧ ∀ t ∈ (l.getD j default).uses,a.fr t = b.fr t) (fun _ => ⟨rfl,rfl,fun _ _ => rfl⟩) (fun a b c h k => ⟨h.1.trans k.1,h.2.1.trans k.2.1,fun t ht => (h.2.2 t ht).trans (k.2.2 t ht)⟩) L ops.size (Nat.le_refl _) (fun k hk _ hLk => by
    refine ⟨fun s => ?_,fun k2 hk2 hk2N _ hLk2 s => ?_⟩
    ·by_cases hbk : behind an j k = true
     ·have hst := hrun'.step k hk
      rw [cutAt_get (by omega),if_pos hbk] at hst
      have hr : rs.getD k noRes = { v := .nilp } := by
       simp only [nopO,step,wanted,eval,St.get,Option.some.injEq,Prod.mk.injEq] at hst
       simp at hst
       exact hst.2.symm
      rw [cutAt_get (by omega),if_pos hbk,hr]
      exact ⟨rfl,rfl,fun _ _ => rfl⟩
     ·have hnot : ¬ k ∈ an.getD j [] := fun h => by rw [hanc k h] at hLk; cases hLk
      have h0 := hstill k (by omega)
      simp only [hbk,Bool.false_eq_true,false_or,List.contains_eq_mem,decide_eq_true_eq,hnot] at h0
      split at h0
      case h_2 => cases h0
      rename_i r hr
      have hr' : rs.getD k noRes = r := by simp [List.getD_eq_getElem?_getD,hr]
      rw [hr']
      simp only [Res.still,Bool.and_eq_true,List.isEmpty_iff,Bool.not_eq_true',Option.isNone_iff_eq_none] at h0
      obtain ⟨⟨q1,q2⟩,q3⟩ := h0
      refine ⟨by simp only [effO,q3,q1,W.applyAll,List.foldl_nil],by simp only [effO,q3,q2,Bool.false_eq_true,if_false],fun t ht => ?_⟩
      simp only [effO]
      rw [cutAt_dst (by omega) hbk]
      refine putFr_other fun d hd he => ?_
      subst he
      simp only [drawPairs] at hps
      split at hps
      case isFalse => cases hps
      rename_i hall
      have hkj : k ≠ j := fun e => hbk (by simp [behind,e])
      have := List.all_eq_true.1 (List.all_eq_true.1 hall j (List.mem_range.2 (by omega))) k (List.mem_range.2 (by omega))
      simp only [Bool.or_eq_true,beq_iff_eq,hkj,false_or,hd] at this
      simp only [Bool.and_eq_true,bne_iff_ne,ne_eq,Bool.or_eq_true,Bool.not_eq_true',List.contains_eq_mem,decide_eq_true_eq,decide_eq_false_iff_not] at this
      rcases this.2 with h1 | h1 | h1
      ·exact h1 ht
      ·exact hnot h1
      ·exact hbk (by simp only [behind,List.contains_eq_mem,Bool.or_eq_true,decide_eq_true_eq]; exact .inr h1)
    ·have ho : ¬ k ∈ an.getD k2 [] := fun h => by
      have := ancs_closed han hcl k2 _ (Array.getElem?_eq_getElem hk2N) (hcl k2 _ (Array.getElem?_eq_getElem hk2N) hLk2) k h
      rw [this] at hLk; cases hLk
     exact (hfree k k2 hk2 hk2N ho).comm (hb k (by omega)) (hb k2 hk2N) s)
  have e1 : foldE (fun k => effO ((cutAt an j l).getD k default) (rs.getD k noRes)) (fun k => true && (L k || decide (k < ops.size))) st ops.size = st1 := by
   rw [foldE_congr (L' := fun _ => true) fun i hi => by simp [hi],← hrun'.fold _ (Nat.le_refl _),hsn]
  have e2 : foldE (fun k => effO ((cutAt an j l).getD k default) (rs.getD k noRes)) (fun k => true && L k) st ops.size = foldE (fun k => effO ((cutAt an j l).getD k default) (rs.getD k noRes)) L st ops.size := by
   exact foldE_congr fun i _ => by simp
  rw [e1,e2] at drop
  exact (panStep_like hpj drop.1.symm drop.2.1.symm fun t ht => (drop.2.2 t ht).symm).1
 have main : ∀ (fuel : Nat) (listed : Array Bool) (G : Gh) (a : Act) (w : World),listed.size = ops.size → (List.range ops.size).countP (fun i => !listed.getD i false) ≤ fuel → ClosedD ops (fun i => listed.getD i false) → (∀ k,k < ops.size → behind an j k = true → listed.getD k false = false) →
   Rel P Ξ B S G (foldE (fun k => effO ((cutAt an j l).getD k default) (rs.getD k noRes)) (fun i => listed.getD i false) st ops.size) N a w → Below B w0 w →
   wpAnyIn (Fx ro) m P .any ops Q fuel listed a w := by
  have jready : ∀ (listed : Array Bool),listed.size = ops.size → listed.getD j false = false → Region.ready .any ops listed ≠ [] := by
   intro listed hsz hb hr
   have : ∀ i,i < ops.size → listed.getD i false = true := by
    intro i
    induction i using Nat.strongRecOn with
    | ind i ih =>
     intro hi
     cases hb : listed.getD i false with
     | true => rfl
     | false =>
      exfalso
      have hm : i ∈ Region.ready .any ops listed := by
       rw [mem_ready]
       refine ⟨?_,ops[i],Array.getElem?_eq_getElem hi,fun e he hbd => ?_⟩
       ·rw [Array.getD_eq_getD_getElem?,Array.getElem?_eq_getElem (by omega)] at hb ⊢; simpa using hb
       ·have hk : e.on ∈ direct ops[i] := List.mem_map.2 ⟨e,List.mem_filter.2 ⟨by simpa using he,hbd⟩,rfl⟩
        have := (ancs_spec han (Array.getElem?_eq_getElem hi)).1 _ hk
        exact ih _ this (by omega)
      rw [hr] at hm; simp at hm
   rw [this j hjN] at hb; cases hb
  intro fuel
  induction fuel with
  | zero =>
   intro listed G a w hsz hc hcl hbeh hR hB
   exfalso
   have hb := hbeh j hjN (by simp [behind])
   have := List.countP_pos_iff (p := fun i => !listed.getD i false) (l := List.range ops.size) |>.2 ⟨j,List.mem_range.2 hjN,by simp only [hb]; rfl⟩
   omega
  | succ fuel ih =>
   intro listed G a w hsz hc hcl hbeh hR hB
   refine ⟨fun hr => absurd hr (jready listed hsz (hbeh j hjN (by simp [behind]))),fun i hm => ?_⟩
   obtain ⟨h0,o,ho,hready⟩ := mem_ready.1 hm
   have hi := (Array.getElem?_eq_some_iff.1 ho).1
   have hoi : o = ops[i] := by rw [Array.getElem?_eq_getElem hi,Option.some.injEq] at ho; exact ho.symm
   have hb : listed.getD i false = false := by
    rw [Array.getD_eq_getD_getElem?,Array.getElem?_eq_getElem (by omega)] at h0 ⊢; simpa using h0
   have hdir : ∀ k ∈ direct o,listed.getD k false = true := by
    intro k hk
    obtain ⟨e,he,rfl⟩ := List.mem_map.1 hk
    obtain ⟨he1,he2⟩ := List.mem_filter.1 he
    exact hready e (by simpa using he1) he2
   have hanci : ∀ k ∈ an.getD i [],listed.getD k false = true := fun k hk => ancs_closed han hcl i o ho hdir k hk
   have hil : i < l.length := by omega
   have hlow := l2 i (by simpa using hi) hil
   simp only [Array.getElem_toList] at hlow
   have hli : l.getD i default = l[i] := by simp [List.getD_eq_getElem?_getD,hil]
   unfold wpOpIn
   rw [Array.getElem?_eq_getElem hi]
   by_cases hij : i = j
   ·subst hij
    have hp := atj (fun i => listed.getD i false) hcl hanci (fun k hk => by
     by_cases hkN : k < ops.size
     ·exact hbeh k hkN hk
     ·rw [Array.getD_eq_getD_getElem?,Array.getElem?_eq_none (by omega)]; rfl)
    rw [hli] at hp
    obtain ⟨q1,q2⟩ := panStep_sound (ops := ops) (ro := ro) (m := m) (next := fun a w => wpAnyIn (Fx ro) m P .any ops Q fuel (listed.setIfInBounds i true) a w) (Q := Q) hpan hpin hR hlow hp fun a' w' G' x h1 h2 h3 => by
     refine hQ a' w' G' x h1 ?_ (hB.trans h3)
     have hfr : st2.fr = st1.fr := (panStep_like hpj rfl rfl fun _ _ => rfl).2
     refine ⟨a'.tmps.mapIdx fun t y => if dstIn l t then undef else y,?_,fun h => (by cases h),fun t ht => ?_⟩
     ·refine ⟨h2.size,by simpa using h2.tmps,fun t => ?_,h2.marks,h2.ents,h2.freshEn,h2.freshG,h2.own,h2.extra,h2.round,h2.defs,h2.virt⟩
      have hfrm := h2.frame t
      simp only at hfrm ⊢
      by_cases hdt : dstIn l t = true
      ·rw [if_pos hdt]
       have : (a'.tmps.mapIdx fun t y => if dstIn l t then undef else y).getD t undef = undef := by
        simp only [Array.getD_eq_getD_getElem?,Array.getElem?_mapIdx]
        cases a'.tmps[t]? with
        | none => rfl
        | some y => simp [hdt]
       rw [this]; exact .tup [] #[] rfl (fun i hi => by simp at hi)
      ·rw [if_neg hdt]
       have e1 : (a'.tmps.mapIdx fun t y => if dstIn l t then undef else y).getD t undef = a'.tmps.getD t undef := by
        simp only [Array.getD_eq_getD_getElem?,Array.getElem?_mapIdx]
        cases a'.tmps[t]? with
        | none => rfl
        | some y => simp [hdt]
       have hne : ∀ k,k < ops.size → ((cutAt an i l).getD k default).dst ≠ some t := by
        intro k hk he
        by_cases hbk : behind an i k = true
        ·rw [cutAt_get (by omega),if_pos hbk] at he
         cases he
        ·rw [cutAt_dst (by omega) hbk] at he
         refine hdt ?_
         simp only [dstIn,List.any_eq_true,beq_iff_eq]
         exact ⟨l[k],List.getElem_mem (by omega),by simpa [List.getD_eq_getElem?_getD,show k < l.length by omega] using he⟩
       rw [fold_fr (r := fun k => rs.getD k noRes) ops.size hne] at hfrm
       have e2 : st2.fr t = st.fr t := by
        rw [hfr,← hsn,hrun'.fold _ (Nat.le_refl _)]
        exact fold_fr (r := fun k => rs.getD k noRes) ops.size hne
       rw [e1,e2]; exact hfrm
     ·simp only at ht
      split at ht
      ·cases ht
      ·rename_i hdt
       simp only [Array.getD_eq_getD_getElem?,Array.getElem?_mapIdx]
       cases a'.tmps[t]? with
       | none => rfl
       | some y => simp [hdt]
    simp only [q1,if_true]
    exact q2
   ·have hbi : ¬ behind an j i = true := fun h => by
     simp only [behind,List.contains_eq_mem,Bool.or_eq_true,beq_iff_eq,decide_eq_true_eq] at h
     rcases h with h | h
     ·exact hij h
     ·have := hanci j h
      rw [hbeh j hjN (by simp [behind])] at this; cases this
    have hst := draw_step hrun' (ord := fun i j => j < ops.size ∧ i ∈ an.getD j []) (fun i j h => hlt j i h.1 h.2) (fun i j hij hj ho => hfree i j hij hj fun h => ho ⟨hj,h⟩) (L := fun i => listed.getD i false)
     (fun j hj hLj i hord => ancs_closed han hcl j _ (Array.getElem?_eq_getElem hj) (hcl j _ (Array.getElem?_eq_getElem hj) hLj) i hord.2) hi hb
     (fun k hk => hanci k hk.2)
    rw [cutAt_get hil,if_neg hbi,hli] at hst
    have hset : ∀ k,(listed.setIfInBounds i true).getD k false = (k == i || listed.getD k false) := by
     intro k
     by_cases hk : k = i
     ·subst hk
      simp [show k < listed.size by omega]
     ·rw [getD_set_ne false fun e => hk e.symm]
      have : (k == i) = false := by simpa using hk
      rw [this,Bool.false_or]
    have go : ∀ a' w' G',Rel P Ξ B S G' (foldE (fun k => effO ((cutAt an j l).getD k default) (rs.getD k noRes)) (fun k => k == i || listed.getD k false) st ops.size) N a' w' → Below B w w' → wpAnyIn (Fx ro) m P .any ops Q fuel (listed.setIfInBounds i true) a' w' := by
     intro a' w' G' h1 h2
     refine ih _ G' a' w' (by simpa using hsz) ?_ ?_ ?_ ?_ (hB.trans h2)
     ·have := countP_put (fun i => !listed.getD i false) (fun k => !(listed.setIfInBounds i true).getD k false) i (by simp only [hb]; rfl) (by simp only [hset]; simp) (fun k hk => by
       simp only [hset]
       have : (k == i) = false := by simpa using hk
       rw [this,Bool.false_or]) ops.size hi
      omega
     ·intro j oj hoj hLj k hk
      simp only [hset] at hLj ⊢
      by_cases hj : j = i
      ·subst hj
       rw [ho,Option.some.injEq] at hoj; subst hoj
       rw [hdir k hk,Bool.or_true]
      ·have : (j == i) = false := by simpa using hj
       rw [this,Bool.false_or] at hLj
       have h5 : listed.getD k false = true := hcl j oj hoj hLj k hk
       rw [h5,Bool.or_true]
     ·intro k hkN hk
      rw [hset]
      have : (k == i) = false := by
       simp only [beq_eq_false_iff_ne,ne_eq]
       rintro rfl
       exact hbi hk
      rw [this,Bool.false_or]
      exact hbeh k hkN hk
     ·rw [foldE_congr (L' := fun k => k == i || listed.getD k false) fun k _ => hset k]
      exact h1
    by_cases hlo : loneV an j l i = true
    ·rw [if_pos hlo] at hst
     exact garb_sound hR hlow (List.all_eq_true.1 hd _ (List.getElem_mem hil)) (by simp only [loneV,Bool.and_eq_true,hli] at hlo ⊢; exact ⟨hlo.1.2,hlo.2⟩) hst go
    ·rw [if_neg hlo] at hst
     exact step_sound hcall hio hR hlow (List.all_eq_true.1 hd _ (List.getElem_mem hil)) hst go
 refine main ops.size (Array.replicate ops.size false) G0 a0 w0 (by simp) (Nat.le_trans List.countP_le_length (by simp)) ?_ ?_ ?_ (Below.refl _ _)
 ·intro j o ho hL
  simp [Array.getElem?_replicate] at hL
  split at hL <;> simp at hL
 ·intro k hk _
  simp [Array.getD_eq_getD_getElem?,Array.getElem?_replicate,hk]
 ·rw [foldE_congr (L' := fun _ => false) fun i _ => by simp [Array.getElem?_replicate]; split <;> simp]
  have : ∀ (k : Nat),foldE (fun k => effO ((cutAt an j l).getD k default) (rs.getD k noRes)) (fun _ => false) st k = st := by
   intro k; induction k with
   | zero => rfl
   | succ k ih => simp only [foldE,Bool.false_eq_true,if_false]; exact ih
  rw [this]; exact hR0
end
theorem first_lt {n : Nat} {call : CallFn} {io : Inl} {pan : CallFn} {pin : Nat → List Val → St → Option (Val × St)} : ∀ (l : List LOper) {i j : Nat} {st : St},firstP n call io pan pin l i st = some j → j < i + l.length
 | [],_,_,_,h => by cases h
 | o :: l,i,j,st,h => by
  simp only [firstP] at h
  split at h
  ·simp only [Option.some.injEq] at h; subst h; simp only [List.length_cons]; omega
  ·split at h
   case h_2 => cases h
   have := first_lt l h
   simp only [List.length_cons]; omega
end Go.Abs
namespace Go.Abs
open Go.RowKit (Below)
variable [Inhabited Glob]
def ExecOk (P : Program) (L : Prog) (n : Nat) : Prop := ∀ (I : Operand → Bool) (N : Nat) (c : Code) (st : St) (e : Ex) (st' : St) (Ξ : Env) (B : Nat) (S : Nat → Nat → Prop) (G : Gh) (a : Act) (w : World) (Q : Exit → Act → World → Prop) (m : Nat),
 (lower P I c).dstOk N = true → (Ξ.nm = true → (lower P I c).noRg = true) → Rel P Ξ B S G st N a w → exec L n (lower P I c) st = some (e,st') → (∀ a' w' G' x,e.val x → RelE P Ξ B S G' st' N e a' w' → Below B w w' → Q (e.toExit x) a' w') → c.wpIn (Fx Ξ.ro) m P Q a w
theorem res_sound {P : Program} {Ξ : Env} {B : Nat} {S : Nat → Nat → Prop} {G : Gh} {st : St} {N : Nat} {a : Act} {w : World} (hR : Rel P Ξ B S G st N a w) {rv : ResultVar} {lr : LRes} (hl : lowRes P rv = some lr) {v : Val} (hv : readRes st lr = some v) :
  ∃ x,(match rv with
   | .tmp t => (pure (a.tmps.getD t undef) : Sem Value)
   | .cell c t => do loadVar t (← asAddr (a.tmps.getD c undef))).run P w = .ok x w ∧ VR (Stab B S G w.heap.size) G w v x := by
 cases rv with
 | tmp t =>
  simp only [lowRes,Option.some.injEq] at hl; subst hl
  simp only [readRes,Option.some.injEq] at hv; subst hv
  exact ⟨_,rfl,hR.frame t⟩
 | cell c t =>
  simp only [lowRes] at hl
  split at hl
  case isFalse => cases hl
  rename_i hu
  simp only [Option.some.injEq] at hl; subst hl
  simp only [readRes] at hv
  split at hv
  case h_2 => cases hv
  rename_i cs rs hr
  obtain ⟨b,off,hx,hlen,hc⟩ := read_sound hR (hR.frame c) hr
  obtain ⟨x,h1,h2⟩ := run_loadVar_of hu rfl hlen hc hv
  refine ⟨x,?_,h2⟩
  simp only [hx,asAddr,Sem.run_bind,Sem.run_pure,Result.andThen_ok,h1]
theorem ress_sound {P : Program} {Ξ : Env} {B : Nat} {S : Nat → Nat → Prop} {G : Gh} {st : St} {N : Nat} {a : Act} {w : World} (hR : Rel P Ξ B S G st N a w) : ∀ (rvs : List ResultVar) (lrs : List LRes) (vs : List Val),
  mapO (lowRes P) rvs = some lrs → mapO (readRes st) lrs = some vs →
  ∃ xs : List Value,(rvs.mapM fun (rv : ResultVar) => (match rv with
   | .tmp t => (pure (a.tmps.getD t undef) : Sem Value)
   | .cell c t => do loadVar t (← asAddr (a.tmps.getD c undef)))).run P w = .ok xs w ∧ xs.length = vs.length ∧ ∀ i,i < vs.length → VR (Stab B S G w.heap.size) G w (vs.getD i .dead) (xs.getD i undef)
 | [],lrs,vs,h1,h2 => by
  simp only [mapO,Option.some.injEq] at h1; subst h1
  simp only [mapO,Option.some.injEq] at h2; subst h2
  exact ⟨[],rfl,rfl,fun i hi => by simp at hi⟩
 | rv :: rvs,lrs,vs,h1,h2 => by
  simp only [mapO] at h1
  split at h1
  case h_2 => cases h1
  rename_i lr hl
  split at h1
  case h_2 => cases h1
  rename_i lrs' hls
  simp only [Option.some.injEq] at h1; subst h1
  simp only [mapO] at h2
  split at h2
  case h_2 => cases h2
  rename_i v hv
  split at h2
  case h_2 => cases h2
  rename_i vs' hvs
  simp only [Option.some.injEq] at h2; subst h2
  obtain ⟨x,e1,e2⟩ := res_sound hR hl hv
  obtain ⟨xs,f1,f2,f3⟩ := ress_sound hR rvs lrs' vs' hls hvs
  refine ⟨x :: xs,?_,by simp [f2],fun i hi => ?_⟩
  ·rw [List.mapM_cons,Sem.run_bind,e1,Result.andThen_ok,Sem.run_bind,f1,Result.andThen_ok]; rfl
  ·match i with
   | 0 => simpa using e2
   | i + 1 => simpa using f3 i (by simpa using hi)
theorem results_sound {P : Program} {Ξ : Env} {B : Nat} {S : Nat → Nat → Prop} {G : Gh} {st : St} {N : Nat} {a : Act} {w : World} (hR : Rel P Ξ B S G st N a w) {fn : Func} {lrs : List LRes} {vs : List Val}
  (h1 : mapO (lowRes P) fn.results.toList = some lrs) (h2 : mapO (readRes st) lrs = some vs) : ∃ x,(results fn a.tmps).run P w = .ok x w ∧ VR (Stab B S G w.heap.size) G w (tupOf vs) x := by
 obtain ⟨xs,hrun,hxl,hxv⟩ := ress_sound hR fn.results.toList lrs vs h1 h2
 refine ⟨if h : xs.length = 1 then xs[0] else .tuple xs.toArray,?_,?_⟩
 ·have : (fn.results.mapM fun (rv : ResultVar) => (match rv with
   | .tmp t => (pure (a.tmps.getD t undef) : Sem Value)
   | .cell c t => do loadVar t (← asAddr (a.tmps.getD c undef)))).run P w = .ok xs.toArray w := by
   rw [Array.mapM_eq_mapM_toList,Sem.run_map,hrun]; rfl
  simp only [results,Sem.run_bind]
  refine Eq.trans (congrArg (fun z => Result.andThen z _) this) ?_
  simp
 ·unfold tupOf
  split
  ·rename_i v1
   have h1 : xs.length = 1 := by simpa using hxl
   rw [dif_pos h1]
   have := hxv 0 (by simp)
   simpa [List.getD_eq_getElem?_getD,h1] using this
  ·rename_i hne
   have h1 : ¬ xs.length = 1 := by
    rw [hxl]; intro h1
    match vs,h1 with
    | [v1],_ => exact hne v1 rfl
   rw [dif_neg h1]
   exact .tup vs xs.toArray (by simp [hxl]) fun i hi => by
    have := hxv i hi
    simpa [List.getD_eq_getElem?_getD,Array.getD_eq_getD_getElem?] using this
def shutAll (w : World) : List Nat → World
 | [] => w
 | D :: Ds => shutAll (wput w D (.deferred none)) Ds
theorem shut_size (w : World) : ∀ Ds,(shutAll w Ds).heap.size = w.heap.size
 | [] => rfl
 | D :: Ds => by rw [shutAll,shut_size _ Ds,wput_size]
theorem shut_other : ∀ (Ds : List Nat) (w : World) {b : Nat},b ∉ Ds → (shutAll w Ds).heap[b]? = w.heap[b]?
 | [],_,_,_ => rfl
 | D :: Ds,w,b,h => by
  simp only [List.mem_cons,not_or] at h
  rw [shutAll,shut_other Ds _ h.2,wput_other _ h.1]
theorem shut_below {B : Nat} : ∀ (Ds : List Nat) (w : World),(∀ D ∈ Ds,B ≤ D) → Below B w (shutAll w Ds)
 | [],w,_ => Below.refl _ _
 | D :: Ds,w,h => (below_put (w := w) (h D (by simp))).trans (shut_below Ds _ fun D' hD' => h D' (by simp [hD']))
theorem putObj_wput (w : World) (D : Nat) (o : Obj) : w.putObj D o = wput w D o := rfl
theorem leaves_sound {F : Fence} {n : Nat} {P : Program} {fn : Func} {tmps : Array Value} {R : Ending → World → Prop} {u : FrameMode} (hu : u ≠ .run) {tl : List Deferred} : ∀ (Ds : List Nat) (w : World),Ds.Nodup → (∀ D ∈ Ds,w.heap[D]? = some (.deferred (some []))) →
  LeavesInM F n P fn tmps R tl u (shutAll w Ds) → LeavesInM F n P fn tmps R (Ds.map mark ++ tl) u w
 | [],w,_,_,h => h
 | D :: Ds,w,hn,hD,h => by
  rw [List.nodup_cons] at hn
  refine ⟨hu,.inl ⟨D,_,rfl,run_takeDeferred (hD D (by simp)),?_⟩⟩
  rw [putObj_wput]
  refine leaves_sound hu Ds _ hn.2 (fun D' hD' => ?_) h
  have hne : D' ≠ D := by rintro rfl; exact hn.1 hD'
  rw [wput_other _ hne]
  exact hD D' (by simp [hD'])
end Go.Abs
namespace Go.Abs
open Go.RowKit (Below)
variable [Inhabited Glob]
theorem Rel.shut {P : Program} {Ξ : Env} {B : Nat} {S : Nat → Nat → Prop} {G : Gh} {st : St} {N : Nat} {a : Act} {w : World} (hR : Rel P Ξ B S G st N a w) :
  ∃ Ds : List Nat,a.defers = Ds.map mark ++ Ξ.tail ∧ Ds.Nodup ∧ (∀ D ∈ Ds,w.heap[D]? = some (.deferred (some []))) ∧ (∀ D ∈ Ds,B ≤ D) ∧ (Ξ.nm = true → Ds = []) ∧ Rel P Ξ B S G st N { a with defers := Ξ.tail } (shutAll w Ds) := by
 obtain ⟨Ds,h1,⟨h2,h2'⟩,h3⟩ := hR.marks
 have hoth : ∀ {b : Nat} {o : Obj},w.heap[b]? = some o → o ≠ .deferred (some []) → (shutAll w Ds).heap[b]? = some o := by
  intro b o ho hne
  rw [shut_other Ds w fun hb => hne (by rw [(h3 b hb).2.2] at ho; exact (Option.some.inj ho).symm)]; exact ho
 have hcell : ∀ {b q : Nat} {c : Value},w.cell? ⟨b,q,.none⟩ = some c → (shutAll w Ds).cell? ⟨b,q,.none⟩ = some c := by
  intro b q c hc
  by_cases hb : b ∈ Ds
  ·simp only [World.cell?,(h3 b hb).2.2] at hc; cases hc
  ·rw [cell_of_heap (shut_other Ds w hb)]; exact hc
 have m : Mono4 (Stab B S G w.heap.size) G w (Stab B S G (shutAll w Ds).heap.size) G (shutAll w Ds) :=
  ⟨fun b q h => by rw [shut_size]; exact h,G.le_refl,fun b q c _ h => hcell h,fun r es cl _ h => hoth h (by simp)⟩
 refine ⟨Ds,h1,h2,fun D hD => (h3 D hD).2.2,fun D hD => (h3 D hD).1,h2',?_⟩
 refine hR.change4 (a' := { a with defers := Ξ.tail }) (G' := G) (en' := st.en) (cnt' := st.cnt) rfl m (by rw [shut_size]; exact Nat.le_refl _) (fun k e he hkn => ?_) (fun k hk => ⟨hR.freshEn k hk,hR.freshG k hk⟩) (fun b k t hb => by rw [shut_size]; exact hR.own b k t hb)
  (fun _ _ h => h) ⟨[],rfl,⟨List.nodup_nil,fun _ => rfl⟩,fun D hD => by simp at hD⟩ (fun l hl => let ⟨r,hr⟩ := hR.round l hl; ⟨r,hoth hr (by simp)⟩) (fun D hD => ?_) hR.virt
 ·have hE := hR.ents k e he hkn
  cases hE with
  | box cs frz b c t hb hB h hs ho hv hown => exact .box cs frz b c t hb hB (hoth h (by simp)) hs ho (fun j hj => (hv j hj).mono4 m) hown
  | nul sz frz h => exact .nul sz frz h
  | blk xs frz b base sz C thr c t hb hB h hC hC' hs ho hv hown hthr => exact .blk xs frz b base sz C thr c t hb hB (hoth h (by simp)) hC hC' hs ho (fun i j hi hj => (hv i j hi hj).mono4 (m.at k)) hown hthr
  | full xs b base sz c hb hs h ht ho hv => exact .full xs b base sz c hb hs (fun i j hi hj => hcell (h i j hi hj)) (fun i j hi hj => m.t _ _ (ht i j hi hj)) ho (fun i j hi hj => (hv i j hi hj).mono4 m.none)
  | map ks vs frz r es clock hr hB h hk hl hkv hvv hown => exact .map ks vs frz r es clock hr hB (hoth h (by simp)) hk hl (fun i hi => (hkv i hi).mono4 m.none) (fun i hi => (hvv i hi).mono4 m.none) hown
  | loop fr ps la lb s l rec I N' hl hB h hps ha hb hN hpN haN hbN hf hst hown => exact .loop fr ps la lb s l rec I N' hl hB (hoth h (by simp)) hps ha hb hN hpN haN hbN (fun i => (hf i).mono4 m) hst hown
  | iter s pos r hr hB h hown => exact .iter s pos r hr hB (hoth h (by simp)) hown
 ·rw [shut_other Ds w fun h => (h3 D h).2.1 hD]; exact hR.defs D hD
theorem low_spec {P : Program} {I : Operand → Bool} {keep amb : Bool} {fn : Func} {lf : LFunc} (h : lowFunc P I keep amb fn = some lf) :
  ∃ c,fn.body = some c ∧ lowBody P I (resTmps fn.results.toList) c = some lf.body ∧ lf.body.dstOk fn.ntmps = true ∧ lf.np ≤ fn.ntmps ∧ (fn.name == "runtime.NumGoroutine") = false ∧ mapO (lowRes P) fn.results.toList = some lf.res := by
 simp only [lowFunc] at h
 split at h
 ·cases h
 rename_i c hbody
 split at h
 ·cases h
 rename_i lc hlc
 split at h
 case isFalse => cases h
 rename_i hck
 simp only [Bool.and_eq_true,decide_eq_true_eq,bne_iff_ne,ne_eq] at hck
 obtain ⟨lres,hres,rfl⟩ := Option.map_eq_some_iff.1 h
 exact ⟨c,hbody,hlc,hck.1.1,hck.1.2,by simpa using hck.2,hres⟩
def LowOk (P : Program) (L : Prog) : Prop := ∀ f lf,L f = some lf → ∃ fn I keep amb,P.funcs[f]? = some fn ∧ lowFunc P I keep amb fn = some lf
def act0 (fn : Func) (vals : Array Value) : Act := { tmps := vals ++ Array.replicate (fn.ntmps - vals.size) undef,defers := [] }
def Ex.fin (P : Program) (fn : Func) (a : Act) (w : World) (R : Ending → World → Prop) (x : Value) : Ex → Prop
 | .normal | .ret => ∃ y,(results fn a.tmps).run P w = .ok y w ∧ R (.returned y) w
 | .panic _ => R (.panicked (chainOf x)) w
 | .exit _ => False
def FnOk (P : Program) (L : Prog) (n : Nat) : Prop := ∀ (f : Nat) (fn : Func) (lf : LFunc) (I : Operand → Bool) (keep amb : Bool) (e : Ex) (st0 st' : St) (Ξ : Env) (B : Nat) (S : Nat → Nat → Prop) (G : Gh) (vals : Array Value) (w : World) (R : Ending → World → Prop),
 P.funcs[f]? = some fn → lowFunc P I keep amb fn = some lf → exec L n lf.body st0 = some (e,st') → Ξ.ro = none → Ξ.tail = [] → Ξ.nm = false → Rel P Ξ B S G st0 fn.ntmps (act0 fn vals) w →
 (∀ a1 w1 G1 x,e.val x → a1.defers = [] → Rel P Ξ B S G1 st' fn.ntmps a1 w1 → Below B w w1 → e.fin P fn a1 w1 R x) → Calls P f vals w R
theorem plain_end {P : Program} {fn : Func} {e : Ex} {st' : St} {Ξ : Env} {B : Nat} {S : Nat → Nat → Prop} {G1 : Gh} {a1 : Act} {w w1 : World} {R : Ending → World → Prop} {x : Value} {m : Nat} (ht : Ξ.tail = []) (hx : e.val x) (hR1 : RelE P Ξ B S G1 st' fn.ntmps e a1 w1) (hb : Below B w w1)
  (k : ∀ a1 w1 G1 x,e.val x → a1.defers = [] → Rel P Ξ B S G1 st' fn.ntmps a1 w1 → Below B w w1 → e.fin P fn a1 w1 R x) : bodyPostM Fence.wide m P fn R (e.toExit x) a1 w1 := by
 obtain ⟨tm,hR1,htm,_⟩ := hR1
 obtain ⟨Ds,q1,q2,q3,q4,_,hR⟩ := hR1.shut
 have hk := k _ _ _ x hx ht hR (hb.trans (shut_below Ds w1 q4))
 replace q1 : a1.defers = Ds.map mark ++ Ξ.tail := q1
 cases e with
 | normal =>
  simp only [bodyPostM,Ex.toExit]
  rw [q1,ht]
  have := htm rfl
  subst this
  exact leaves_sound (by simp) Ds w1 q2 q3 hk
 | exit id => exact hk.elim
 | ret =>
  simp only [bodyPostM,Ex.toExit]
  rw [q1,ht]
  have := htm rfl
  subst this
  exact leaves_sound (by simp) Ds w1 q2 q3 hk
 | panic v =>
  simp only [bodyPostM,Ex.toExit]
  rw [q1,ht]
  exact leaves_sound (by simp) Ds w1 q2 q3 hk
theorem rel_start {P : Program} {S : Nat → Nat → Prop} {w : World} {vals : Array Value} {args : List Val} {fn : Func} (hS : ∀ b o,S b o → b < w.heap.size) (hgl : GlobOk S w) (hvl : vals.size = args.length) (hnp : args.length ≤ fn.ntmps)
  (hv : ∀ i,i < args.length → VR S Gh.none w (args.getD i .dead) (vals.getD i undef)) : Rel P { prs := fun _ _ => False,ro := none,rnd := fun _ => False,defs := fun _ => False } w.heap.size S Gh.none (start args) fn.ntmps (act0 fn vals) w := by
 unfold act0
 refine ⟨Nat.le_refl _,by simp; omega,fun i => ?_,⟨[],rfl,⟨List.nodup_nil,fun _ => rfl⟩,fun D hD => by simp at hD⟩,fun k e hk => by simp [start] at hk,fun _ _ => rfl,fun _ _ => ⟨rfl,rfl,rfl⟩,fun b k t hb => by simp [Gh.none] at hb,fun v x h => (hgl.mono (fun b o h => ⟨hS b o h,.inl ⟨hS b o h,h⟩⟩)) v x (h.resolve_left id),
  fun l hl => by rcases hl with h | h; cases h; exact h.elim,fun _ h => h.elim,fun _ h => h.elim⟩
 simp only [start]
 by_cases hi : i < args.length
 ·have h1 := (hv i hi).mono4 (T' := Stab w.heap.size S Gh.none w.heap.size) (G' := Gh.none) (w' := w) ⟨fun b o h => ⟨hS b o h,.inl ⟨hS b o h,h⟩⟩,Gh.le_refl _,fun _ _ _ _ h => h,fun _ _ _ _ h => h⟩
  have e1 : args.getD i (.tup []) = args.getD i .dead := by simp [List.getD_eq_getElem?_getD,hi]
  have e2 : (vals ++ Array.replicate (fn.ntmps - vals.size) undef).getD i undef = vals.getD i undef := by
   simp only [Array.getD_eq_getD_getElem?]; rw [Array.getElem?_append_left (by omega)]
  rw [e1,e2]; exact h1
 ·have e1 : args.getD i (.tup []) = .tup [] := by simp [List.getD_eq_getElem?_getD,List.getElem?_eq_none (Nat.le_of_not_lt hi)]
  have e2 : (vals ++ Array.replicate (fn.ntmps - vals.size) undef).getD i undef = undef := by
   simp only [Array.getD_eq_getD_getElem?]; rw [Array.getElem?_append_right (by omega)]
   simp only [Array.getElem?_replicate]; split <;> rfl
  rw [e1,e2]; exact .tup [] #[] rfl (fun i hi => by simp at hi)
theorem body_step {P : Program} {L : Prog} (hL : LowOk P L) {n k : Nat} (ih : FnOk P L n) {f : Nat} {lf : LFunc} (hlf : L f = some lf) {args : List Val} {r : Val} (hlen : args.length = lf.np) (h : callBody lf k (exec L n) args = some r) :
  (∃ fn,P.funcs[f]? = some fn ∧ (fn.name == "runtime.NumGoroutine") = false ∧ fn.body.isNone = false) ∧
  ∀ (S : Nat → Nat → Prop) (w : World) (vals : Array Value),(∀ b o,S b o → b < w.heap.size) → GlobOk S w → vals.size = args.length → (∀ i,i < args.length → VR S Gh.none w (args.getD i .dead) (vals.getD i undef)) →
   Calls P f vals w fun e w' => ∃ v,e = .returned v ∧ Below w.heap.size w w' ∧ ResR w.heap.size (Gone w S w') w' r v := by
 obtain ⟨fn,I,keep,amb,hfn,hlow⟩ := hL f lf hlf
 obtain ⟨c,hbody,hlb,hdst,hnp,hname,hres⟩ := low_spec hlow
 simp only [callBody] at h
 split at h
 case h_2 => cases h
 rename_i e st hx
 split at h
 case isFalse => cases h
 rename_i hends
 refine ⟨⟨fn,hfn,hname,by rw [hbody]; rfl⟩,fun S w vals hS hgl hvl hv => ?_⟩
 let Ξ : Env := { prs := fun _ _ => False,ro := none,rnd := fun _ => False,defs := fun _ => False }
 have hR0 := rel_start (P := P) (fn := fn) hS hgl hvl (by omega) hv
 refine ih f fn lf I keep amb e (start args) st Ξ w.heap.size S Gh.none vals w _ hfn hlow hx rfl rfl rfl hR0 fun a1 w1 G1 x1 _ _ hR hbl => ?_
 simp only [resultOf] at h
 split at h
 case h_2 => cases h
 rename_i vs hvs
 obtain ⟨x,hrun,hval⟩ := results_sound hR hres hvs
 have ends : ResR w.heap.size (Gone w S w1) w1 r x → e.fin P fn a1 w1 (fun e w' => ∃ v,e = .returned v ∧ Below w.heap.size w w' ∧ ResR w.heap.size (Gone w S w') w' r v) x1 := by
  intro hr
  cases e with
  | normal => exact ⟨x,hrun,x,rfl,hbl,hr⟩
  | exit id => cases hends
  | ret => exact ⟨x,hrun,x,rfl,hbl,hr⟩
  | panic v => cases hends
 split at h
 ·rename_i r' hown
  simp only [Option.some.injEq] at h; subst h
  split at hown
  case isFalse => cases hown
  have hor : ResR w.heap.size (Gone w S w1) w1 r' x := by
   unfold ownOf at hown
   split at hown
   case h_2 => cases hown
   rename_i key n htv
   split at hown
   case h_2 => cases hown
   rename_i sz xs hk
   split at hown
   case isFalse => cases hown
   rename_i hn
   obtain ⟨hn,hdp⟩ := hn
   simp only [Option.some.injEq] at hown; subst hown
   rw [htv] at hval
   have hE := hR.ents key _ hk hval.knows_bl
   cases hval with
   | bl0 _ p hb =>
    cases hE with
    | nul _ _ _ => exact .inl ⟨rfl,p,rfl⟩
    | blk _ _ b base sz C thr c t hb1 => rw [hb] at hb1; cases hb1
   | ble _ p b base sz C hb =>
    rename_i hx0
    cases hE with
    | nul _ _ hb1 => rw [hb] at hb1; cases hb1
    | blk _ _ b base sz C' thr c t hb1 _ _ hC =>
     rw [hb] at hb1; simp only [Option.some.injEq,Prod.mk.injEq] at hb1
     have hxs : xs = [] := List.length_eq_zero_iff.1 (by omega)
     exact .inl ⟨hxs,p,rfl⟩
   | bl _ _ _ b base sz' C hb hl =>
    cases hE with
    | nul _ _ hb1 => rw [hb] at hb1; cases hb1
    | blk _ _ b1 base1 _ C1 thr c t hb1 hB hh hC hC' hs ho hv hown hthr =>
     rw [hb] at hb1; simp only [Option.some.injEq,Prod.mk.injEq] at hb1
     obtain ⟨rfl,rfl,rfl,rfl⟩ := hb1
     simp only [Bool.false_eq_true,if_false] at hthr
     subst hthr
     rw [Gh.at_none hdp] at hv
     refine .inr ⟨b,thr,C,c,t,hB,by simp [hn],hh,hC,hC',hs,ho,fun i j hi hj => (hv i j hi hj).mono ⟨fun b' o hg => ?_,Gh.le_refl _,fun _ _ _ _ h => h,fun _ _ _ _ h => h,fun _ _ h => h,fun _ r h => ⟨r,h⟩⟩⟩
     obtain ⟨g1,g2⟩ := hg
     refine ⟨⟨g1,fun hlt => ?_⟩,fun hbb => ?_⟩
     ·rcases g2 with g2 | g2
      ·exact g2.2
      ·omega
     ·subst hbb
      rcases g2 with g2 | g2
      ·omega
      ·rw [hown] at g2; exact g2.2
  exact ends hor
 split at h
 case h_2 => cases h
 rename_i v ks hsn
 simp only [Option.some.injEq] at h
 have hT : ∀ b o,Stab w.heap.size S G1 w1.heap.size b o → Gone w S w1 b o := by
  rintro b o ⟨h1,h2⟩
  refine ⟨h1,fun h3 => ?_⟩
  rcases h2 with h2 | h2
  ·exact h2.2
  ·omega
 have hcov : ∀ k e,st.en k = some e → Cov (Gone w S w1) G1 k e := by
  intro k e he
  by_cases hkn : G1.knows k
  case neg =>
   obtain ⟨u1,u2,u3⟩ := Gh.not_knows hkn
   cases e with
   | box cs f => intro b hb; rw [u1] at hb; cases hb
   | blk sz xs f => intro b base sz C hb; rw [u2] at hb; cases hb
   | map ks vs f => intro r hr; rw [u3] at hr; cases hr
   | loop => trivial
   | iter => trivial
  have hE := hR.ents k e he hkn
  cases hE with
  | box cs frz b c t hb hB hh => intro b' hb' j _; rw [hb] at hb'; simp only [Option.some.injEq] at hb'; subst hb'; exact ⟨heap_lt hh,fun h => by omega⟩
  | nul sz frz hn => intro b base sz C hb i j hi; simp at hi
  | blk xs frz b base sz C thr c t hb hB hh =>
   intro b' base' sz' C' hb' i j hi hj; rw [hb] at hb'; simp only [Option.some.injEq,Prod.mk.injEq] at hb'; obtain ⟨rfl,_⟩ := hb'; exact ⟨heap_lt hh,fun h => by omega⟩
  | full xs b base sz c hb hs hh ht =>
   intro b' base' sz' C' hb' i j hi hj
   rw [hb] at hb'; simp only [Option.some.injEq,Prod.mk.injEq] at hb'; obtain ⟨rfl,rfl,rfl,rfl⟩ := hb'
   exact hT _ _ (ht i j hi hj)
  | map ks vs frz r es cl hr hB hh => intro r' hr'; rw [hr] at hr'; simp only [Option.some.injEq] at hr'; subst hr'; exact ⟨heap_lt hh,fun h => by omega⟩
  | loop => trivial
  | iter => trivial
 have hfin := snap_sound hR.ents (T' := Gone w S w1) ⟨hT,Gh.le_refl _,fun _ _ _ _ h => h,fun _ _ _ _ h => h,fun _ _ h => h,fun _ r h => ⟨r,h⟩⟩ k hval hsn fun k _ e he => hcov k e he
 have hr : VR (Gone w S w1) Gh.none w1 r x := by
  rw [← h]; split
  ·exact hfin
  ·exact hfin.wk
 exact ends (.vr hr)
theorem empty_of {T : Nat → Nat → Prop} {G : Gh} {w : World} {x : Val} {v : Value} (h : VR T G w x v) (he : isEmptyS x = true) : ∃ a cap,v = .slice a 0 cap := by
 cases h <;> simp [isEmptyS] at he
 ·exact ⟨_,_,rfl⟩
 ·rename_i xs b off sz cap c hc hs hh ht ho hv
  cases xs with
  | nil => exact ⟨_,_,rfl⟩
  | cons => simp [isEmptyS] at he
 ·exact ⟨_,_,rfl⟩
 ·rename_i xs b off sz c hs hh ht ho hv
  cases xs with
  | nil => exact ⟨_,_,rfl⟩
  | cons => simp [isEmptyS] at he
 ·exact ⟨_,_,rfl⟩
 ·rename_i k off len b base sz C hb hl
  cases len with
  | zero => exact ⟨_,_,rfl⟩
  | succ => simp [isEmptyS] at he
 ·exact ⟨_,_,rfl⟩
 ·exact ⟨_,_,rfl⟩
theorem same_empty {a b : Option Val} {r : Val} (h : sameEmpty a b = some r) : a = some r ∧ b = some r := by
 unfold sameEmpty at h
 split at h <;> simp only [Option.some.injEq,reduceCtorEq] at h <;> subst h <;> exact ⟨rfl,rfl⟩
theorem same_cases {a b : Option Val} {r : Val} (h : sameEmpty a b = some r) : a = some r ∧ (r = .cl [] ∨ r = .fz []) := by
 unfold sameEmpty at h
 split at h <;> simp only [Option.some.injEq,reduceCtorEq] at h <;> subst h
 ·exact ⟨rfl,.inl rfl⟩
 ·exact ⟨rfl,.inr rfl⟩
theorem amb_step {P : Program} {L : Prog} (hL : LowOk P L) {n k : Nat} (ih : FnOk P L n) {f : Nat} {lf : LFunc} (hlf : L f = some lf) {args : List Val} {r : Val} (hlen : args.length = lf.np) (ha : isAmb lf args = true)
  (h : sameEmpty (callBody lf k (exec L n) [.es true]) (callBody lf k (exec L n) [.es false]) = some r) :
  (∃ fn,P.funcs[f]? = some fn ∧ (fn.name == "runtime.NumGoroutine") = false ∧ fn.body.isNone = false) ∧
  ∀ (T : Nat → Nat → Prop) (G : Gh) (S : Nat → Nat → Prop) (w : World) (vals : Array Value),(∀ b o,S b o → b < w.heap.size) → GlobOk S w → vals.size = args.length → (∀ i,i < args.length → VR T G w (args.getD i .dead) (vals.getD i undef)) →
   Calls P f vals w fun e w' => ∃ v,e = .returned v ∧ Below w.heap.size w w' ∧ ResR w.heap.size (Gone w S w') w' r v := by
 obtain ⟨h1,h2⟩ := same_empty h
 simp only [isAmb,Bool.and_eq_true] at ha
 obtain ⟨_,ha⟩ := ha
 split at ha
 case h_2 => cases ha
 rename_i x
 obtain ⟨e1,c1⟩ := body_step (args := [.es true]) hL ih hlf hlen h1
 obtain ⟨_,c2⟩ := body_step (args := [.es false]) hL ih hlf hlen h2
 refine ⟨e1,fun T G S w vals hS hgl hvl hv => ?_⟩
 obtain ⟨a,cap,hx⟩ := empty_of (hv 0 (by simp)) ha
 have one : ∀ (b : Bool),a.isNone = b → ∀ i,i < [Val.es b].length → VR S Gh.none w ([Val.es b].getD i .dead) (vals.getD i undef) := by
  intro b hb i hi
  simp only [List.length_cons,List.length_nil] at hi
  obtain rfl : i = 0 := by omega
  rw [hx,← hb]; exact .es a cap
 cases hb : a.isNone with
 | true => exact c1 S w vals hS hgl hvl (one true hb)
 | false => exact c2 S w vals hS hgl hvl (one false hb)
theorem rel_enter {P : Program} {Ξ : Env} {B : Nat} {S : Nat → Nat → Prop} {G : Gh} {st st0 : St} {N : Nat} {a : Act} {w : World} {vals : Array Value} {args : List Val} {fn : Func} {Ds0 : List Nat} (hR : Rel P Ξ B S G st N a w)
  (hd3 : ∀ D ∈ Ds0,B ≤ D ∧ ¬ Ξ.defs D ∧ w.heap[D]? = some (.deferred (some []))) (hen : st0.en = st.en) (hcnt : st0.cnt = st.cnt) (hvl : vals.size = args.length) (hnp : args.length ≤ fn.ntmps)
  (hv : ∀ i,i < args.length → VR (Stab B S G w.heap.size) G w (args.getD i .dead) (vals.getD i undef)) {nm : Bool} :
  Rel P { prs := fun u x => Ξ.prs u x ∨ ∃ i,u = st.fr i ∧ x = a.tmps.getD i undef,ro := none,rnd := Ξ.isRnd,defs := fun D => Ξ.defs D ∨ D ∈ Ds0,nm := nm,virt := Ξ.virt } B S G { st0 with fr := fun i => args.getD i (.tup []) } fn.ntmps (act0 fn vals) w := by
 unfold act0
 refine ⟨hR.size,by simp; omega,fun i => ?_,⟨[],rfl,⟨List.nodup_nil,fun _ => rfl⟩,fun D hD => by simp at hD⟩,fun k e' hk hkn => hR.ents k e' (hen ▸ hk) hkn,fun k hk => hen ▸ hR.freshEn k (by rw [← hcnt]; exact hk),fun k hk => hR.freshG k (by rw [← hcnt]; exact hk),
  fun b k t hb' => by have := hR.own b k t hb'; rw [← hcnt] at this; exact this,fun u x hu => ?_,fun l hl => hR.round l (hl.resolve_left (by simp)),fun D hD => hD.elim (hR.defs D) fun h => (hd3 D h).2.2,fun k hv => by have := hR.virt k hv; rw [← hcnt] at this; exact this⟩
 ·simp only
  by_cases hi : i < args.length
  ·have e1 : args.getD i (.tup []) = args.getD i .dead := by simp [List.getD_eq_getElem?_getD,hi]
   have e2 : (vals ++ Array.replicate (fn.ntmps - vals.size) undef).getD i undef = vals.getD i undef := by
    simp only [Array.getD_eq_getD_getElem?]; rw [Array.getElem?_append_left (by omega)]
   rw [e1,e2]; exact hv i hi
  ·have e1 : args.getD i (.tup []) = .tup [] := by simp [List.getD_eq_getElem?_getD,List.getElem?_eq_none (Nat.le_of_not_lt hi)]
   have e2 : (vals ++ Array.replicate (fn.ntmps - vals.size) undef).getD i undef = undef := by
    simp only [Array.getD_eq_getD_getElem?]; rw [Array.getElem?_append_right (by omega)]
    simp only [Array.getElem?_replicate]; split <;> rfl
   rw [e1,e2]; exact .tup [] #[] rfl (fun i hi => by simp at hi)
 ·rcases hu with (hu | ⟨i,rfl,rfl⟩) | hu
  ·exact hR.extra u x (.inl hu)
  ·exact hR.frame i
  ·exact hR.extra u x (.inr hu)
theorem rel_leave {P : Program} {Ξ : Env} {B : Nat} {S : Nat → Nat → Prop} {G1 : Gh} {st ste : St} {N M : Nat} {a a1 : Act} {w1 : World} {Ds0 : List Nat} {nm : Bool} {tl : List Deferred} (ha : N ≤ a.tmps.size)
  (hd1 : a.defers = Ds0.map mark ++ Ξ.tail) (hd2 : Ds0.Nodup ∧ (Ξ.nm = true → Ds0 = [])) (hd3 : ∀ D ∈ Ds0,B ≤ D ∧ ¬ Ξ.defs D)
  (hR2 : Rel P { prs := fun u x => Ξ.prs u x ∨ ∃ i,u = st.fr i ∧ x = a.tmps.getD i undef,ro := none,rnd := Ξ.isRnd,defs := fun D => Ξ.defs D ∨ D ∈ Ds0,nm := nm,tail := tl,virt := Ξ.virt } B S G1 ste M a1 w1) :
  Rel P Ξ B S G1 { fr := st.fr,en := ste.en,cnt := ste.cnt } N a w1 :=
 ⟨hR2.size,ha,fun i => hR2.extra _ _ (.inl (.inr ⟨i,rfl,rfl⟩)),⟨Ds0,hd1,hd2,fun D hD => ⟨(hd3 D hD).1,(hd3 D hD).2,hR2.defs D (.inr hD)⟩⟩,hR2.ents,hR2.freshEn,hR2.freshG,hR2.own,fun u y hu => hR2.extra u y (hu.imp_left .inl),
  fun l hl => hR2.round l (.inr hl),fun D hD => hR2.defs D (.inl hD),hR2.virt⟩
theorem inl_fn {P : Program} {L : Prog} (hL : LowOk P L) {n : Nat} (ih : FnOk P L n) : ∀ f args v (st0 st' : St),inlWith L (exec L n) f args st0 = some (v,st') → (∃ fn,P.funcs[f]? = some fn ∧ (fn.name == "runtime.NumGoroutine") = false ∧ fn.body.isNone = false) ∧
  ∀ (Ξ : Env) (B : Nat) (S : Nat → Nat → Prop) (G : Gh) (st : St) (N : Nat) (a : Act) (w : World) (vals : Array Value),Rel P Ξ B S G st N a w → st0.en = st.en → st0.cnt = st.cnt → vals.size = args.length →
   (∀ i,i < args.length → VR (Stab B S G w.heap.size) G w (args.getD i .dead) (vals.getD i undef)) → Calls P f vals w (InlPost P Ξ B S st st' N a w v) := by
 intro f args v st0 st' h
 simp only [inlWith] at h
 split at h
 ·cases h
 rename_i lf hlf
 obtain ⟨fn,I,keep,amb,hfn,hlow⟩ := hL f lf hlf
 obtain ⟨c,hbody,hb,hdst,hnp,hname,hres⟩ := low_spec hlow
 split at h
 case isFalse => cases h
 rename_i hlen
 split at h
 ·rename_i ha
  obtain ⟨r,hr,he⟩ := Option.map_eq_some_iff.1 h
  simp only [Prod.mk.injEq] at he
  obtain ⟨rfl,rfl⟩ := he
  obtain ⟨e1,c1⟩ := amb_step hL ih hlf hlen ha hr
  refine ⟨e1,fun Ξ B S G st N a w vals hR hen hcnt hvl hv => ?_⟩
  refine Calls.mono (c1 _ _ (Stab B S G w.heap.size) w vals (fun _ _ h => h.1) hR.glob hvl hv) ?_
  rintro e w' ⟨x,rfl,hbl,hv'⟩
  have hv' : VR (Gone w (Stab B S G w.heap.size) w') Gh.none w' r x := by
   obtain ⟨h1,h2⟩ := same_cases hr
   rcases h2 with h2 | h2 <;> subst h2 <;> exact hv'
  have hR' := hR.below hbl
  refine ⟨x,G,rfl,?_,hv'.mono ⟨fun b q hg => ?_,Gh.none_le _,fun _ _ _ _ h => h,fun _ _ _ _ h => h,fun _ _ h => h,fun _ r h => ⟨r,h⟩⟩,⟨hbl.os,hbl.tape,hbl.output,hbl.size,fun k hk => hbl.block k (Nat.lt_of_lt_of_le hk hR.size)⟩⟩
  ·have : ({ fr := st.fr,en := st0.en,cnt := st0.cnt } : St) = st := by rw [hen,hcnt]
   rw [this]; exact hR'
  ·by_cases hbw : b < w.heap.size
   ·exact ⟨hg.1,(hg.2 hbw).2⟩
   ·refine ⟨hg.1,.inr ⟨by have := hR.size; omega,?_⟩⟩
    cases hown : G.own b with
    | none => trivial
    | some z => obtain ⟨k,t⟩ := z; have := (hR.own _ _ _ hown).2.1; omega
 split at h
 case h_2 => cases h
 rename_i e ste hx
 split at h
 case isFalse => cases h
 rename_i hends
 obtain ⟨vs,hvs,he⟩ := Option.map_eq_some_iff.1 h
 simp only [Prod.mk.injEq] at he
 obtain ⟨rfl,rfl⟩ := he
 refine ⟨⟨fn,hfn,hname,by rw [hbody]; rfl⟩,fun Ξ B S G st N a w vals hR hen hcnt hvl hv => ?_⟩
 obtain ⟨Ds0,hd1,hd2,hd3⟩ := hR.marks
 refine ih f fn lf I keep amb e _ ste _ B S G vals w _ hfn hlow hx rfl rfl rfl (rel_enter hR hd3 hen hcnt hvl (by omega) hv) fun a1 w1 G1 x1 _ _ hR2 hb2 => ?_
 obtain ⟨x,hrun,hxv⟩ := results_sound hR2 hres hvs
 have hfin : InlPost P Ξ B S st { ste with fr := st0.fr } N a w (tupOf vs) (.returned x) w1 := ⟨x,G1,rfl,rel_leave (ste := ste) hR.tmps hd1 hd2 (fun D hD => ⟨(hd3 D hD).1,(hd3 D hD).2.1⟩) hR2,hxv,hb2⟩
 cases e with
 | normal => exact ⟨x,hrun,hfin⟩
 | exit id => cases hends
 | ret => exact ⟨x,hrun,hfin⟩
 | panic v => cases hends
theorem pan_fn {P : Program} {L : Prog} (hL : LowOk P L) {n : Nat} (ih : FnOk P L n) : PanOk P (panWith L (exec L n)) := by
 intro f args v h
 simp only [panWith] at h
 split at h
 ·cases h
 rename_i lf hlf
 obtain ⟨fn,I,keep,amb,hfn,hlow⟩ := hL f lf hlf
 obtain ⟨c,hbody,hb,hdst,hnp,hname,hres⟩ := low_spec hlow
 split at h
 case isFalse => cases h
 rename_i hlen
 split at h
 case h_2 => cases h
 rename_i v' st hx
 simp only [Option.some.injEq] at h; subst h
 refine ⟨⟨fn,hfn,hname,by rw [hbody]; rfl⟩,fun S w vals hS hgl hvl hv => ?_⟩
 refine ih f fn lf I keep amb _ (start args) st { prs := fun _ _ => False,ro := none,rnd := fun _ => False,defs := fun _ => False } w.heap.size S Gh.none vals w _ hfn hlow hx rfl rfl rfl (rel_start hS hgl hvl (by omega) hv) fun a1 w1 G1 x hxv _ hR hbl => ?_
 exact ⟨x,rfl,hbl,hxv⟩
theorem pin_fn {P : Program} {L : Prog} (hL : LowOk P L) {n : Nat} (ih : FnOk P L n) : PinOk P (panIn L (exec L n)) := by
 intro f args v st0 st' h
 simp only [panIn] at h
 split at h
 ·cases h
 rename_i lf hlf
 obtain ⟨fn,I,keep,amb,hfn,hlow⟩ := hL f lf hlf
 obtain ⟨c,hbody,hb,hdst,hnp,hname,hres⟩ := low_spec hlow
 split at h
 case isFalse => cases h
 rename_i hlen
 split at h
 case h_2 => cases h
 rename_i v' ste hx
 simp only [Option.some.injEq,Prod.mk.injEq] at h
 obtain ⟨rfl,rfl⟩ := h
 refine ⟨⟨fn,hfn,hname,by rw [hbody]; rfl⟩,fun Ξ B S G st N a w vals hR hen hcnt hvl hv => ?_⟩
 obtain ⟨Ds0,hd1,hd2,hd3⟩ := hR.marks
 refine ih f fn lf I keep amb _ _ ste _ B S G vals w _ hfn hlow hx rfl rfl rfl (rel_enter hR hd3 hen hcnt hvl (by omega) hv) fun a1 w1 G1 x hxv _ hR2 hb2 => ?_
 exact ⟨x,G1,rfl,hxv,rel_leave (ste := ste) hR.tmps hd1 hd2 (fun D hD => ⟨(hd3 D hD).1,(hd3 D hD).2.1⟩) hR2,hb2⟩
end Go.Abs
namespace Go.Abs
open Go.RowKit (Below)
variable [Inhabited Glob]
theorem frs_sound {T : Nat → Nat → Prop} {G : Gh} {w : World} : ∀ (ps : List Nat) (args : List Val) (vals : List Value) (fr : Nat → Val) (tmps : Array Value),args.length = ps.length → vals.length = ps.length → (∀ p ∈ ps,p < tmps.size) →
  (∀ i,VR T G w (fr i) (tmps.getD i undef)) → (∀ i,i < args.length → VR T G w (args.getD i .dead) (vals.getD i undef)) →
  (∀ i,VR T G w (setFrs fr ps args i) (((ps.zip vals).foldl (fun t (p : Nat × Value) => t.setIfInBounds p.1 p.2) tmps).getD i undef)) ∧ ((ps.zip vals).foldl (fun t (p : Nat × Value) => t.setIfInBounds p.1 p.2) tmps).size = tmps.size
 | [],args,vals,fr,tmps,_,_,_,hf,_ => ⟨hf,rfl⟩
 | p :: ps,[],_,_,_,h,_,_,_,_ => by simp at h
 | p :: ps,v :: args,[],_,_,_,h,_,_,_ => by simp at h
 | p :: ps,v :: args,x :: vals,fr,tmps,h1,h2,h3,hf,hv => by
  simp only [List.length_cons,Nat.add_right_cancel_iff] at h1 h2
  have hp := h3 p (by simp)
  have := frs_sound ps args vals (setFr fr p v) (tmps.setIfInBounds p x) h1 h2 (fun q hq => by simpa using h3 q (by simp [hq])) (fun i => ?_) (fun i hi => by simpa using hv (i + 1) (by simpa using hi))
  ·refine ⟨this.1,?_⟩
   have e := this.2
   simp only [List.zip_cons_cons,List.foldl_cons]
   rw [e]; simp
  ·simp only [Array.getD_eq_getD_getElem?,Array.getElem?_setIfInBounds,setFr]
   by_cases hi : i = p
   ·subst hi; simpa [hp] using hv 0 (by simp)
   ·have hi' : ¬ p = i := fun e => hi e.symm
    simp only [hi,hi',if_false]
    simpa [Array.getD_eq_getD_getElem?] using hf i
theorem inl_yld {P : Program} {L : Prog} {n : Nat} (ih : ExecOk P L n) : ∀ k args v (st0 st' : St),yldWith (exec L n) k args st0 = some (v,st') →
  ∀ (Ξ : Env) (B : Nat) (S : Nat → Nat → Prop) (G : Gh) (st : St) (N : Nat) (a : Act) (w : World) (vals : Array Value) (l : Nat) (ro : Option Nat) (m : Nat),Rel P Ξ B S G st N a w → st0.en = st.en → st0.cnt = st.cnt → G.mp k = some l → vals.size = args.length →
   (∀ i,i < args.length → VR (Stab B S G w.heap.size) G w (args.getD i .dead) (vals.getD i undef)) →
   ∃ f tmps assign body,(Instr.yield l vals).run P w = .ok (.round l f tmps assign body) w ∧ RoundIn (Fx ro) m P l f tmps assign body w (InlPost P Ξ B S st st' N a w v) := by
 intro k args v st0 st' h Ξ B S G st N a w vals l ro m hR hen hcnt hmp hvl hv
 simp only [yldWith] at h
 split at h
 case h_2 => cases h
 rename_i fr ps la lb he0
 split at h
 case isFalse => cases h
 rename_i hlen
 split at h
 case h_2 => cases h
 rename_i st1 hx1
 split at h
 case h_2 => cases h
 rename_i fr1 ps1 la1 lb1 he1
 split at h
 case h_2 => cases h
 rename_i e st2 hx2
 split at h
 case h_2 => cases h
 rename_i fr2 ps2 la2 lb2 hcalm he2
 simp only [Option.some.injEq,Prod.mk.injEq] at h
 obtain ⟨rfl,rfl⟩ := h
 rw [hen] at he0
 have hE := hR.ents k _ he0 (Gh.knows_mp hmp)
 cases hE with
 | loop _ _ _ _ _ l0 rec I N' hl hB hh hps ha hb hN hpN haN hbN hf hst hown =>
 rw [hmp] at hl; simp only [Option.some.injEq] at hl; subst hl
 obtain ⟨Ds0,hd1,hd2,hd3⟩ := hR.marks
 have hpsz : rec.params.size = ps.length := by rw [← hps]; simp
 have hyd := run_yield (P := P) (args := vals) hh (by rw [hvl,hlen,hpsz])
 refine ⟨_,_,_,_,hyd,?_⟩
 have hfold : (rec.params.zip vals).foldl (fun tmps (t,a) => tmps.setIfInBounds t a) rec.tmps = (ps.zip vals.toList).foldl (fun t (p : Nat × Value) => t.setIfInBounds p.1 p.2) rec.tmps := by
  rw [← Array.foldl_toList,Array.toList_zip,hps]
 rw [hfold]
 obtain ⟨hfr,hfs⟩ := frs_sound (T := Stab B S G w.heap.size) (G := G) (w := w) ps args vals.toList fr rec.tmps hlen (by simp [hvl,hlen]) (fun p hp => Nat.lt_of_lt_of_le (by simpa using List.all_eq_true.1 hpN p hp) hN) hf
  (fun i hi => by simpa [List.getD_eq_getElem?_getD,Array.getD_eq_getD_getElem?] using hv i hi)
 let Ξ' : Env := { prs := fun u x => Ξ.prs u x ∨ (∃ i,u = st.fr i ∧ x = a.tmps.getD i undef) ∨ (u = .yld k ∧ x = .func (.yield l) #[] #[]),ro := some l,rnd := Ξ.isRnd,defs := fun D => Ξ.defs D ∨ D ∈ Ds0,virt := Ξ.virt }
 have hR0 : Rel P Ξ' B S G { fr := setFrs fr ps args,en := st0.en,cnt := st0.cnt } N' { tmps := (ps.zip vals.toList).foldl (fun t (p : Nat × Value) => t.setIfInBounds p.1 p.2) rec.tmps,defers := [] } w := by
  refine ⟨hR.size,by simp only; rw [hfs]; exact hN,hfr,⟨[],rfl,⟨List.nodup_nil,fun _ => rfl⟩,fun D hD => by simp at hD⟩,fun k e' hk hkn => hR.ents k e' (hen ▸ hk) hkn,fun k hk => hen ▸ hR.freshEn k (by rw [← hcnt]; exact hk),fun k hk => hR.freshG k (by rw [← hcnt]; exact hk),
   fun b k t hb' => by have := hR.own b k t hb'; rw [← hcnt] at this; exact this,fun u x hu => ?_,fun l' hl' => ?_,fun D hD => hD.elim (hR.defs D) fun h => (hd3 D h).2.2,fun k hv => by have := hR.virt k hv; rw [← hcnt] at this; exact this⟩
  ·rcases hu with (hu | ⟨i,rfl,rfl⟩ | ⟨rfl,rfl⟩) | hu
   ·exact hR.extra u x (.inl hu)
   ·exact hR.frame i
   ·exact .yld k l hmp
   ·exact hR.extra u x (.inr hu)
  ·rcases hl' with hl' | hl'
   ·simp only [Ξ',Option.some.injEq] at hl'; subst hl'; exact ⟨rec,hh⟩
   ·exact hR.round l' hl'
 have wrt : ∀ {G1 : Gh} {s1 : St} {a1 : Act} {w1 : World} {fr1 : Nat → Val} {ps1 : List Nat} {la1 lb1 : LCode} {q1 : LSt} (q2 : LSt),Rel P Ξ' B S G1 s1 N' a1 w1 → s1.en k = some (.loop fr1 ps1 la1 lb1 q1) →
   ∃ rec1,w1.heap[l]? = some (.loop rec1) ∧ LStR q1 rec1 ∧ B ≤ l ∧ ∀ rec2 : Loop,rec2.params = rec1.params → rec2.assign = rec1.assign → rec2.body = rec1.body → rec2.tmps = rec1.tmps → LStR q2 rec2 →
    Rel P Ξ' B S G1 { s1 with en := s1.en.set k (some (.loop fr1 ps1 la1 lb1 q2)) } N' a1 (wput w1 l (.loop rec2)) := by
  intro G1 s1 a1 w1 fr1 ps1 la1 lb1 q1 q2 hR1 hk
  have hy := hR1.extra (.yld k) (.func (.yield l) #[] #[]) (.inl (.inr (.inr ⟨rfl,rfl⟩)))
  cases hy with
  | yld _ _ hmp1 =>
  have hE1 := hR1.ents k _ hk (Gh.knows_mp hmp1)
  cases hE1 with
  | loop _ _ _ _ _ l1 rec1 I1 N1 hl1 hB1 hh1 hps1 ha1 hb1 hN1 hpN1 haN1 hbN1 hf1 hst1 hown1 =>
  rw [hmp1] at hl1; simp only [Option.some.injEq] at hl1; subst hl1
  refine ⟨rec1,hh1,hst1,hB1,fun rec2 r1 r2 r3 r4 hq => ?_⟩
  exact hR1.write (e' := .loop fr1 ps1 la1 lb1 q2) hown1 hh1 (fun _ _ => .inl (by simp)) (fun _ => by simp) (fun r _ => ⟨rec2,rfl⟩) (fun off h => by omega)
   (fun m => .loop fr1 ps1 la1 lb1 q2 l rec2 I1 N1 hmp1 hB1 (wput_same _ (heap_lt hh1)) (by rw [r1]; exact hps1) (by rw [r2]; exact ha1) (by rw [r3]; exact hb1) (by rw [r4]; exact hN1) hpN1 haN1 hbN1 (fun i => by rw [r4]; exact (hf1 i).mono m) hq hown1)
 refine roundIn_of_wpIn (F := Fx ro) trivial ?_
 refine ih I N' rec.assign _ .normal st1 Ξ' B S G _ w _ m (by rw [ha]; exact haN) (fun h => nomatch h) hR0 (by rw [ha]; exact hx1) fun a1 w1 G1 x1 _ hR1 hb1 => ?_
 have hR1 := hR1.rel rfl
 obtain ⟨rec1,hh1,hq1,hBl,hw1⟩ := wrt .busy hR1 he1
 refine ⟨_,run_beginRound hh1 hq1.1,?_⟩
 have hR1' := hw1 { rec1 with state := .busy } rfl rfl rfl rfl ⟨rfl,hq1.2⟩
 refine ih I N' rec.body _ e st2 Ξ' B S G1 a1 _ _ m (by rw [hb]; exact hbN) (fun h => nomatch h) hR1' (by rw [hb]; exact hx2) fun a2 w2 G2 x2 _ hR2 hb2 => ?_
 have hR2 := hR2.rel hcalm
 have fin : ∀ (jump : Option Code) (q : LSt),LStR q { state := if jump.isNone then .ready else .done,pending := jump,fn := 0,tmps := #[],params := #[],assign := .skip,body := .skip,defers := 0 } → jump.isNone = decide (e = .normal) → q = (if e = .normal then .ready else .done e) →
   ∃ v w',(Instr.endRound l jump).run P w2 = .ok v w' ∧ InlPost P Ξ B S st { fr := st0.fr,en := st2.en.set k (some (.loop fr2 ps2 la2 lb2 (if e = .normal then .ready else .done e))),cnt := st2.cnt } N a w (.bool (decide (e = .normal))) (.returned v) w' := by
  intro jump q hq hj hqe
  obtain ⟨rec2,hh2,_,_,hw2⟩ := wrt q hR2 he2
  have hR3 := hw2 { rec2 with state := if jump.isNone then .ready else .done,pending := jump } rfl rfl rfl rfl (by cases q <;> exact hq)
  refine ⟨_,_,run_endRound jump hh2,_,G2,rfl,?_,by rw [hj]; exact .bool _,?_⟩
  ·rw [← hqe]
   exact ⟨hR3.size,hR.tmps,fun i => hR3.extra _ _ (.inl (.inr (.inl ⟨i,rfl,rfl⟩))),⟨Ds0,hd1,hd2,fun D hD => ⟨(hd3 D hD).1,(hd3 D hD).2.1,hR3.defs D (.inr hD)⟩⟩,hR3.ents,hR3.freshEn,hR3.freshG,hR3.own,fun u y hu => hR3.extra u y (hu.imp_left .inl),
    fun l' hl' => hR3.round l' (.inr hl'),fun D hD => hR3.defs D (.inl hD),hR3.virt⟩
  ·exact ((hb1.trans (below_put hBl)).trans hb2).trans (below_put hBl)
 cases e with
 | normal => exact fin none .ready ⟨rfl,rfl⟩ rfl rfl
 | exit id => exact fin (some (.exit id)) (.done (.exit id)) ⟨rfl,rfl,by simp,rfl⟩ (by simp) (by simp)
 | ret => exact fin (some .ret) (.done .ret) ⟨rfl,rfl,by simp,rfl⟩ (by simp) (by simp)
 | panic v => cases hcalm
end Go.Abs
namespace Go.Abs
open Go.RowKit (Below)
variable [Inhabited Glob]
theorem frz_other {k : Key} : ∀ {ks : List Key} {en : En},k ∉ ks → W.applyAll en (ks.map .frz) k = en k
 | [],_,_ => rfl
 | k' :: ks,en,h => by
  simp only [List.mem_cons,not_or] at h
  simp only [List.map_cons,W.applyAll,List.foldl_cons]
  have := frz_other (en := W.apply en (.frz k')) h.2
  simp only [W.applyAll] at this
  rw [this]
  cases he : en k' with
  | none => simp only [W.apply,he]
  | some e => simp only [W.apply,he,En.set]; rw [if_neg h.1]
section
variable {P : Program} {Ξ : Env} {B : Nat} {S : Nat → Nat → Prop} {G : Gh} {st : St} {N : Nat} {a : Act} {w : World}
theorem Rel.norm (hR : Rel P Ξ B S G st N a w) {k : Key} {en' : En} (h : normBox st.en k = some en') :
  ∃ G',Rel P Ξ B S G' { st with en := en' } N a w ∧ ∀ v x,VR (Stab B S G w.heap.size) G w v x → VR (Stab B S G' w.heap.size) G' w v x := by
 simp only [normBox] at h
 split at h
 case h_2 => cases h
 rename_i cs hk
 split at h
 case h_2 => cases h
 rename_i rs hrs
 split at h
 case isTrue => cases h
 rename_i hnk
 simp only [Option.some.injEq] at h
 have hnk' : k ∉ rs.flatMap (·.2) := by simpa using hnk
 obtain ⟨G',hR',hg,hT,hsnap,hbk⟩ := freeze_snapsK hR (rs.flatMap (·.2))
 have hmono : ∀ v x,VR (Stab B S G w.heap.size) G w v x → VR (Stab B S G' w.heap.size) G' w v x := fun v x hv => hv.mono' ⟨hT,hg,fun _ _ _ _ h => h,fun _ _ _ _ h => h⟩
 refine ⟨G',?_,hmono⟩
 have hk' : W.applyAll st.en ((rs.flatMap (·.2)).map .frz) k = some (.box cs false) := by rw [frz_other hnk']; exact hk
 obtain ⟨l1,l2⟩ := mapO_some hrs
 have hnew : G'.knows k → ER P B (Stab B S G' w.heap.size) G' w k (.box (rs.map (·.1)) false) := by
  intro hkn'
  have hE := hR.ents k _ hk (hbk k hkn')
  have hE' := hR'.ents k _ hk' hkn'
  cases hE with
  | box _ _ b c t hb hB hh hs ho hv hown =>
  cases hE' with
  | box _ _ b' c' t' hb' hB' hh' hs' ho' hv' hown' =>
  have hbb : b' = b := by have := hg.box _ _ hb; rw [hb'] at this; exact Option.some.inj this
  subst hbb
  refine .box _ _ b' c t hb' hB hh (by simp [hs,l1]) (fun j hj => ho j (by simpa [l1] using hj)) (fun j hj => ?_) hown'
  have hj1 : j < cs.length := by simpa [l1] using hj
  have hj2 : j < rs.length := by rw [l1]; exact hj1
  have hpc := l2 j hj1 hj2
  have hvj := hv j hj1
  have e1 : cs.getD j .dead = cs[j] := by simp [List.getD_eq_getElem?_getD,hj1]
  have e2 : (rs.map (·.1)).getD j .dead = rs[j].1 := by simp [List.getD_eq_getElem?_getD,hj2]
  rw [e1] at hvj
  rw [e2]
  have oth : ∀ (r : Val × List Key),snap 8 st.en cs[j] = some r → rs[j] = (r.1.wk0,r.2) → VR (Stab B S G' w.heap.size) G' w rs[j].1 (c.getD j undef) := by
   intro r hr he
   have := hsnap 8 _ _ _ r.2 hvj hr (fun k' hk' => List.mem_flatMap.2 ⟨rs[j],List.getElem_mem hj2,by rw [he]; exact hk'⟩)
   rw [he]
   exact this.wk0.mono' ⟨fun _ _ h => h,Gh.none_le _,fun _ _ _ _ h => h,fun _ _ _ _ h => h⟩
  generalize cs[j] = v at hpc hvj oth
  unfold pureCell at hpc
  split at hpc
  ·simp only [Option.some.injEq] at hpc
   rw [← hpc]; exact hmono _ _ hvj
  ·split at hpc
   case h_2 => cases hpc
   rename_i r hr
   simp only [Option.some.injEq] at hpc
   exact oth r hr hpc.symm
 rw [← h]
 refine ⟨hR'.size,hR'.tmps,hR'.frame,hR'.marks,fun k' e he hkn => ?_,fun k' hk2 => ?_,hR'.freshG,hR'.own,hR'.extra,hR'.round,hR'.defs,hR'.virt⟩
 ·simp only [En.set] at he
  split at he
  ·rename_i e; subst e
   simp only [Option.some.injEq] at he; subst he; exact hnew hkn
  ·exact hR'.ents k' e he hkn
 ·simp only [En.set]
  split
  ·rename_i e; subst e
   have := hR.freshEn k' hk2
   rw [hk] at this; cases this
  ·exact hR'.freshEn k' hk2
theorem Rel.norms {x : Val} : ∀ {ps : List (List Nat)} {G : Gh} {st : St} {en' : En},Rel P Ξ B S G st N a w → norms x ps st.en = some en' →
  ∃ G',Rel P Ξ B S G' { st with en := en' } N a w ∧ ∀ v x,VR (Stab B S G w.heap.size) G w v x → VR (Stab B S G' w.heap.size) G' w v x
 | [],G,st,en',hR,h => by
  simp only [Go.Abs.norms,Option.some.injEq] at h; subst h
  exact ⟨G,hR,fun _ _ h => h⟩
 | p :: ps,G,st,en',hR,h => by
  simp only [Go.Abs.norms] at h
  split at h
  case h_2 => cases h
  split at h
  case h_2 => cases h
  rename_i en1 h1
  obtain ⟨G1,hR1,m1⟩ := hR.norm h1
  obtain ⟨G2,hR2,m2⟩ := Rel.norms hR1 h
  exact ⟨G2,hR2,fun v x hv => m2 v x (m1 v x hv)⟩
end
theorem inlN_fn {P : Program} {L : Prog} (hL : LowOk P L) {n : Nat} (ih : FnOk P L n) : ∀ f args v (st0 st' : St),inlN L (exec L n) f args st0 = some (v,st') → (∃ fn,P.funcs[f]? = some fn ∧ (fn.name == "runtime.NumGoroutine") = false ∧ fn.body.isNone = false) ∧
  ∀ (Ξ : Env) (B : Nat) (S : Nat → Nat → Prop) (G : Gh) (st : St) (N : Nat) (a : Act) (w : World) (vals : Array Value),Rel P Ξ B S G st N a w → st0.en = st.en → st0.cnt = st.cnt → vals.size = args.length →
   (∀ i,i < args.length → VR (Stab B S G w.heap.size) G w (args.getD i .dead) (vals.getD i undef)) → Calls P f vals w (InlPost P Ξ B S st st' N a w v) := by
 intro f args v st0 st' h
 simp only [inlN] at h
 split at h
 case h_2 => cases h
 rename_i v1 st1 hi
 split at h
 case h_2 => cases h
 rename_i lf hlf
 split at h
 case h_2 => cases h
 rename_i en' hn
 simp only [Option.some.injEq,Prod.mk.injEq] at h
 obtain ⟨rfl,rfl⟩ := h
 obtain ⟨e1,c1⟩ := inl_fn hL ih _ _ _ _ _ hi
 refine ⟨e1,fun Ξ B S G st N a w vals hR hen hcnt hvl hv => ?_⟩
 refine Calls.mono (c1 Ξ B S G st N a w vals hR hen hcnt hvl hv) ?_
 rintro e w' ⟨x,G',rfl,hR',hx,hb⟩
 obtain ⟨G2,hR2,m⟩ := hR'.norms hn
 exact ⟨x,G2,rfl,hR2,m _ _ hx,hb⟩
end Go.Abs
namespace Go.Abs
open Go.RowKit (Below)
variable [Inhabited Glob]
def Env.add (Ξ : Env) (k : Key) : Env := { Ξ with virt := fun k' => Ξ.virt k' ∨ k' = k }
section
variable {P : Program} {Ξ : Env} {B : Nat} {S : Nat → Nat → Prop} {G : Gh} {st : St} {N : Nat} {a : Act} {w : World} {o : Oper} {k : Key}
theorem Rel.unadd (h : Rel P (Ξ.add k) B S G st N a w) : Rel P Ξ B S G st N a w :=
 ⟨h.size,h.tmps,h.frame,h.marks,h.ents,h.freshEn,h.freshG,h.own,h.extra,h.round,h.defs,fun k' hv => h.virt k' (.inl hv)⟩
theorem RelE.unadd {e : Ex} (h : RelE P (Ξ.add k) B S G st N e a w) : RelE P Ξ B S G st N e a w := by
 obtain ⟨tm,h1,h2⟩ := h
 exact ⟨tm,h1.unadd,h2⟩
theorem Rel.reserve (h : Rel P Ξ B S G st N a w) {d : Nat} {z : List Val} (hk : k = ⟨0,d,st.cnt 0 d⟩) : Rel P (Ξ.add k) B S G (lateS k z st) N a w := by
 subst hk
 have hf := h.freshG ⟨0,d,st.cnt 0 d⟩ (Nat.le_refl _)
 refine ⟨h.size,h.tmps,h.frame,h.marks,fun k' e he hkn => ?_,fun k' hk' => ?_,fun k' hk' => h.freshG k' (Nat.le_trans (bumped _ _) hk'),fun b k' t hb => ?_,h.extra,h.round,h.defs,fun k' hv => ?_⟩
 ·simp only [lateS,En.set] at he
  split at he
  ·rename_i hke; subst hke; exact absurd hkn (Gh.knows_not hf)
  ·exact h.ents k' e he hkn
 ·have hne : k' ≠ ⟨0,d,st.cnt 0 d⟩ := by rintro rfl; simp only [lateS,bumped_at] at hk'; omega
  simp only [lateS,En.set,if_neg hne]
  exact h.freshEn k' (Nat.le_trans (bumped _ _) hk')
 ·obtain ⟨h1,h2,h3⟩ := h.own b k' t hb
  exact ⟨h1,h2,Nat.lt_of_lt_of_le h3 (bumped _ _)⟩
 ·rcases hv with hv | rfl
  ·obtain ⟨v1,v2⟩ := h.virt k' hv
   exact ⟨v1,Nat.lt_of_lt_of_le v2 (bumped _ _)⟩
  ·exact ⟨Gh.knows_not hf,by simp only [lateS,bumped_at]; omega⟩
theorem Rel.realize (h : Rel P (Ξ.add k) B S G st N a w) (hvk : ¬ Ξ.virt k) {z : List Val} {c : Array Value} {t : TypeId} (he : st.en k = some (.box z false)) (hs : c.size = z.length) (ho : ∀ j,j < z.length → oneV (c.getD j undef) = true)
  (hv : ∀ j,j < z.length → VR (Stab B S G w.heap.size) G w (z.getD j .dead) (c.getD j undef)) : Rel P Ξ B S (G.addBox k w.heap.size) st N a (w.alloc (.cells c t)) := by
 obtain ⟨u1,u2⟩ := h.virt k (.inr rfl)
 have hn := Gh.not_knows u1
 have hg := Gh.le_addBox (b := w.heap.size) hn.1
 have ho' : ∀ b,b ≠ w.heap.size → (G.addBox k w.heap.size).own b = G.own b := fun b hb => by simp [Gh.addBox,hb]
 have m := mono_alloc (B := B) (S := S) (w := w) (o := .cells c t) hg ho'
 have hkk : ∀ k',k' ≠ k → (G.addBox k w.heap.size).box k' = G.box k' ∧ (G.addBox k w.heap.size).blk k' = G.blk k' ∧ (G.addBox k w.heap.size).mp k' = G.mp k' := fun k' hk' => by simp [Gh.addBox,hk']
 refine h.unadd.change m (by rw [size_alloc]; omega) (fun k' e' hk' hkn => ?_) (fun k' hk' => ?_) (fun b k' t' hb => ?_) (fun k' hv' => ?_)
 ·by_cases hke : k' = k
  ·subst hke
   rw [he,Option.some.injEq] at hk'; subst hk'
   exact .box z false w.heap.size c t (by simp [Gh.addBox]) h.size (heap_alloc_new _ _) hs ho (fun j hj => (hv j hj).mono m) (by simp [Gh.addBox])
  ·refine (h.ents k' e' hk' (Gh.knows_of hkk hke hkn)).mono m.four fun b _ hb => ?_
   have hlt := own_lt (fun b k t ho => (h.own b k t ho).2.1) hb
   exact ⟨heap_alloc_old w _ hlt,ho' b (Nat.ne_of_lt hlt)⟩
 ·have hne : k' ≠ k := by rintro rfl; omega
  obtain ⟨j1,j2,j3⟩ := hkk k' hne
  obtain ⟨f1,f2,f3⟩ := h.freshG k' hk'
  exact ⟨h.freshEn k' hk',by rw [j1]; exact f1,by rw [j2]; exact f2,by rw [j3]; exact f3⟩
 ·by_cases hb' : b = w.heap.size
  ·subst hb'
   simp only [Gh.addBox,if_true,Option.some.injEq,Prod.mk.injEq] at hb
   obtain ⟨rfl,_⟩ := hb
   exact ⟨h.size,by rw [size_alloc]; omega,u2⟩
  ·rw [ho' b hb'] at hb
   obtain ⟨h1,h2,h3⟩ := h.own b k' t' hb
   exact ⟨h1,by rw [size_alloc]; omega,h3⟩
 ·obtain ⟨v1,v2⟩ := h.virt k' (.inl hv')
  have hne : k' ≠ k := by rintro rfl; exact hvk hv'
  exact ⟨fun hkn => v1 (Gh.knows_of hkk hne hkn),v2⟩
theorem real_sound (hR : Rel P (Ξ.add k) B S G st N a w) (hvk : ¬ Ξ.virt k) {I : Operand → Bool} {ops : Array Oper} {d : Nat} {z : List Val} (hl : lowOper P I ops o = some { dst := some d,op := .alloc z,guard := none }) (hd : d < N) (hek : st.en k = some (.box z false))
  {ro : Option Nat} {m : Nat} {next : Act → World → Prop} {Q : Exit → Act → World → Prop} (kk : ∀ a' w' G',Rel P Ξ B S G' { st with fr := setFr st.fr d (.ptr k 0) } N a' w' → Below B w w' → next a' w') :
  if Region.wanted o (yielded ops a.tmps) = true then o.wpIn (Fx ro) m P a w next Q else (∀ f,o.about P w a.eval = some f → (Fx ro).fn f) ∧ next (a.put o.dst undef) w := by
 simp only [lowOper,Option.bind_eq_bind,Option.bind_eq_some_iff,Option.pure_def,Option.some.injEq,LOper.mk.injEq] at hl
 obtain ⟨lop,hop,g,hg,hdst,rfl,rfl⟩ := hl
 obtain ⟨t,ho,hz⟩ := lowOp_alloc hop
 have hw : wanted st.fr none = some true := rfl
 rw [wanted_sound hR hg hw,if_pos rfl]
 obtain ⟨i,v,hi,hz,hs,ho1,hv⟩ := zero_sound (P := P) (G := G) (w := w) (T := Stab B S G w.heap.size) hz
 refine ⟨fun _ _ => trivial,?_⟩
 rw [semAt_of (x := .value (.pointer (some ⟨w.heap.size,0,none⟩))) (w' := w.alloc (.cells v.cells t)) (by simp [execOp,ho,Instr.alloc,run_zeroValue hi hz,newVar,newRow]) (by simp)]
 have hR' := hR.realize hvk (t := t) hek hs ho1 hv
 rw [Oper.uponIn_value]
 rw [hdst]
 exact kk _ _ _ (hR'.put hd (.ptr k 0 w.heap.size (by simp [Gh.addBox]))) (below_alloc hR _)
end
theorem applyAll_leaves {k : Key} : ∀ (ws : List W) (en : En),(ws.all fun w => decide (w.key ≠ k)) = true → W.applyAll en ws k = en k
 | [],_,_ => rfl
 | x :: ws,en,h => by
  simp only [List.all_cons,Bool.and_eq_true,decide_eq_true_eq] at h
  have e : W.applyAll en (x :: ws) = W.applyAll (x.apply en) ws := rfl
  rw [e,applyAll_leaves ws _ h.2]
  have hk := h.1
  have key : ∀ (k1 : Key) (e : Option Ent),k1 ≠ k → En.set en k1 e k = en k := fun k1 e h => if_neg fun he => h he.symm
  clear e
  cases x with
  | ent k1 e1 => exact key k1 e1 hk
  | cells k1 off vs =>
   simp only [W.apply]
   cases h1 : en k1 with
   | none => rfl
   | some e1 => cases e1 <;> first | exact key k1 _ hk | rfl
  | elem k1 i off vs =>
   simp only [W.apply]
   cases h1 : en k1 with
   | none => rfl
   | some e1 =>
    cases e1 with
    | blk sz xs f =>
     simp only
     cases h2 : xs[i]? with
     | none => rfl
     | some x => exact key k1 _ hk
    | _ => rfl
  | frz k1 =>
   simp only [W.apply]
   cases h1 : en k1 with
   | none => rfl
   | some e1 => exact key k1 _ hk
theorem fold_leaves {l : Nat → LOper} {r : Nat → Res} {L : Nat → Bool} {st : St} {k : Key} : ∀ (n : Nat),(∀ i,i < n → L i = true → leaves k (r i) = true) → (foldE (fun i => effO (l i) (r i)) L st n).en k = st.en k
 | 0,_ => rfl
 | n + 1,h => by
  simp only [foldE]
  have ih := fold_leaves (l := l) (r := r) (L := L) (st := st) n fun i hi => h i (by omega)
  split
  ·rename_i hL
   have hl := h n (by omega) hL
   rw [← ih]
   simp only [effO]
   unfold leaves at hl
   cases hm : (r n).mem with
   | some p => rw [hm] at hl; simp only at hl ⊢; rw [if_pos hl]
   | none => rw [hm] at hl; exact applyAll_leaves _ _ hl
  ·exact ih
theorem drawPairs_less {an : List (List Nat)} {l l' : List LOper} {ps : List (Nat × Nat)} (hlen : l'.length = l.length) (hd : ∀ i,i < l.length → (l'.getD i default).dst = (l.getD i default).dst) (hu : ∀ i,i < l.length → ∀ d ∈ (l'.getD i default).uses,d ∈ (l.getD i default).uses)
  (hm : ∀ i,i < l.length → ((l'.getD i default).op.writesMem = true → (l.getD i default).op.writesMem = true) ∧ ((l'.getD i default).op.readsMem = true → (l.getD i default).op.readsMem = true)) (h : drawPairs an l = some ps) :
  ∃ ps',drawPairs an l' = some ps' ∧ ∀ p ∈ ps',p ∈ ps := by
 simp only [drawPairs] at h ⊢
 split at h
 case isFalse => cases h
 rename_i hall
 simp only [Option.some.injEq] at h
 rw [hlen]
 have hc : ((List.range l.length).all fun k => (List.range l.length).all fun i => i == k ||
   (match (l'.getD i default).dst with
    | some d => (l'.getD k default).dst != some d && (!(l'.getD k default).uses.contains d || ((an.getD k []).contains i || (an.getD i []).contains k))
    | none => true)) = true := by
  rw [List.all_eq_true]
  intro k hk
  rw [List.all_eq_true]
  intro i hi
  have hk' := List.mem_range.1 hk
  have hi' := List.mem_range.1 hi
  have h0 := List.all_eq_true.1 (List.all_eq_true.1 hall k hk) i hi
  rw [Bool.or_eq_true] at h0 ⊢
  refine h0.imp id fun h0 => ?_
  rw [hd i hi',hd k hk']
  cases hdd : (l.getD i default).dst with
  | none => rfl
  | some d =>
   rw [hdd] at h0
   simp only [Bool.and_eq_true] at h0 ⊢
   refine ⟨h0.1,?_⟩
   have h1 := h0.2
   rw [Bool.or_eq_true] at h1 ⊢
   refine h1.imp (fun h2 => ?_) id
   simp only [Bool.not_eq_true',List.contains_eq_mem,decide_eq_false_iff_not] at h2 ⊢
   exact fun h3 => h2 (hu k hk' d h3)
 refine ⟨_,if_pos hc,fun p hp => ?_⟩
 rw [← h]
 simp only [List.mem_flatMap,List.mem_range,List.mem_map,List.mem_filter,Bool.and_eq_true] at hp ⊢
 obtain ⟨k,hk,i,⟨hik,hord,hcond⟩,rfl⟩ := hp
 refine ⟨k,hk,i,⟨hik,hord,?_⟩,rfl⟩
 have mi := hm i (by omega)
 have mk := hm k hk
 simp only [Bool.or_eq_true,Bool.and_eq_true] at hcond ⊢
 exact hcond.imp (fun h => ⟨mi.1 h.1,h.2.imp mk.2 mk.1⟩) (fun h => ⟨mk.1 h.1,mi.2 h.2⟩)
theorem late_get {A : Nat} {k : Key} {l : List LOper} (hA : A < l.length) (i : Nat) : (lateL A k l).getD i default = if i = A then lateO k (l.getD A default) else l.getD i default := by
 simp only [lateL,List.getD_eq_getElem?_getD,List.getElem?_set]
 by_cases h : A = i
 ·subst h; simp [hA]
 ·rw [if_neg h,if_neg fun e => h e.symm]
theorem late_len {A : Nat} {k : Key} {l : List LOper} : (lateL A k l).length = l.length := by simp [lateL]
theorem late_pairs {an : List (List Nat)} {A : Nat} {k : Key} {l : List LOper} {ps : List (Nat × Nat)} (hA : A < l.length) (h : drawPairs an l = some ps) : ∃ ps',drawPairs an (lateL A k l) = some ps' ∧ ∀ p ∈ ps',p ∈ ps := by
 refine drawPairs_less late_len (fun i hi => ?_) (fun i hi d hd => ?_) (fun i hi => ?_) h
 ·rw [late_get hA]; split
  ·rename_i e; subst e; rfl
  ·rfl
 ·rw [late_get hA] at hd; split at hd
  ·simp [lateO,LOper.uses,LOp.opds,Opd.tmp] at hd
  ·exact hd
 ·rw [late_get hA]; split
  ·exact ⟨fun h => by simp [lateO,LOp.writesMem] at h,fun h => by simp [lateO,LOp.readsMem] at h⟩
  ·exact ⟨id,id⟩
section
variable {P : Program} {Ξ : Env} {B : Nat} {S : Nat → Nat → Prop} {N : Nat} {ops : Array Oper} {l : List LOper} {n : Nat} {call : CallFn} {io : Inl} {pan : CallFn} {pin : Nat → List Val → St → Option (Val × St)} {I : Operand → Bool} {ro : Option Nat} {m : Nat}
theorem any_late (hcall : CallOk P call) (hio : InlOk P io) (hl : mapO (lowOper P I ops) ops.toList = some l) (hd : l.all (fun o => o.dst.all (· < N)) = true) {an : List (List Nat)} (han : ancs ops = some an)
  {ps : List (Nat × Nat)} (hps : drawPairs an l = some ps) {A d : Nat} {z : List Val} {kA : Key} (hA : A < l.length) (hAo : l.getD A default = { dst := some d,op := .alloc z,guard := none }) (hvk : ¬ Ξ.virt kA) {st stn : St} {rs : List Res} (hrun : runRec n call io 0 (lateL A kA l) st = some (stn,rs)) (hok : pairsOk rs ps = true) (hleft : leftOk an A kA rs = true) (hek : st.en kA = some (.box z false)) {Q : Exit → Act → World → Prop} :
  ∀ (fuel : Nat) (listed : Array Bool) (G : Gh) (a : Act) (w : World),listed.size = ops.size → (List.range ops.size).countP (fun i => !listed.getD i false) ≤ fuel → ClosedD ops (fun i => listed.getD i false) →
   Rel P (if listed.getD A false = true then Ξ else Ξ.add kA) B S G (foldE (fun k => effO ((lateL A kA l).getD k default) (rs.getD k noRes)) (fun i => listed.getD i false) st ops.size) N a w → (∀ a' w' G',Rel P Ξ B S G' stn N a' w' → Below B w w' → Q .normal a' w') →
   wpAnyIn (Fx ro) m P .any ops Q fuel listed a w := by
 obtain ⟨l1,l2⟩ := mapO_some hl
 have hN : l.length = ops.size := by rw [l1]; simp
 obtain ⟨hrl,s,hrun',hsn⟩ := run_of_rec hrun
 rw [late_len,hN] at hrun' hsn
 obtain ⟨ps',hps',hsub⟩ := late_pairs (k := kA) hA hps
 have hok' := pairsOk_sub hok hsub
 have hlt := ancs_lt han
 have hw : ∀ i,i < (lateL A kA l).length → (((lateL A kA l).getD i default).op.writesMem = false → (rs.getD i noRes).quiet) ∧ (((lateL A kA l).getD i default).op.readsMem = false → (rs.getD i noRes).rs = []) :=
  fun i hi => (step_eff (hrun'.step i (by rw [late_len] at hi; omega))).2.2
 have hfree : ∀ i j,i < j → j < ops.size → ¬ i ∈ an.getD j [] → Free ((lateL A kA l).getD i default) ((lateL A kA l).getD j default) (rs.getD i noRes) (rs.getD j noRes) :=
  fun i j hij hj ho => free_of hps' hok' hw (fun j i hj hi => hlt j i (by rw [late_len] at hj; omega) hi) hij (by rw [late_len]; omega) ho
 have full : ∀ (listed : Array Bool),listed.size = ops.size → Region.ready .any ops listed = [] → ∀ i,i < ops.size → listed.getD i false = true := by
  intro listed hsz hr i
  induction i using Nat.strongRecOn with
  | ind i ih =>
   intro hi
   cases hb : listed.getD i false with
   | true => rfl
   | false =>
    exfalso
    have hm : i ∈ Region.ready .any ops listed := by
     rw [mem_ready]
     refine ⟨?_,ops[i],Array.getElem?_eq_getElem hi,fun e he hbd => ?_⟩
     ·rw [Array.getD_eq_getD_getElem?,Array.getElem?_eq_getElem (by omega)] at hb ⊢; simpa using hb
     ·have hk : e.on ∈ direct ops[i] := List.mem_map.2 ⟨e,List.mem_filter.2 ⟨by simpa using he,hbd⟩,rfl⟩
      have := (ancs_spec han (Array.getElem?_eq_getElem hi)).1 _ hk
      exact ih _ this (by omega)
    rw [hr] at hm; simp at hm
 have done : ∀ (listed : Array Bool) (G : Gh) (a : Act) (w : World),listed.size = ops.size → Region.ready .any ops listed = [] →
   Rel P (if listed.getD A false = true then Ξ else Ξ.add kA) B S G (foldE (fun k => effO ((lateL A kA l).getD k default) (rs.getD k noRes)) (fun i => listed.getD i false) st ops.size) N a w → (∀ a' w' G',Rel P Ξ B S G' stn N a' w' → Below B w w' → Q .normal a' w') → Q .normal a w := by
  intro listed G a w hsz hr hR hQ
  refine hQ a w G ?_ (Below.refl _ _)
  rw [if_pos (full listed hsz hr A (by omega)),foldE_congr (L' := fun _ => true) fun i hi => full listed hsz hr i hi,← hrun'.fold _ (Nat.le_refl _),hsn] at hR
  exact hR
 intro fuel
 induction fuel with
 | zero =>
  intro listed G a w hsz hc hcl hR hQ
  have hr : Region.ready .any ops listed = [] := by
   cases h : Region.ready .any ops listed with
   | nil => rfl
   | cons i rest =>
    exfalso
    have hm : i ∈ Region.ready .any ops listed := by rw [h]; simp
    obtain ⟨h0,o,ho,_⟩ := mem_ready.1 hm
    have hi := (Array.getElem?_eq_some_iff.1 ho).1
    have hb : listed.getD i false = false := by
     rw [Array.getD_eq_getD_getElem?,Array.getElem?_eq_getElem (by omega)] at h0 ⊢; simpa using h0
    have := List.countP_pos_iff (p := fun i => !listed.getD i false) (l := List.range ops.size) |>.2 ⟨i,List.mem_range.2 hi,by simp only [hb]; rfl⟩
    omega
  exact ⟨hr,done listed G a w hsz hr hR hQ⟩
 | succ fuel ih =>
  intro listed G a w hsz hc hcl hR hQ
  refine ⟨fun hr => done listed G a w hsz hr hR hQ,fun i hm => ?_⟩
  obtain ⟨h0,o,ho,hready⟩ := mem_ready.1 hm
  have hi := (Array.getElem?_eq_some_iff.1 ho).1
  have hoi : o = ops[i] := by rw [Array.getElem?_eq_getElem hi,Option.some.injEq] at ho; exact ho.symm
  have hb : listed.getD i false = false := by
   rw [Array.getD_eq_getD_getElem?,Array.getElem?_eq_getElem (by omega)] at h0 ⊢; simpa using h0
  have hdir : ∀ k ∈ direct o,listed.getD k false = true := by
   intro k hk
   obtain ⟨e,he,rfl⟩ := List.mem_map.1 hk
   obtain ⟨he1,he2⟩ := List.mem_filter.1 he
   exact hready e (by simpa using he1) he2
  have hst := draw_step hrun' (ord := fun i j => j < ops.size ∧ i ∈ an.getD j []) (fun i j h => hlt j i h.1 h.2) (fun i j hij hj ho => hfree i j hij hj fun h => ho ⟨hj,h⟩) (L := fun i => listed.getD i false)
   (fun j hj hLj i hord => ancs_closed han hcl j _ (Array.getElem?_eq_getElem hj) (hcl j _ (Array.getElem?_eq_getElem hj) hLj) i hord.2) hi hb
   (fun k hk => ancs_closed han hcl i o ho hdir k hk.2)
  have hset : ∀ k,(listed.setIfInBounds i true).getD k false = (k == i || listed.getD k false) := by
   intro k
   by_cases hk : k = i
   ·subst hk
    simp [show k < listed.size by omega]
   ·rw [getD_set_ne false fun e => hk e.symm]
    have : (k == i) = false := by simpa using hk
    rw [this,Bool.false_or]
  have hil : i < l.length := by omega
  have hlow := l2 i (by simpa using hi) hil
  simp only [Array.getElem_toList] at hlow
  have hli : l.getD i default = l[i] := by simp [List.getD_eq_getElem?_getD,hil]
  unfold wpOpIn
  rw [Array.getElem?_eq_getElem hi]
  have go : ∀ a' w' G',Rel P (if (listed.setIfInBounds i true).getD A false = true then Ξ else Ξ.add kA) B S G' (foldE (fun k => effO ((lateL A kA l).getD k default) (rs.getD k noRes)) (fun k => k == i || listed.getD k false) st ops.size) N a' w' → Below B w w' → wpAnyIn (Fx ro) m P .any ops Q fuel (listed.setIfInBounds i true) a' w' := by
   intro a' w' G' h1 h2
   refine ih _ G' a' w' (by simpa using hsz) ?_ ?_ ?_ fun a'' w'' G'' h3 h4 => hQ a'' w'' G'' h3 (h2.trans h4)
   ·have := countP_put (fun i => !listed.getD i false) (fun k => !(listed.setIfInBounds i true).getD k false) i (by simp only [hb]; rfl) (by simp only [hset]; simp) (fun k hk => by
     simp only [hset]
     have : (k == i) = false := by simpa using hk
     rw [this,Bool.false_or]) ops.size hi
    omega
   ·intro j oj hoj hLj k hk
    simp only [hset] at hLj ⊢
    by_cases hj : j = i
    ·subst hj
     rw [ho,Option.some.injEq] at hoj; subst hoj
     rw [hdir k hk,Bool.or_true]
    ·have : (j == i) = false := by simpa using hj
     rw [this,Bool.false_or] at hLj
     have h5 : listed.getD k false = true := hcl j oj hoj hLj k hk
     rw [h5,Bool.or_true]
   ·rw [foldE_congr (L' := fun k => k == i || listed.getD k false) fun k _ => hset k]
    exact h1
  by_cases hiA : i = A
  ·subst hiA
   rw [if_neg (by rw [hb]; simp)] at hR
   have hset' : (listed.setIfInBounds i true).getD i false = true := by rw [hset]; simp
   rw [if_pos hset'] at go
   rw [late_get hA,if_pos rfl] at hst
   have hfold : foldE (fun k => effO ((lateL i kA l).getD k default) (rs.getD k noRes)) (fun k => k == i || listed.getD k false) st ops.size =
     { foldE (fun k => effO ((lateL i kA l).getD k default) (rs.getD k noRes)) (fun k => listed.getD k false) st ops.size with fr := setFr (foldE (fun k => effO ((lateL i kA l).getD k default) (rs.getD k noRes)) (fun k => listed.getD k false) st ops.size).fr d (.ptr kA 0) } := by
    rw [hAo] at hst
    have h0 : ∀ X : St,step n call io 0 X (lateO kA { dst := some d,op := .alloc z,guard := none }) = some ({ X with fr := setFr X.fr d (.ptr kA 0) },{ v := .ptr kA 0 }) := fun X => rfl
    rw [h0] at hst
    simp only [Option.some.injEq,Prod.mk.injEq] at hst
    exact hst.1.symm
   rw [hfold] at go
   have hlow' : lowOper P I ops ops[i] = some { dst := some d,op := .alloc z,guard := none } := by rw [hlow,← hli,hAo]
   have hdN : d < N := by
    have := List.all_eq_true.1 hd _ (List.getElem_mem hil)
    rw [← hli,hAo] at this
    simpa using this
   refine real_sound hR hvk hlow' hdN ?_ go
   rw [fold_leaves ops.size fun q hq hLq => ?_]
   ·exact hek
   ·have hqi : q ≠ i := by rintro rfl; rw [hb] at hLq; cases hLq
    have hqA : ¬ i ∈ an.getD q [] := fun h => by
     have := ancs_closed han hcl q _ (Array.getElem?_eq_getElem hq) (hcl q _ (Array.getElem?_eq_getElem hq) hLq) i h
     rw [hb] at this; cases this
    have := List.all_eq_true.1 hleft q (List.mem_range.2 (by rw [hrl,late_len,hN]; exact hq))
    simp only [Bool.or_eq_true,beq_iff_eq,hqi,false_or,List.contains_eq_mem,decide_eq_true_eq,hqA] at this
    have hqr : q < rs.length := by rw [hrl,late_len,hN]; exact hq
    rw [List.getElem?_eq_getElem hqr] at this
    simpa [List.getD_eq_getElem?_getD,hqr] using this
  ·rw [late_get hA,if_neg hiA,hli] at hst
   have hset' : (listed.setIfInBounds i true).getD A false = listed.getD A false := by
    rw [hset]
    have : (A == i) = false := by simpa using fun e => hiA e.symm
    rw [this,Bool.false_or]
   rw [hset'] at go
   exact step_sound hcall hio hR hlow (List.all_eq_true.1 hd _ (List.getElem_mem hil)) hst go
theorem anyP_late (hcall : CallOk P call) (hio : InlOk P io) (hpan : PanOk P pan) (hpin : PinOk P pin) (hl : mapO (lowOper P I ops) ops.toList = some l) (hd : l.all (fun o => o.dst.all (· < N)) = true) {an : List (List Nat)} (han : ancs ops = some an)
  {ps : List (Nat × Nat)} (hps : drawPairs an l = some ps) {A d : Nat} {z : List Val} {kA : Key} (hA : A < l.length) (hAo : l.getD A default = { dst := some d,op := .alloc z,guard := none }) (hvk : ¬ Ξ.virt kA) {l' : List LOper} (hl' : l' = lateL A kA l) {st st1 st2 : St} {j : Nat} {v : Val} {rs : List Res} (hj : j < l.length) (hjA : j ≠ A)
  (hrun : runRec n call io 0 (cutAt an j l') st = some (st1,rs)) (hck : (pairsOk rs ps && stillBut an j l' rs) = true) (hleft : leftOk an A kA rs = true) (hek : st.en kA = some (.box z false)) (hpj : panStep n pan pin st1 (l'.getD j default) = some (v,st2)) {Q : Exit → Act → World → Prop}
  {G0 : Gh} {a0 : Act} {w0 : World} (hR0 : Rel P (Ξ.add kA) B S G0 st N a0 w0) (hQ : ∀ a' w' G' x,(Ex.panic v).val x → RelE P Ξ B S G' { fr := fun t => if dstIn l' t then .tup [] else st2.fr t,en := st2.en,cnt := st2.cnt } N (.panic v) a' w' → Below B w0 w' → Q ((Ex.panic v).toExit x) a' w') :
  wpAnyIn (Fx ro) m P .any ops Q ops.size (Array.replicate ops.size false) a0 w0 := by
 obtain ⟨l1,l2⟩ := mapO_some hl
 have hN : l.length = ops.size := by rw [l1]; simp
 have hlen' : l'.length = l.length := by rw [hl',late_len]
 have hget : ∀ i,l'.getD i default = if i = A then lateO kA (l.getD A default) else l.getD i default := fun i => by rw [hl']; exact late_get hA i
 obtain ⟨ps0,hps0,hsub0⟩ := late_pairs (k := kA) hA hps
 rw [← hl'] at hps0
 simp only [stillBut,Bool.and_eq_true,List.all_eq_true,List.mem_range,Bool.or_eq_true] at hck
 obtain ⟨hok,hstill⟩ := hck
 obtain ⟨ps',hps',hsub⟩ := drawPairs_cut (j := j) hps0
 have hok' := pairsOk_sub hok fun p hp => hsub0 p (hsub p hp)
 obtain ⟨hrl,s,hrun',hsn⟩ := run_of_rec hrun
 have hN' : (cutAt an j l').length = ops.size := by rw [cutAt_length,hlen',hN]
 rw [hN'] at hrun' hsn
 have hlt := ancs_lt han
 have hw : ∀ i,i < (cutAt an j l').length → (((cutAt an j l').getD i default).op.writesMem = false → (rs.getD i noRes).quiet) ∧ (((cutAt an j l').getD i default).op.readsMem = false → (rs.getD i noRes).rs = []) :=
  fun i hi => (step_eff (hrun'.step i (by omega))).2.2
 have hfree : ∀ i k,i < k → k < ops.size → ¬ i ∈ an.getD k [] → Free ((cutAt an j l').getD i default) ((cutAt an j l').getD k default) (rs.getD i noRes) (rs.getD k noRes) :=
  fun i k hik hk ho => free_of hps' hok' hw (fun j i hj hi => hlt j i (by omega) hi) hik (by omega) ho
 have hjN : j < ops.size := by omega
 have atj : ∀ (L : Nat → Bool),ClosedD ops L → (∀ k,k ∈ an.getD j [] → L k = true) → (∀ k,behind an j k = true → L k = false) →
   panStep n pan pin (foldE (fun k => effO ((cutAt an j l').getD k default) (rs.getD k noRes)) L st ops.size) (l'.getD j default) =
    some (v,{ fr := (foldE (fun k => effO ((cutAt an j l').getD k default) (rs.getD k noRes)) L st ops.size).fr,en := st2.en,cnt := st2.cnt }) := by
  intro L hcl hanc hbeh
  have hb : ∀ k,k < ops.size → (rs.getD k noRes).bump = true → ((cutAt an j l').getD k default).dst.isSome = true := fun k hk => (step_eff (hrun'.step k hk)).2.1
  have drop := foldE_drop (E := fun k => effO ((cutAt an j l').getD k default) (rs.getD k noRes)) (L := fun _ => true) (s := st) (n := ops.size)
   (fun a b => a.en = b.en ∧ a.cnt = b.cnt ∧ ∀ t ∈ (l'.getD j default).uses,a.fr t = b.fr t) (fun _ => ⟨rfl,rfl,fun _ _ => rfl⟩) (fun a b c h k => ⟨h.1.trans k.1,h.2.1.trans k.2.1,fun t ht => (h.2.2 t ht).trans (k.2.2 t ht)⟩) L ops.size (Nat.le_refl _) (fun k hk _ hLk => by
    refine ⟨fun s => ?_,fun k2 hk2 hk2N _ hLk2 s => ?_⟩
    ·by_cases hbk : behind an j k = true
     ·have hst := hrun'.step k hk
      rw [cutAt_get (by omega),if_pos hbk] at hst
      have hr : rs.getD k noRes = { v := .nilp } := by
       simp only [nopO,step,wanted,eval,St.get,Option.some.injEq,Prod.mk.injEq] at hst
       simp at hst
       exact hst.2.symm
      rw [cutAt_get (by omega),if_pos hbk,hr]
      exact ⟨rfl,rfl,fun _ _ => rfl⟩
     ·have hnot : ¬ k ∈ an.getD j [] := fun h => by rw [hanc k h] at hLk; cases hLk
      have h0 := hstill k (by omega)
      simp only [hbk,Bool.false_eq_true,false_or,List.contains_eq_mem,decide_eq_true_eq,hnot] at h0
      split at h0
      case h_2 => cases h0
      rename_i r hr
      have hr' : rs.getD k noRes = r := by simp [List.getD_eq_getElem?_getD,hr]
      rw [hr']
      simp only [Res.still,Bool.and_eq_true,List.isEmpty_iff,Bool.not_eq_true',Option.isNone_iff_eq_none] at h0
      obtain ⟨⟨q1,q2⟩,q3⟩ := h0
      refine ⟨by simp only [effO,q3,q1,W.applyAll,List.foldl_nil],by simp only [effO,q3,q2,Bool.false_eq_true,if_false],fun t ht => ?_⟩
      simp only [effO]
      rw [cutAt_dst (by omega) hbk]
      refine putFr_other fun d hd he => ?_
      subst he
      simp only [drawPairs] at hps0
      split at hps0
      case isFalse => cases hps0
      rename_i hall
      have hkj : k ≠ j := fun e => hbk (by simp [behind,e])
      have := List.all_eq_true.1 (List.all_eq_true.1 hall j (List.mem_range.2 (by omega))) k (List.mem_range.2 (by omega))
      simp only [Bool.or_eq_true,beq_iff_eq,hkj,false_or,hd] at this
      simp only [Bool.and_eq_true,bne_iff_ne,ne_eq,Bool.or_eq_true,Bool.not_eq_true',List.contains_eq_mem,decide_eq_true_eq,decide_eq_false_iff_not] at this
      rcases this.2 with h1 | h1 | h1
      ·exact h1 ht
      ·exact hnot h1
      ·exact hbk (by simp only [behind,List.contains_eq_mem,Bool.or_eq_true,decide_eq_true_eq]; exact .inr h1)
    ·have ho : ¬ k ∈ an.getD k2 [] := fun h => by
      have := ancs_closed han hcl k2 _ (Array.getElem?_eq_getElem hk2N) (hcl k2 _ (Array.getElem?_eq_getElem hk2N) hLk2) k h
      rw [this] at hLk; cases hLk
     exact (hfree k k2 hk2 hk2N ho).comm (hb k (by omega)) (hb k2 hk2N) s)
  have e1 : foldE (fun k => effO ((cutAt an j l').getD k default) (rs.getD k noRes)) (fun k => true && (L k || decide (k < ops.size))) st ops.size = st1 := by
   rw [foldE_congr (L' := fun _ => true) fun i hi => by simp [hi],← hrun'.fold _ (Nat.le_refl _),hsn]
  have e2 : foldE (fun k => effO ((cutAt an j l').getD k default) (rs.getD k noRes)) (fun k => true && L k) st ops.size = foldE (fun k => effO ((cutAt an j l').getD k default) (rs.getD k noRes)) L st ops.size := by
   exact foldE_congr fun i _ => by simp
  rw [e1,e2] at drop
  exact (panStep_like hpj drop.1.symm drop.2.1.symm fun t ht => (drop.2.2 t ht).symm).1
 have main : ∀ (fuel : Nat) (listed : Array Bool) (G : Gh) (a : Act) (w : World),listed.size = ops.size → (List.range ops.size).countP (fun i => !listed.getD i false) ≤ fuel → ClosedD ops (fun i => listed.getD i false) → (∀ k,k < ops.size → behind an j k = true → listed.getD k false = false) →
   Rel P (if listed.getD A false = true then Ξ else Ξ.add kA) B S G (foldE (fun k => effO ((cutAt an j l').getD k default) (rs.getD k noRes)) (fun i => listed.getD i false) st ops.size) N a w → Below B w0 w →
   wpAnyIn (Fx ro) m P .any ops Q fuel listed a w := by
  have jready : ∀ (listed : Array Bool),listed.size = ops.size → listed.getD j false = false → Region.ready .any ops listed ≠ [] := by
   intro listed hsz hb hr
   have : ∀ i,i < ops.size → listed.getD i false = true := by
    intro i
    induction i using Nat.strongRecOn with
    | ind i ih =>
     intro hi
     cases hb : listed.getD i false with
     | true => rfl
     | false =>
      exfalso
      have hm : i ∈ Region.ready .any ops listed := by
       rw [mem_ready]
       refine ⟨?_,ops[i],Array.getElem?_eq_getElem hi,fun e he hbd => ?_⟩
       ·rw [Array.getD_eq_getD_getElem?,Array.getElem?_eq_getElem (by omega)] at hb ⊢; simpa using hb
       ·have hk : e.on ∈ direct ops[i] := List.mem_map.2 ⟨e,List.mem_filter.2 ⟨by simpa using he,hbd⟩,rfl⟩
        have := (ancs_spec han (Array.getElem?_eq_getElem hi)).1 _ hk
        exact ih _ this (by omega)
      rw [hr] at hm; simp at hm
   rw [this j hjN] at hb; cases hb
  intro fuel
  induction fuel with
  | zero =>
   intro listed G a w hsz hc hcl hbeh hR hB
   exfalso
   have hb := hbeh j hjN (by simp [behind])
   have := List.countP_pos_iff (p := fun i => !listed.getD i false) (l := List.range ops.size) |>.2 ⟨j,List.mem_range.2 hjN,by simp only [hb]; rfl⟩
   omega
  | succ fuel ih =>
   intro listed G a w hsz hc hcl hbeh hR hB
   refine ⟨fun hr => absurd hr (jready listed hsz (hbeh j hjN (by simp [behind]))),fun i hm => ?_⟩
   obtain ⟨h0,o,ho,hready⟩ := mem_ready.1 hm
   have hi := (Array.getElem?_eq_some_iff.1 ho).1
   have hoi : o = ops[i] := by rw [Array.getElem?_eq_getElem hi,Option.some.injEq] at ho; exact ho.symm
   have hb : listed.getD i false = false := by
    rw [Array.getD_eq_getD_getElem?,Array.getElem?_eq_getElem (by omega)] at h0 ⊢; simpa using h0
   have hdir : ∀ k ∈ direct o,listed.getD k false = true := by
    intro k hk
    obtain ⟨e,he,rfl⟩ := List.mem_map.1 hk
    obtain ⟨he1,he2⟩ := List.mem_filter.1 he
    exact hready e (by simpa using he1) he2
   have hanci : ∀ k ∈ an.getD i [],listed.getD k false = true := fun k hk => ancs_closed han hcl i o ho hdir k hk
   have hil : i < l.length := by omega
   have hlow := l2 i (by simpa using hi) hil
   simp only [Array.getElem_toList] at hlow
   have hli : l.getD i default = l[i] := by simp [List.getD_eq_getElem?_getD,hil]
   unfold wpOpIn
   rw [Array.getElem?_eq_getElem hi]
   by_cases hij : i = j
   ·subst hij
    have hp := atj (fun i => listed.getD i false) hcl hanci (fun k hk => by
     by_cases hkN : k < ops.size
     ·exact hbeh k hkN hk
     ·rw [Array.getD_eq_getD_getElem?,Array.getElem?_eq_none (by omega)]; rfl)
    rw [hget,if_neg hjA,hli] at hp
    obtain ⟨q1,q2⟩ := panStep_sound (ops := ops) (ro := ro) (m := m) (next := fun a w => wpAnyIn (Fx ro) m P .any ops Q fuel (listed.setIfInBounds i true) a w) (Q := Q) hpan hpin hR hlow hp fun a' w' G' x h1 h2 h3 => by
     refine hQ a' w' G' x h1 ?_ (hB.trans h3)
     have hun : ∀ {Ga : Gh} {sa : St} {aa : Act} {wa : World},Rel P (if listed.getD A false = true then Ξ else Ξ.add kA) B S Ga sa N aa wa → Rel P Ξ B S Ga sa N aa wa := fun h => by
      split at h
      ·exact h
      ·exact h.unadd
     replace h2 := hun h2
     have hfr : st2.fr = st1.fr := (panStep_like hpj rfl rfl fun _ _ => rfl).2
     refine ⟨a'.tmps.mapIdx fun t y => if dstIn l' t then undef else y,?_,fun h => (by cases h),fun t ht => ?_⟩
     ·refine ⟨h2.size,by simpa using h2.tmps,fun t => ?_,h2.marks,h2.ents,h2.freshEn,h2.freshG,h2.own,h2.extra,h2.round,h2.defs,h2.virt⟩
      have hfrm := h2.frame t
      simp only at hfrm ⊢
      by_cases hdt : dstIn l' t = true
      ·rw [if_pos hdt]
       have : (a'.tmps.mapIdx fun t y => if dstIn l' t then undef else y).getD t undef = undef := by
        simp only [Array.getD_eq_getD_getElem?,Array.getElem?_mapIdx]
        cases a'.tmps[t]? with
        | none => rfl
        | some y => simp [hdt]
       rw [this]; exact .tup [] #[] rfl (fun i hi => by simp at hi)
      ·rw [if_neg hdt]
       have e1 : (a'.tmps.mapIdx fun t y => if dstIn l' t then undef else y).getD t undef = a'.tmps.getD t undef := by
        simp only [Array.getD_eq_getD_getElem?,Array.getElem?_mapIdx]
        cases a'.tmps[t]? with
        | none => rfl
        | some y => simp [hdt]
       have hne : ∀ k,k < ops.size → ((cutAt an i l').getD k default).dst ≠ some t := by
        intro k hk he
        by_cases hbk : behind an i k = true
        ·rw [cutAt_get (by omega),if_pos hbk] at he
         cases he
        ·rw [cutAt_dst (by omega) hbk] at he
         refine hdt ?_
         simp only [dstIn,List.any_eq_true,beq_iff_eq]
         exact ⟨l'[k]'(by omega),List.getElem_mem (by omega),by simpa [List.getD_eq_getElem?_getD,show k < l'.length by omega] using he⟩
       rw [fold_fr (r := fun k => rs.getD k noRes) ops.size hne] at hfrm
       have e2 : st2.fr t = st.fr t := by
        rw [hfr,← hsn,hrun'.fold _ (Nat.le_refl _)]
        exact fold_fr (r := fun k => rs.getD k noRes) ops.size hne
       rw [e1,e2]; exact hfrm
     ·simp only at ht
      split at ht
      ·cases ht
      ·rename_i hdt
       simp only [Array.getD_eq_getD_getElem?,Array.getElem?_mapIdx]
       cases a'.tmps[t]? with
       | none => rfl
       | some y => simp [hdt]
    simp only [q1,if_true]
    exact q2
   ·have hbi : ¬ behind an j i = true := fun h => by
     simp only [behind,List.contains_eq_mem,Bool.or_eq_true,beq_iff_eq,decide_eq_true_eq] at h
     rcases h with h | h
     ·exact hij h
     ·have := hanci j h
      rw [hbeh j hjN (by simp [behind])] at this; cases this
    have hst := draw_step hrun' (ord := fun i j => j < ops.size ∧ i ∈ an.getD j []) (fun i j h => hlt j i h.1 h.2) (fun i j hij hj ho => hfree i j hij hj fun h => ho ⟨hj,h⟩) (L := fun i => listed.getD i false)
     (fun j hj hLj i hord => ancs_closed han hcl j _ (Array.getElem?_eq_getElem hj) (hcl j _ (Array.getElem?_eq_getElem hj) hLj) i hord.2) hi hb
     (fun k hk => hanci k hk.2)
    rw [cutAt_get (by omega),if_neg hbi] at hst
    have hset : ∀ k,(listed.setIfInBounds i true).getD k false = (k == i || listed.getD k false) := by
     intro k
     by_cases hk : k = i
     ·subst hk
      simp [show k < listed.size by omega]
     ·rw [getD_set_ne false fun e => hk e.symm]
      have : (k == i) = false := by simpa using hk
      rw [this,Bool.false_or]
    have go : ∀ a' w' G',Rel P (if (listed.setIfInBounds i true).getD A false = true then Ξ else Ξ.add kA) B S G' (foldE (fun k => effO ((cutAt an j l').getD k default) (rs.getD k noRes)) (fun k => k == i || listed.getD k false) st ops.size) N a' w' → Below B w w' → wpAnyIn (Fx ro) m P .any ops Q fuel (listed.setIfInBounds i true) a' w' := by
     intro a' w' G' h1 h2
     refine ih _ G' a' w' (by simpa using hsz) ?_ ?_ ?_ ?_ (hB.trans h2)
     ·have := countP_put (fun i => !listed.getD i false) (fun k => !(listed.setIfInBounds i true).getD k false) i (by simp only [hb]; rfl) (by simp only [hset]; simp) (fun k hk => by
       simp only [hset]
       have : (k == i) = false := by simpa using hk
       rw [this,Bool.false_or]) ops.size hi
      omega
     ·intro j oj hoj hLj k hk
      simp only [hset] at hLj ⊢
      by_cases hj : j = i
      ·subst hj
       rw [ho,Option.some.injEq] at hoj; subst hoj
       rw [hdir k hk,Bool.or_true]
      ·have : (j == i) = false := by simpa using hj
       rw [this,Bool.false_or] at hLj
       have h5 : listed.getD k false = true := hcl j oj hoj hLj k hk
       rw [h5,Bool.or_true]
     ·intro k hkN hk
      rw [hset]
      have : (k == i) = false := by
       simp only [beq_eq_false_iff_ne,ne_eq]
       rintro rfl
       exact hbi hk
      rw [this,Bool.false_or]
      exact hbeh k hkN hk
     ·rw [foldE_congr (L' := fun k => k == i || listed.getD k false) fun k _ => hset k]
      exact h1
    by_cases hiA : i = A
    ·subst hiA
     rw [if_neg (by rw [hb]; simp)] at hR
     have hset' : (listed.setIfInBounds i true).getD i false = true := by rw [hset]; simp
     rw [if_pos hset'] at go
     have hnl : loneV an j l' i = false := by
      unfold loneV
      rw [hget,if_pos rfl]
      simp only [lateO,Bool.and_false]
     rw [if_neg (by rw [hnl]; simp),hget,if_pos rfl] at hst
     have hfold : foldE (fun k => effO ((cutAt an j l').getD k default) (rs.getD k noRes)) (fun k => k == i || listed.getD k false) st ops.size =
       { foldE (fun k => effO ((cutAt an j l').getD k default) (rs.getD k noRes)) (fun k => listed.getD k false) st ops.size with fr := setFr (foldE (fun k => effO ((cutAt an j l').getD k default) (rs.getD k noRes)) (fun k => listed.getD k false) st ops.size).fr d (.ptr kA 0) } := by
      rw [hAo] at hst
      have h0 : ∀ X : St,step n call io 0 X (lateO kA { dst := some d,op := .alloc z,guard := none }) = some ({ X with fr := setFr X.fr d (.ptr kA 0) },{ v := .ptr kA 0 }) := fun X => rfl
      rw [h0] at hst
      simp only [Option.some.injEq,Prod.mk.injEq] at hst
      exact hst.1.symm
     rw [hfold] at go
     have hlow' : lowOper P I ops ops[i] = some { dst := some d,op := .alloc z,guard := none } := by rw [hlow,← hli,hAo]
     have hdN : d < N := by
      have := List.all_eq_true.1 hd _ (List.getElem_mem hil)
      rw [← hli,hAo] at this
      simpa using this
     have hrl' : rs.length = ops.size := by rw [hrl,cutAt_length,hlen',hN]
     refine real_sound hR hvk hlow' hdN ?_ go
     rw [fold_leaves ops.size fun q hq hLq => ?_]
     ·exact hek
     ·have hqi : q ≠ i := by rintro rfl; rw [hb] at hLq; cases hLq
      have hqA : ¬ i ∈ an.getD q [] := fun h => by
       have := ancs_closed han hcl q _ (Array.getElem?_eq_getElem hq) (hcl q _ (Array.getElem?_eq_getElem hq) hLq) i h
       rw [hb] at this; cases this
      have := List.all_eq_true.1 hleft q (List.mem_range.2 (by omega))
      simp only [Bool.or_eq_true,beq_iff_eq,hqi,false_or,List.contains_eq_mem,decide_eq_true_eq,hqA] at this
      have hqr : q < rs.length := by omega
      rw [List.getElem?_eq_getElem hqr] at this
      simpa [List.getD_eq_getElem?_getD,hqr] using this
    ·have hset' : (listed.setIfInBounds i true).getD A false = listed.getD A false := by
      rw [hset]
      have : (A == i) = false := by simpa using fun e => hiA e.symm
      rw [this,Bool.false_or]
     rw [hset'] at go
     rw [hget,if_neg hiA,hli] at hst
     by_cases hlo : loneV an j l' i = true
     ·rw [if_pos hlo] at hst
      exact garb_sound hR hlow (List.all_eq_true.1 hd _ (List.getElem_mem hil)) (by simp only [loneV,Bool.and_eq_true,hget,if_neg hiA,hli] at hlo ⊢; exact ⟨hlo.1.2,hlo.2⟩) hst go
     ·rw [if_neg hlo] at hst
      exact step_sound hcall hio hR hlow (List.all_eq_true.1 hd _ (List.getElem_mem hil)) hst go
 refine main ops.size (Array.replicate ops.size false) G0 a0 w0 (by simp) (Nat.le_trans List.countP_le_length (by simp)) ?_ ?_ ?_ (Below.refl _ _)
 ·intro j o ho hL
  simp [Array.getElem?_replicate] at hL
  split at hL <;> simp at hL
 ·intro k hk _
  simp [Array.getD_eq_getD_getElem?,Array.getElem?_replicate,hk]
 ·rw [foldE_congr (L' := fun _ => false) fun i _ => by simp [Array.getElem?_replicate]; split <;> simp]
  have : ∀ (k : Nat),foldE (fun k => effO ((cutAt an j l').getD k default) (rs.getD k noRes)) (fun _ => false) st k = st := by
   intro k; induction k with
   | zero => rfl
   | succ k ih => simp only [foldE,Bool.false_eq_true,if_false]; exact ih
  have hf : ¬ (Array.replicate ops.size false).getD A false = true := by
   rw [Array.getD_eq_getD_getElem?,Array.getElem?_replicate]
   split <;> simp
  rw [this,if_neg hf]; exact hR0
end
end Go.Abs
namespace Go.Abs
open Go.RowKit (Below)
variable [Inhabited Glob]
abbrev Env.addP (Ξ : Env) (p : Key → Prop) : Env := { Ξ with virt := fun k => Ξ.virt k ∨ p k }
section
variable {P : Program} {Ξ : Env} {B : Nat} {S : Nat → Nat → Prop} {G : Gh} {st : St} {N : Nat} {a : Act} {w : World} {o : Oper} {k : Key}
theorem Rel.virtG {q : Key → Prop} (hv : ∀ k,q k → Ξ.virt k) (h : Rel P Ξ B S G st N a w) : Rel P { Ξ with virt := q } B S G st N a w :=
 ⟨h.size,h.tmps,h.frame,h.marks,h.ents,h.freshEn,h.freshG,h.own,h.extra,h.round,h.defs,fun k' hq => h.virt k' (hv k' hq)⟩
end
section
variable {P : Program} {Ξ : Env} {B : Nat} {S : Nat → Nat → Prop} {N : Nat} {ops : Array Oper} {l : List LOper} {n : Nat} {call : CallFn} {io : Inl} {I : Operand → Bool} {ro : Option Nat} {m : Nat}
theorem any_lates (hcall : CallOk P call) (hio : InlOk P io) (hl : mapO (lowOper P I ops) ops.toList = some l) (hd : l.all (fun o => o.dst.all (· < N)) = true) {an : List (List Nat)} (han : ancs ops = some an)
  {ps : List (Nat × Nat)} (hps : drawPairs an l = some ps) {late : Nat → Bool} {key : Nat → Key} {l' : List LOper} (hlen : l'.length = l.length)
  (hget : ∀ i,i < l.length → l'.getD i default = if late i = true then lateO (key i) (l.getD i default) else l.getD i default) {st stn : St}
  (hA : ∀ i,i < l.length → late i = true → ∃ d z,l.getD i default = { dst := some d,op := .alloc z,guard := none } ∧ st.en (key i) = some (.box z false) ∧ ¬ Ξ.virt (key i))
  (hdis : ∀ i j,i < l.length → j < l.length → late i = true → late j = true → i ≠ j → key i ≠ key j)
  {rs : List Res} (hrun : runRec n call io 0 l' st = some (stn,rs)) (hok : pairsOk rs ps = true) (hleft : ∀ i,i < l.length → late i = true → leftOk an i (key i) rs = true) {Q : Exit → Act → World → Prop} :
  ∀ (fuel : Nat) (listed : Array Bool) (G : Gh) (a : Act) (w : World),listed.size = ops.size → (List.range ops.size).countP (fun i => !listed.getD i false) ≤ fuel → ClosedD ops (fun i => listed.getD i false) →
   Rel P (Ξ.addP fun k => ∃ i,i < l.length ∧ late i = true ∧ listed.getD i false = false ∧ k = key i) B S G (foldE (fun k => effO (l'.getD k default) (rs.getD k noRes)) (fun i => listed.getD i false) st ops.size) N a w → (∀ a' w' G',Rel P Ξ B S G' stn N a' w' → Below B w w' → Q .normal a' w') →
   wpAnyIn (Fx ro) m P .any ops Q fuel listed a w := by
 obtain ⟨l1,l2⟩ := mapO_some hl
 have hN : l.length = ops.size := by rw [l1]; simp
 obtain ⟨hrl,s,hrun',hsn⟩ := run_of_rec hrun
 rw [hlen,hN] at hrun' hsn
 obtain ⟨ps',hps',hsub⟩ : ∃ ps',drawPairs an l' = some ps' ∧ ∀ p ∈ ps',p ∈ ps := by
  refine drawPairs_less hlen (fun i hi => ?_) (fun i hi d hd => ?_) (fun i hi => ?_) hps
  ·rw [hget i hi]; split
   ·rfl
   ·rfl
  ·rw [hget i hi] at hd; split at hd
   ·simp [lateO,LOper.uses,LOp.opds,Opd.tmp] at hd
   ·exact hd
  ·rw [hget i hi]; split
   ·exact ⟨fun h => by simp [lateO,LOp.writesMem] at h,fun h => by simp [lateO,LOp.readsMem] at h⟩
   ·exact ⟨id,id⟩
 have hok' := pairsOk_sub hok hsub
 have hlt := ancs_lt han
 have hw : ∀ i,i < l'.length → ((l'.getD i default).op.writesMem = false → (rs.getD i noRes).quiet) ∧ ((l'.getD i default).op.readsMem = false → (rs.getD i noRes).rs = []) :=
  fun i hi => (step_eff (hrun'.step i (by omega))).2.2
 have hfree : ∀ i j,i < j → j < ops.size → ¬ i ∈ an.getD j [] → Free (l'.getD i default) (l'.getD j default) (rs.getD i noRes) (rs.getD j noRes) :=
  fun i j hij hj ho => free_of hps' hok' hw (fun j i hj hi => hlt j i (by omega) hi) hij (by omega) ho
 have full : ∀ (listed : Array Bool),listed.size = ops.size → Region.ready .any ops listed = [] → ∀ i,i < ops.size → listed.getD i false = true := by
  intro listed hsz hr i
  induction i using Nat.strongRecOn with
  | ind i ih =>
   intro hi
   cases hb : listed.getD i false with
   | true => rfl
   | false =>
    exfalso
    have hm : i ∈ Region.ready .any ops listed := by
     rw [mem_ready]
     refine ⟨?_,ops[i],Array.getElem?_eq_getElem hi,fun e he hbd => ?_⟩
     ·rw [Array.getD_eq_getD_getElem?,Array.getElem?_eq_getElem (by omega)] at hb ⊢; simpa using hb
     ·have hk : e.on ∈ direct ops[i] := List.mem_map.2 ⟨e,List.mem_filter.2 ⟨by simpa using he,hbd⟩,rfl⟩
      have := (ancs_spec han (Array.getElem?_eq_getElem hi)).1 _ hk
      exact ih _ this (by omega)
    rw [hr] at hm; simp at hm
 have done : ∀ (listed : Array Bool) (G : Gh) (a : Act) (w : World),listed.size = ops.size → Region.ready .any ops listed = [] →
   Rel P (Ξ.addP fun k => ∃ i,i < l.length ∧ late i = true ∧ listed.getD i false = false ∧ k = key i) B S G (foldE (fun k => effO (l'.getD k default) (rs.getD k noRes)) (fun i => listed.getD i false) st ops.size) N a w → (∀ a' w' G',Rel P Ξ B S G' stn N a' w' → Below B w w' → Q .normal a' w') → Q .normal a w := by
  intro listed G a w hsz hr hR hQ
  refine hQ a w G ?_ (Below.refl _ _)
  rw [foldE_congr (L' := fun _ => true) fun i hi => full listed hsz hr i hi,← hrun'.fold _ (Nat.le_refl _),hsn] at hR
  have h := hR.virtG (q := Ξ.virt) fun k hv => Or.inl hv
  exact h
 intro fuel
 induction fuel with
 | zero =>
  intro listed G a w hsz hc hcl hR hQ
  have hr : Region.ready .any ops listed = [] := by
   cases h : Region.ready .any ops listed with
   | nil => rfl
   | cons i rest =>
    exfalso
    have hm : i ∈ Region.ready .any ops listed := by rw [h]; simp
    obtain ⟨h0,o,ho,_⟩ := mem_ready.1 hm
    have hi := (Array.getElem?_eq_some_iff.1 ho).1
    have hb : listed.getD i false = false := by
     rw [Array.getD_eq_getD_getElem?,Array.getElem?_eq_getElem (by omega)] at h0 ⊢; simpa using h0
    have := List.countP_pos_iff (p := fun i => !listed.getD i false) (l := List.range ops.size) |>.2 ⟨i,List.mem_range.2 hi,by simp only [hb]; rfl⟩
    omega
  exact ⟨hr,done listed G a w hsz hr hR hQ⟩
 | succ fuel ih =>
  intro listed G a w hsz hc hcl hR hQ
  refine ⟨fun hr => done listed G a w hsz hr hR hQ,fun i hm => ?_⟩
  obtain ⟨h0,o,ho,hready⟩ := mem_ready.1 hm
  have hi := (Array.getElem?_eq_some_iff.1 ho).1
  have hb : listed.getD i false = false := by
   rw [Array.getD_eq_getD_getElem?,Array.getElem?_eq_getElem (by omega)] at h0 ⊢; simpa using h0
  have hdir : ∀ k ∈ direct o,listed.getD k false = true := by
   intro k hk
   obtain ⟨e,he,rfl⟩ := List.mem_map.1 hk
   obtain ⟨he1,he2⟩ := List.mem_filter.1 he
   exact hready e (by simpa using he1) he2
  have hst := draw_step hrun' (ord := fun i j => j < ops.size ∧ i ∈ an.getD j []) (fun i j h => hlt j i h.1 h.2) (fun i j hij hj ho => hfree i j hij hj fun h => ho ⟨hj,h⟩) (L := fun i => listed.getD i false)
   (fun j hj hLj i hord => ancs_closed han hcl j _ (Array.getElem?_eq_getElem hj) (hcl j _ (Array.getElem?_eq_getElem hj) hLj) i hord.2) hi hb
   (fun k hk => ancs_closed han hcl i o ho hdir k hk.2)
  have hset : ∀ k,(listed.setIfInBounds i true).getD k false = (k == i || listed.getD k false) := by
   intro k
   by_cases hk : k = i
   ·subst hk
    simp [show k < listed.size by omega]
   ·rw [getD_set_ne false fun e => hk e.symm]
    have : (k == i) = false := by simpa using hk
    rw [this,Bool.false_or]
  have hil : i < l.length := by omega
  have hlow := l2 i (by simpa using hi) hil
  simp only [Array.getElem_toList] at hlow
  have hli : l.getD i default = l[i] := by simp [List.getD_eq_getElem?_getD,hil]
  unfold wpOpIn
  rw [Array.getElem?_eq_getElem hi]
  have go : ∀ a' w' G',Rel P (Ξ.addP fun k => ∃ j,j < l.length ∧ late j = true ∧ (listed.setIfInBounds i true).getD j false = false ∧ k = key j) B S G' (foldE (fun k => effO (l'.getD k default) (rs.getD k noRes)) (fun k => k == i || listed.getD k false) st ops.size) N a' w' → Below B w w' → wpAnyIn (Fx ro) m P .any ops Q fuel (listed.setIfInBounds i true) a' w' := by
   intro a' w' G' h1 h2
   refine ih _ G' a' w' (by simpa using hsz) ?_ ?_ ?_ fun a'' w'' G'' h3 h4 => hQ a'' w'' G'' h3 (h2.trans h4)
   ·have := countP_put (fun i => !listed.getD i false) (fun k => !(listed.setIfInBounds i true).getD k false) i (by simp only [hb]; rfl) (by simp only [hset]; simp) (fun k hk => by
     simp only [hset]
     have : (k == i) = false := by simpa using hk
     rw [this,Bool.false_or]) ops.size hi
    omega
   ·intro j oj hoj hLj k hk
    simp only [hset] at hLj ⊢
    by_cases hj : j = i
    ·subst hj
     rw [ho,Option.some.injEq] at hoj; subst hoj
     rw [hdir k hk,Bool.or_true]
    ·have : (j == i) = false := by simpa using hj
     rw [this,Bool.false_or] at hLj
     have h5 : listed.getD k false = true := hcl j oj hoj hLj k hk
     rw [h5,Bool.or_true]
   ·rw [foldE_congr (L' := fun k => k == i || listed.getD k false) fun k _ => hset k]
    exact h1
  by_cases hiA : late i = true
  ·obtain ⟨d,z,hAo,hek,hvk⟩ := hA i hil hiA
   rw [hget i hil,if_pos hiA] at hst
   have hfold : foldE (fun k => effO (l'.getD k default) (rs.getD k noRes)) (fun k => k == i || listed.getD k false) st ops.size =
     { foldE (fun k => effO (l'.getD k default) (rs.getD k noRes)) (fun k => listed.getD k false) st ops.size with fr := setFr (foldE (fun k => effO (l'.getD k default) (rs.getD k noRes)) (fun k => listed.getD k false) st ops.size).fr d (.ptr (key i) 0) } := by
    rw [hAo] at hst
    have h0 : ∀ X : St,step n call io 0 X (lateO (key i) { dst := some d,op := .alloc z,guard := none }) = some ({ X with fr := setFr X.fr d (.ptr (key i) 0) },{ v := .ptr (key i) 0 }) := fun X => rfl
    rw [h0] at hst
    simp only [Option.some.injEq,Prod.mk.injEq] at hst
    exact hst.1.symm
   rw [hfold] at go
   have hlow' : lowOper P I ops ops[i] = some { dst := some d,op := .alloc z,guard := none } := by rw [hlow,← hli,hAo]
   have hdN : d < N := by
    have := List.all_eq_true.1 hd _ (List.getElem_mem hil)
    rw [← hli,hAo] at this
    simpa using this
   have hq : ∀ k,((Ξ.addP fun k => ∃ j,j < l.length ∧ late j = true ∧ (listed.setIfInBounds i true).getD j false = false ∧ k = key j).add (key i)).virt k → (Ξ.addP fun k => ∃ i,i < l.length ∧ late i = true ∧ listed.getD i false = false ∧ k = key i).virt k := by
    intro k hk
    rcases hk with (hk | ⟨j,h1,h2,h3,h4⟩) | rfl
    ·exact .inl hk
    ·refine .inr ⟨j,h1,h2,?_,h4⟩
     rw [hset,Bool.or_eq_false_iff] at h3
     exact h3.2
    ·exact .inr ⟨i,hil,hiA,hb,rfl⟩
   have hR2 := hR.virtG hq
   refine real_sound (Ξ := Ξ.addP fun k => ∃ j,j < l.length ∧ late j = true ∧ (listed.setIfInBounds i true).getD j false = false ∧ k = key j) hR2 ?_ hlow' hdN ?_ go
   ·rintro (hv | ⟨j,h1,h2,h3,h4⟩)
    ·exact hvk hv
    ·rw [hset,Bool.or_eq_false_iff] at h3
     exact hdis i j hil h1 hiA h2 (fun e => by subst e; simp at h3) h4
   ·rw [fold_leaves ops.size fun q hq hLq => ?_]
    ·exact hek
    ·have hqi : q ≠ i := by rintro rfl; rw [hb] at hLq; cases hLq
     have hqA : ¬ i ∈ an.getD q [] := fun h => by
      have := ancs_closed han hcl q _ (Array.getElem?_eq_getElem hq) (hcl q _ (Array.getElem?_eq_getElem hq) hLq) i h
      rw [hb] at this; cases this
     have := List.all_eq_true.1 (hleft i hil hiA) q (List.mem_range.2 (by rw [hrl,hlen,hN]; exact hq))
     simp only [Bool.or_eq_true,beq_iff_eq,hqi,false_or,List.contains_eq_mem,decide_eq_true_eq,hqA] at this
     have hqr : q < rs.length := by rw [hrl,hlen,hN]; exact hq
     rw [List.getElem?_eq_getElem hqr] at this
     simpa [List.getD_eq_getElem?_getD,hqr] using this
  ·rw [hget i hil,if_neg hiA,hli] at hst
   have hq : ∀ k,(Ξ.addP fun k => ∃ j,j < l.length ∧ late j = true ∧ (listed.setIfInBounds i true).getD j false = false ∧ k = key j).virt k → (Ξ.addP fun k => ∃ i,i < l.length ∧ late i = true ∧ listed.getD i false = false ∧ k = key i).virt k := by
    intro k hk
    rcases hk with hk | ⟨j,h3,h4,h5,h6⟩
    ·exact .inl hk
    ·refine .inr ⟨j,h3,h4,?_,h6⟩
     rw [hset,Bool.or_eq_false_iff] at h5
     exact h5.2
   refine step_sound hcall hio hR hlow (List.all_eq_true.1 hd _ (List.getElem_mem hil)) hst fun a' w' G' h1 h2 => ?_
   have h3 := h1.virtG hq
   exact go a' w' G' h3 h2
end
theorem lateSs_en {l : List LOper} {k : Key} : ∀ (As : List Nat) (st : St),(∀ A ∈ As,(l.getD A default).dst.getD 0 ≠ k.t) → (lateSs l As st).en k = st.en k
 | [],_,_ => rfl
 | A :: As,st,h => by
  rw [lateSs,lateSs_en As _ fun B hB => h B (List.mem_cons_of_mem _ hB)]
  have := h A List.mem_cons_self
  simp only [lateS,En.set,lateKey]
  rw [if_neg]
  rintro rfl
  exact this rfl
theorem lateKey_of {o : LOper} {st st' : St} (h : st'.cnt 0 (o.dst.getD 0) = st.cnt 0 (o.dst.getD 0)) : lateKey st' o = lateKey st o := by simp only [lateKey,h]
theorem Rel.reserves {P : Program} {B : Nat} {S : Nat → Nat → Prop} {G : Gh} {N : Nat} {a : Act} {w : World} {l : List LOper} : ∀ (As : List Nat) {Ξ : Env} {st : St},(∀ A ∈ As,∃ d z,l.getD A default = { dst := some d,op := .alloc z,guard := none }) →
  As.Pairwise (fun i j => (l.getD i default).dst.getD 0 ≠ (l.getD j default).dst.getD 0) → Rel P Ξ B S G st N a w →
  Rel P (Ξ.addP fun k => ∃ A ∈ As,k = lateKey st (l.getD A default)) B S G (lateSs l As st) N a w ∧ ∀ A ∈ As,(lateSs l As st).en (lateKey st (l.getD A default)) = some (.box (lateZ (l.getD A default).op) false)
 | [],Ξ,st,_,_,h => by
  have hq : ∀ k,(Ξ.addP fun k => ∃ A ∈ ([] : List Nat),k = lateKey st (l.getD A default)).virt k → Ξ.virt k := by
   intro k hk
   rcases hk with hk | ⟨A,hA,_⟩
   ·exact hk
   ·cases hA
  have h2 := h.virtG hq
  exact ⟨h2,fun A hA => by cases hA⟩
 | A :: As,Ξ,st,hz,hp,h => by
  obtain ⟨d,z,hAo⟩ := hz A List.mem_cons_self
  rw [List.pairwise_cons] at hp
  have hk : lateKey st (l.getD A default) = ⟨0,d,st.cnt 0 d⟩ := by rw [hAo]; rfl
  have hd : ∀ A' ∈ As,lateKey (lateS (lateKey st (l.getD A default)) (lateZ (l.getD A default).op) st) (l.getD A' default) = lateKey st (l.getD A' default) := fun A' hA' => by
   refine lateKey_of ?_
   have := hp.1 A' hA'
   simp only [lateS,setCnt,lateKey]
   rw [if_neg fun e => this e.2.symm]
  obtain ⟨h1,h2⟩ := Rel.reserves As (Ξ := Ξ.add (lateKey st (l.getD A default))) (st := lateS (lateKey st (l.getD A default)) (lateZ (l.getD A default).op) st) (fun A' hA' => hz A' (List.mem_cons_of_mem _ hA')) hp.2 (h.reserve (d := d) hk)
  rw [lateSs]
  have hq : ∀ k,(Ξ.addP fun k => ∃ B ∈ A :: As,k = lateKey st (l.getD B default)).virt k → ((Ξ.add (lateKey st (l.getD A default))).addP fun k => ∃ B ∈ As,k = lateKey (lateS (lateKey st (l.getD A default)) (lateZ (l.getD A default).op) st) (l.getD B default)).virt k := by
   intro k hk
   rcases hk with hk | ⟨A',hA',rfl⟩
   ·exact .inl (.inl hk)
   ·rcases List.mem_cons.1 hA' with rfl | hA'
    ·exact .inl (.inr rfl)
    ·exact .inr ⟨A',hA',(hd A' hA').symm⟩
  have h3 := h1.virtG hq
  refine ⟨h3,fun A' hA' => ?_⟩
  ·rcases List.mem_cons.1 hA' with rfl | hA'
   ·rw [lateSs_en As _ fun A'' hA'' => fun e => hp.1 A'' hA'' e.symm]
    simp [lateS,En.set]
   ·rw [← hd A' hA']; exact h2 A' hA'
end Go.Abs
namespace Go.Abs
open Go.RowKit (Below)
variable [Inhabited Glob]
theorem exec_fail {L : Prog} {n : Nat} {st : St} {x : Ex × St} (h : exec L n failC st = some x) : False := by
 cases n <;> simp [failC,exec,St.get] at h
theorem inl_ok {P : Program} {L : Prog} (hL : LowOk P L) {n : Nat} (hF : FnOk P L n) (ih : ExecOk P L n) : InlOk P (inlOf L (exec L n)) := ⟨inlN_fn hL hF,inl_yld ih⟩
theorem inl_fr {L : Prog} {ex : LCode → St → Option (Ex × St)} {f : Nat} {args : List Val} {st st' : St} {v : Val} (h : inlWith L ex f args st = some (v,st')) : st'.fr = st.fr := by
 simp only [inlWith] at h
 split at h
 ·cases h
 split at h
 case isFalse => cases h
 split at h
 ·obtain ⟨r,_,he⟩ := Option.map_eq_some_iff.1 h
  simp only [Prod.mk.injEq] at he
  rw [← he.2]
 split at h
 case h_2 => cases h
 split at h
 case isFalse => cases h
 obtain ⟨vs,_,he⟩ := Option.map_eq_some_iff.1 h
 simp only [Prod.mk.injEq] at he
 rw [← he.2]
theorem pin_fr {L : Prog} {ex : LCode → St → Option (Ex × St)} {f : Nat} {args : List Val} {st st' : St} {v : Val} (h : panIn L ex f args st = some (v,st')) : st'.fr = st.fr := by
 simp only [panIn] at h
 split at h
 ·cases h
 split at h
 case isFalse => cases h
 split at h
 case h_2 => cases h
 simp only [Option.some.injEq,Prod.mk.injEq] at h
 rw [← h.2]
theorem inlN_fr {L : Prog} {ex : LCode → St → Option (Ex × St)} {f : Nat} {args : List Val} {st st' : St} {v : Val} (h : inlN L ex f args st = some (v,st')) : st'.fr = st.fr := by
 simp only [inlN] at h
 split at h
 case h_2 => cases h
 rename_i hi
 split at h
 case h_2 => cases h
 split at h
 case h_2 => cases h
 simp only [Option.some.injEq,Prod.mk.injEq] at h
 have := inl_fr hi
 rw [← h.2]; exact this
theorem range_core {P : Program} {L : Prog} (hL : LowOk P L) {n : Nat} (hF : FnOk P L n) {I : Operand → Bool} {N : Nat} {ps : Array Tmp} {ca cb : Code} {st : St} {e : Ex} {st' : St} {Ξ : Env} {B : Nat} {S : Nat → Nat → Prop} {G : Gh} {a0 : Act} {w W0 : World}
  {Q : Exit → Act → World → Prop} {m : Nat} {f : Nat} {x y : List Val} {p q : Array Value} (hps : ps.toList.all (· < N) = true) (haN : (lower P I ca).dstOk N = true) (hbN : (lower P I cb).dstOk N = true) (hR : Rel P Ξ B S G st N a0 W0) (hB0 : Below B w W0)
  (hp : p.size = x.length) (hq : q.size = y.length) (hvp : ∀ i,i < x.length → VR (Stab B S G W0.heap.size) G W0 (x.getD i .dead) (p.getD i undef)) (hvq : ∀ i,i < y.length → VR (Stab B S G W0.heap.size) G W0 (y.getD i .dead) (q.getD i undef))
  (hcx : (∃ v st2,inlN L (exec L n) f (x ++ [.yld ⟨1,0,st.cnt 1 0⟩] ++ y) { fr := st.fr,en := st.en.set ⟨1,0,st.cnt 1 0⟩ (some (.loop st.fr ps.toList (lower P I ca) (lower P I cb) .ready)),cnt := setCnt st.cnt 1 0 (st.cnt 1 0 + 1) } = some (v,st2) ∧
   (match st2.en ⟨1,0,st.cnt 1 0⟩ with
   | some (.loop _ _ _ _ .ready) => some (.normal,{ st2 with en := st2.en.set ⟨1,0,st.cnt 1 0⟩ none })
   | some (.loop _ _ _ _ (.done e)) => some (e,{ st2 with en := st2.en.set ⟨1,0,st.cnt 1 0⟩ none })
   | _ => none : Option (Ex × St)) = some (e,st')) ∨
   ∃ v st2,panIn L (exec L n) f (x ++ [.yld ⟨1,0,st.cnt 1 0⟩] ++ y) { fr := st.fr,en := st.en.set ⟨1,0,st.cnt 1 0⟩ (some (.loop st.fr ps.toList (lower P I ca) (lower P I cb) .ready)),cnt := setCnt st.cnt 1 0 (st.cnt 1 0 + 1) } = some (v,st2) ∧
    e = .panic v ∧ st' = { st2 with en := st2.en.set ⟨1,0,st.cnt 1 0⟩ none }) (hQ : ∀ a' w' G' x,e.val x → RelE P Ξ B S G' st' N e a' w' → Below B w w' → Q (e.toExit x) a' w') (rec : Loop)
  (hrec : rec.state = .ready ∧ rec.pending = none ∧ rec.tmps = a0.tmps ∧ rec.params = ps ∧ rec.assign = ca ∧ rec.body = cb) (mm : Nat) :
  CallsIn (Fx Ξ.ro) mm P f (p ++ #[.func (.yield W0.heap.size) #[] #[]] ++ q) (W0.alloc (.loop rec)) (rangePost (Fx Ξ.ro) m P W0.heap.size Q a0) := by
 obtain ⟨rfl1,rfl2,rfl3,rfl4,rfl5,rfl6⟩ := hrec
 obtain ⟨k,hk⟩ : ∃ k : Key,k = ⟨1,0,st.cnt 1 0⟩ := ⟨_,rfl⟩
 have hf := hR.freshG ⟨1,0,st.cnt 1 0⟩ (Nat.le_refl _)
 have hg := Gh.le_addMp (b := W0.heap.size) hf.2.2
 have ho' : ∀ b,b ≠ W0.heap.size → (G.addMp ⟨1,0,st.cnt 1 0⟩ W0.heap.size).own b = G.own b := fun b hb => by simp [Gh.addMp,hb]
 have mm1 := mono_alloc (B := B) (S := S) (w := W0) (o := .loop rec) hg ho'
 have hnew : (W0.alloc (.loop rec)).heap[W0.heap.size]? = some (.loop rec) := heap_alloc_new _ _
 have hsz : N ≤ rec.tmps.size := by rw [rfl3]; exact hR.tmps
 have hfrm : ∀ i,VR (Stab B S (G.addMp ⟨1,0,st.cnt 1 0⟩ W0.heap.size) (W0.alloc (.loop rec)).heap.size) (G.addMp ⟨1,0,st.cnt 1 0⟩ W0.heap.size) (W0.alloc (.loop rec)) (st.fr i) (rec.tmps.getD i undef) := fun i => by rw [rfl3]; exact (hR.frame i).mono mm1
 have hmk : (G.addMp ⟨1,0,st.cnt 1 0⟩ W0.heap.size).mp ⟨1,0,st.cnt 1 0⟩ = some W0.heap.size := by simp [Gh.addMp]
 have how : (G.addMp ⟨1,0,st.cnt 1 0⟩ W0.heap.size).own W0.heap.size = some (⟨1,0,st.cnt 1 0⟩,0) := by simp [Gh.addMp]
 have hE : ER P B (Stab B S (G.addMp ⟨1,0,st.cnt 1 0⟩ W0.heap.size) (W0.alloc (.loop rec)).heap.size) (G.addMp ⟨1,0,st.cnt 1 0⟩ W0.heap.size) (W0.alloc (.loop rec)) ⟨1,0,st.cnt 1 0⟩ (.loop st.fr ps.toList (lower P I ca) (lower P I cb) .ready) :=
  ER.loop st.fr ps.toList (lower P I ca) (lower P I cb) .ready W0.heap.size rec I N hmk hR.size hnew (by rw [rfl4]) (by rw [rfl5]) (by rw [rfl6]) hsz hps haN hbN hfrm ⟨rfl1,rfl2⟩ how
 have hR1 := hR.allocN 1 0 (.loop rec) (.loop st.fr ps.toList (lower P I ca) (lower P I cb) .ready) (G.addMp ⟨1,0,st.cnt 1 0⟩ W0.heap.size) hg ho' (fun k' hk' => ⟨rfl,rfl,by simp [Gh.addMp,hk']⟩) (fun k' t h => by rw [how] at h; simp only [Option.some.injEq,Prod.mk.injEq] at h; exact h.1.symm) hE
 let Ξ2 : Env := { Ξ with prs := fun u z => Ξ.prs u z ∨ (u = .yld ⟨1,0,st.cnt 1 0⟩ ∧ z = .func (.yield W0.heap.size) #[] #[]) }
 have hyl : VR (Stab B S (G.addMp ⟨1,0,st.cnt 1 0⟩ W0.heap.size) (W0.alloc (.loop rec)).heap.size) (G.addMp ⟨1,0,st.cnt 1 0⟩ W0.heap.size) (W0.alloc (.loop rec)) (.yld ⟨1,0,st.cnt 1 0⟩) (.func (.yield W0.heap.size) #[] #[]) := .yld _ _ (by simp [Gh.addMp])
 have hR2 : Rel P Ξ2 B S (G.addMp ⟨1,0,st.cnt 1 0⟩ W0.heap.size) { fr := st.fr,en := st.en.set ⟨1,0,st.cnt 1 0⟩ (some (.loop st.fr ps.toList (lower P I ca) (lower P I cb) .ready)),cnt := setCnt st.cnt 1 0 (st.cnt 1 0 + 1) } N a0 (W0.alloc (.loop rec)) :=
  ⟨hR1.size,hR1.tmps,hR1.frame,hR1.marks,hR1.ents,hR1.freshEn,hR1.freshG,hR1.own,fun u z hu => hu.elim (fun hu => hu.elim (fun h => hR1.extra u z (.inl h)) fun h => by rw [h.1,h.2]; exact hyl) fun h => hR1.extra u z (.inr h),hR1.round,hR1.defs,hR1.virt⟩
 have hszv : (p ++ #[Value.func (.yield W0.heap.size) #[] #[]] ++ q).size = (x ++ [Val.yld ⟨1,0,st.cnt 1 0⟩] ++ y).length := by simp only [Array.size_append,List.length_append,hp,hq]; rfl
 have hvrs : ∀ i,i < (x ++ [Val.yld ⟨1,0,st.cnt 1 0⟩] ++ y).length → VR (Stab B S (G.addMp ⟨1,0,st.cnt 1 0⟩ W0.heap.size) (W0.alloc (.loop rec)).heap.size) (G.addMp ⟨1,0,st.cnt 1 0⟩ W0.heap.size) (W0.alloc (.loop rec))
   ((x ++ [Val.yld ⟨1,0,st.cnt 1 0⟩] ++ y).getD i .dead) ((p ++ #[Value.func (.yield W0.heap.size) #[] #[]] ++ q).getD i undef) := by
  intro i hi
  simp only [List.length_append,List.length_cons,List.length_nil] at hi
  simp only [List.getD_eq_getElem?_getD,Array.getD_eq_getD_getElem?,List.getElem?_append,Array.getElem?_append,List.length_append,Array.size_append,List.length_cons,List.length_nil,hp]
  rw [show (#[Value.func (.yield W0.heap.size) #[] #[]] : Array Value).size = 1 from rfl]
  split
  ·split
   ·rename_i h; have := (hvp i h).mono mm1; simpa [List.getD_eq_getElem?_getD,Array.getD_eq_getD_getElem?] using this
   ·have : i - x.length = 0 := by omega
    rw [this]; exact hyl
  ·have := (hvq (i - (x.length + (0 + 1))) (by omega)).mono mm1; simpa [List.getD_eq_getElem?_getD,Array.getD_eq_getD_getElem?] using this
 rcases hcx with ⟨v,st2,hcall,hx⟩ | ⟨v,st2,hcall,rfl,rfl⟩
 case inr =>
  obtain ⟨_,hcalls⟩ := pin_fn hL hF _ _ _ _ _ hcall
  have hc := hcalls Ξ2 B S _ _ N a0 _ _ hR2 rfl rfl hszv hvrs
  refine callsIn_any (ro := Ξ.ro) (m := mm) (Calls.mono hc ?_)
  rintro e1 w3 ⟨z,G3,rfl,hzv,hR3,hb3⟩
  have hb : Below B w w3 := (hB0.trans ((Below.refl B W0).alloc hR.size _)).trans hb3
  have hw' := hR3.drop ⟨1,0,st.cnt 1 0⟩
  have hfr := pin_fr hcall
  refine hQ a0 w3 G3 z hzv ?_ hb
  have hst : ({ st2 with en := st2.en.set ⟨1,0,st.cnt 1 0⟩ none } : St) = { fr := st.fr,en := st2.en.set ⟨1,0,st.cnt 1 0⟩ none,cnt := st2.cnt } := by rw [← hfr]
  rw [hst]
  refine Rel.e (Ξ := Ξ) ⟨hw'.size,hw'.tmps,hw'.frame,hw'.marks,hw'.ents,hw'.freshEn,hw'.freshG,hw'.own,fun u z hu => hw'.extra u z (hu.imp_left .inl),hw'.round,hw'.defs,hw'.virt⟩
 obtain ⟨_,hcalls⟩ := inlN_fn hL hF _ _ _ _ _ hcall
 have hc := hcalls Ξ2 B S _ _ N a0 _ _ hR2 rfl rfl hszv hvrs
 refine callsIn_any (ro := Ξ.ro) (m := mm) (Calls.mono hc ?_)
 ·rintro e1 w3 ⟨z,G3,rfl,hR3,_,hb3⟩
  have hb : Below B w w3 := (hB0.trans ((Below.refl B W0).alloc hR.size _)).trans hb3
  have hy3 := hR3.extra (.yld ⟨1,0,st.cnt 1 0⟩) (.func (.yield W0.heap.size) #[] #[]) (.inl (.inr ⟨rfl,rfl⟩))
  have hfr := inlN_fr hcall
  have done : ∀ {fr3 : Nat → Val} {ps3 : List Nat} {la3 lb3 : LCode} {q3 : LSt},st2.en ⟨1,0,st.cnt 1 0⟩ = some (.loop fr3 ps3 la3 lb3 q3) → q3 ≠ .busy → ∃ rec3,w3.heap[W0.heap.size]? = some (.loop rec3) ∧ LStR q3 rec3 ∧ (rec3.state ≠ .busy →
    Rel P Ξ B S G3 { fr := st.fr,en := st2.en.set ⟨1,0,st.cnt 1 0⟩ none,cnt := st2.cnt } N a0 (w3.putObj W0.heap.size (.loop { rec3 with state := .exhausted })) ∧ Below B w (w3.putObj W0.heap.size (.loop { rec3 with state := .exhausted }))) := by
   intro fr3 ps3 la3 lb3 q3 he3 _
   cases hy3 with
   | yld _ _ hmp3 =>
   have hE := hR3.ents _ _ he3 (Gh.knows_mp hmp3)
   cases hE with
   | loop _ _ _ _ _ l3 rec3 I3 N3 hl3 hB3 hh3 hps3 ha3 hb3' hN3 hpN3 haN3 hbN3 hf3 hst3 hown3 =>
   rw [hmp3] at hl3; simp only [Option.some.injEq] at hl3; subst hl3
   refine ⟨rec3,hh3,hst3,fun _ => ?_⟩
   have hw := (hR3.write (e' := .loop fr3 ps3 la3 lb3 .over) (o' := .loop { rec3 with state := .exhausted }) hown3 hh3 (fun _ _ => .inl (by simp)) (fun _ => by simp) (fun r _ => ⟨_,rfl⟩) (fun off h => by omega)
    (fun m => .loop fr3 ps3 la3 lb3 .over _ _ I3 N3 hmp3 hB3 (wput_same _ (heap_lt hh3)) hps3 ha3 hb3' hN3 hpN3 haN3 hbN3 (fun i => (hf3 i).mono m) rfl hown3)).drop ⟨1,0,st.cnt 1 0⟩
   rw [putObj_wput]
   refine ⟨?_,hb.trans (below_put hB3)⟩
   have hen : (st2.en.set ⟨1,0,st.cnt 1 0⟩ (some (.loop fr3 ps3 la3 lb3 .over))).set ⟨1,0,st.cnt 1 0⟩ none = st2.en.set ⟨1,0,st.cnt 1 0⟩ none := by
    funext k'; simp only [En.set]; split <;> rfl
   have hw' : Rel P Ξ2 B S G3 { fr := st.fr,en := st2.en.set ⟨1,0,st.cnt 1 0⟩ none,cnt := st2.cnt } N a0 (wput w3 W0.heap.size (.loop { rec3 with state := .exhausted })) := by
    rw [← hen]; exact hw
   exact ⟨hw'.size,hw'.tmps,hw'.frame,hw'.marks,hw'.ents,hw'.freshEn,hw'.freshG,hw'.own,fun u z hu => hw'.extra u z (hu.imp_left .inl),hw'.round,hw'.defs,hw'.virt⟩
  have hst : ({ fr := st2.fr,en := st2.en.set ⟨1,0,st.cnt 1 0⟩ none,cnt := st2.cnt } : St) = { fr := st.fr,en := st2.en.set ⟨1,0,st.cnt 1 0⟩ none,cnt := st2.cnt } := by rw [hfr]
  split at hx
  ·rename_i he3
   obtain ⟨rec3,hh3,hq3,hfin⟩ := done he3 (by simp)
   obtain ⟨r1,r2⟩ := hfin (by rw [hq3.1]; simp)
   simp only [Option.some.injEq,Prod.mk.injEq] at hx
   obtain ⟨rfl,rfl⟩ := hx
   refine ⟨_,_,run_endLoop hh3 (by rw [hq3.1]; simp),?_⟩
   have hq := hQ a0 _ G3 undef trivial (by rw [hst]; exact r1.e) r2
   split
   ·exact hq
   ·rename_i c hc; rw [hq3.2] at hc; cases hc
  ·rename_i e3 he3
   obtain ⟨rec3,hh3,hq3,hfin⟩ := done he3 (by simp)
   obtain ⟨r1,r2⟩ := hfin (by rw [hq3.1]; simp)
   simp only [Option.some.injEq,Prod.mk.injEq] at hx
   obtain ⟨rfl,rfl⟩ := hx
   refine ⟨_,_,run_endLoop hh3 (by rw [hq3.1]; simp),?_⟩
   have hq := hQ a0 _ G3 undef (by cases e3 <;> first | trivial | (have := hq3.2.2.2; cases this)) (by rw [hst]; exact r1.e) r2
   split
   ·rename_i hc; rw [hq3.2.1] at hc; cases hc
   rename_i c hc
   rw [hq3.2.1,Option.some.injEq] at hc
   subst hc
   cases e3 with
   | normal => exact absurd rfl hq3.2.2.1
   | panic v => have := hq3.2.2.2; cases this
   | exit id => exact wpIn_exit hq
   | ret => exact wpIn_ret hq
  ·cases hx
theorem exec_range {P : Program} {L : Prog} (hL : LowOk P L) {n : Nat} (hF : FnOk P L n) {I : Operand → Bool} {N : Nat} {g : Operand} {g' : Opd} {ps : Array Tmp} {ca cb : Code} {st : St} {e : Ex} {st' : St} {Ξ : Env} {B : Nat} {S : Nat → Nat → Prop} {G : Gh} {a : Act} {w : World}
  {Q : Exit → Act → World → Prop} {m : Nat} (hg : lowOpd g = some g') (hps : ps.toList.all (· < N) = true) (haN : (lower P I ca).dstOk N = true) (hbN : (lower P I cb).dstOk N = true) (hnm : Ξ.nm = false) (hR : Rel P Ξ B S G st N a w)
  (hx : rangeWith L (exec L n) (St.get st.fr g') ps.toList (lower P I ca) (lower P I cb) st = some (e,st')) (hQ : ∀ a' w' G' x,e.val x → RelE P Ξ B S G' st' N e a' w' → Below B w w' → Q (e.toExit x) a' w') :
  (Code.rangeFunc g ps ca cb).wpIn (Fx Ξ.ro) m P Q a w := by
 unfold rangeWith at hx
 split at hx
 case h_2 => cases hx
 rename_i f x y hgv
 have hG := opd_sound hR hg
 rw [hgv] at hG
 generalize hgF : a.eval g = uF at hG
 cases hG with
 | fn _ _ _ p q hp hq hvp hvq =>
 simp only at hx
 obtain ⟨⟨fn,hfn,hnm1,hbody⟩,hcx⟩ : (∃ fn,P.funcs[f]? = some fn ∧ (fn.name == "runtime.NumGoroutine") = false ∧ fn.body.isNone = false) ∧ ((∃ v st2,inlN L (exec L n) f (x ++ [.yld ⟨1,0,st.cnt 1 0⟩] ++ y) { fr := st.fr,en := st.en.set ⟨1,0,st.cnt 1 0⟩ (some (.loop st.fr ps.toList (lower P I ca) (lower P I cb) .ready)),cnt := setCnt st.cnt 1 0 (st.cnt 1 0 + 1) } = some (v,st2) ∧
   (match st2.en ⟨1,0,st.cnt 1 0⟩ with
   | some (.loop _ _ _ _ .ready) => some (.normal,{ st2 with en := st2.en.set ⟨1,0,st.cnt 1 0⟩ none })
   | some (.loop _ _ _ _ (.done e)) => some (e,{ st2 with en := st2.en.set ⟨1,0,st.cnt 1 0⟩ none })
   | _ => none : Option (Ex × St)) = some (e,st')) ∨
   ∃ v st2,panIn L (exec L n) f (x ++ [.yld ⟨1,0,st.cnt 1 0⟩] ++ y) { fr := st.fr,en := st.en.set ⟨1,0,st.cnt 1 0⟩ (some (.loop st.fr ps.toList (lower P I ca) (lower P I cb) .ready)),cnt := setCnt st.cnt 1 0 (st.cnt 1 0 + 1) } = some (v,st2) ∧
    e = .panic v ∧ st' = { st2 with en := st2.en.set ⟨1,0,st.cnt 1 0⟩ none }) := by
  split at hx
  ·rename_i v st2 hcall
   exact ⟨(inlN_fn hL hF _ _ _ _ _ hcall).1,.inl ⟨v,st2,hcall,hx⟩⟩
  ·split at hx
   case h_2 => cases hx
   rename_i v st2 hcall
   simp only [Option.some.injEq,Prod.mk.injEq] at hx
   exact ⟨(pin_fn hL hF _ _ _ _ _ hcall).1,.inr ⟨v,st2,hcall,hx.1.symm,hx.2.symm⟩⟩
 have hnm' : ¬ fn.name = "runtime.NumGoroutine" := by simpa using hnm1
 have hbody' : ¬ fn.body = none := by intro h; rw [h] at hbody; cases hbody
 have call : ∀ (l : Nat) (W : World),(resolve a.eval (rangeCall g l) 0).run P W = .ok { target := .fn (.func f) q,args := p ++ #[.func (.yield l) #[] #[]] } W ∧
   (invoke (.fn (.func f) q) (p ++ #[.func (.yield l) #[] #[]])).run P W = .ok (.enter f (p ++ #[.func (.yield l) #[] #[]] ++ q)) W := by
  intro l W
  constructor
  ·have hc : a.eval (.const (.func (.yield l) #[] #[])) = .func (.yield l) #[] #[] := rfl
   simp [resolve,rangeCall,hgF,Deferred.ofValue,hc]
  ·simp [invoke,callFunc,hfn,hnm',hbody']
 refine wpIn_rangeFunc fun fnid _ => ?_
 have below_vr : ∀ {W : World},Below w.heap.size w W → (∀ i,i < x.length → VR (Stab B S G W.heap.size) G W (x.getD i .dead) (p.getD i undef)) ∧ ∀ i,i < y.length → VR (Stab B S G W.heap.size) G W (y.getD i .dead) (q.getD i undef) :=
  fun hb => ⟨fun i hi => (hvp i hi).mono (mono_below hb),fun i hi => (hvq i hi).mono (mono_below hb)⟩
 cases hro : Ξ.ro with
 | none =>
  have hb0 : Below w.heap.size w (w.alloc (.deferred (some []))) := (Below.refl _ w).alloc (Nat.le_refl _) _
  have hR0 := hR.below hb0
  obtain ⟨Ds,d1,d2,d3⟩ := hR0.marks
  have hnew : (w.alloc (.deferred (some []))).heap[w.heap.size]? = some (.deferred (some [])) := heap_alloc_new _ _
  have hold : ∀ D ∈ Ds,D < w.heap.size := fun D hD => by
   obtain ⟨Ds',d1',d2',d3'⟩ := hR.marks
   have : Ds.map mark = Ds'.map mark := List.append_cancel_right (by rw [← d1,← d1'])
   have hm : mark D ∈ Ds'.map mark := by rw [← this]; exact List.mem_map.2 ⟨D,hD,rfl⟩
   obtain ⟨D',h1,h2⟩ := List.mem_map.1 hm
   have : D' = D := by simpa [mark] using h2
   subst this
   exact heap_lt (d3' _ h1).2.2
  have hR1 : Rel P Ξ B S G st N { a with defers := [mark w.heap.size] ++ a.defers } (w.alloc (.deferred (some []))) :=
   ⟨hR0.size,hR0.tmps,hR0.frame,⟨w.heap.size :: Ds,by simp [d1],⟨by rw [List.nodup_cons]; exact ⟨fun h => by have := hold _ h; omega,d2.1⟩,fun h => by rw [hnm] at h; cases h⟩,fun D hD => by
     rcases List.mem_cons.1 hD with rfl | hD
     ·exact ⟨hR.size,fun h => by have := heap_lt (hR.defs _ h); omega,hnew⟩
     ·exact d3 D hD⟩,hR0.ents,hR0.freshEn,hR0.freshG,hR0.own,hR0.extra,hR0.round,hR0.defs,hR0.virt⟩
  obtain ⟨v1,v2⟩ := below_vr hb0
  refine ⟨_,_,_,_,_,f,_,_,by rw [show (Fx none).round = none from rfl]; exact run_enterLoop_outer fnid a.tmps ps ca cb,(call _ _).1,fun _ _ => trivial,(call _ _).2,fun h => by simp [Fx,Fence.wide] at h,?_⟩
  have := range_core hL hF (Q := Q) (m := m) hps haN hbN hR1 (Below.mono hb0 hR.size) hp hq v1 v2 hcx hQ { state := .ready,pending := none,fn := fnid,tmps := a.tmps,params := ps,assign := ca,body := cb,defers := w.heap.size } ⟨rfl,rfl,rfl,rfl,rfl,rfl⟩ (m - 1)
  rw [hro,size_alloc] at this
  exact this
 | some l0 =>
  obtain ⟨r0,hr0⟩ := hR.round l0 (.inl hro)
  refine ⟨_,_,_,_,_,f,_,_,by rw [show (Fx (some l0)).round = some l0 from rfl]; exact run_enterLoop_inner hr0 fnid a.tmps ps ca cb,(call _ _).1,fun _ _ => trivial,(call _ _).2,fun h => by simp [Fx,Fence.wide] at h,?_⟩
  have := range_core hL hF (Q := Q) (m := m) hps haN hbN hR (Below.refl _ _) hp hq hvp hvq hcx hQ { state := .ready,pending := none,fn := fnid,tmps := a.tmps,params := ps,assign := ca,body := cb,defers := r0.defers } ⟨rfl,rfl,rfl,rfl,rfl,rfl⟩ (m - 1)
  rw [hro] at this
  exact this
section
variable {P : Program} {b : Frame} {a : Act} {k : List Item} {cs : List Frame} {w : World} {Q : Exit → Act → World → Prop} {F : Fence} {n : Nat}
theorem stepR_scope' {c : Code} : Go.step P (lone (b.atR a (.code (.scope c) :: k)) cs w) = .next (lone (b.atR a (.code c :: .inScope c :: k)) cs w) :=
 step_lone_go (by simp [stepG,stepG.exec,Frame.atR])
theorem stepR_inScope' {c : Code} : Go.step P (lone (b.atR a (.inScope c :: k)) cs w) = .next (lone (b.atR a k) cs w) :=
 step_lone_go (by simp [stepG,stepG.exec,Frame.atR])
theorem wpIn_scope' {c : Code} (h : c.wpIn F n P (Exit.noGoto Q) a w) : (Code.scope c).wpIn F n P Q a w := by
 intro b k cs hro hb hr
 have h0 : (lone (b.atR a (.code (.scope c) :: k)) cs w).fenced P F := fenced_calm hb hr rfl
 obtain ⟨e,a₁,w₁,hq,harr⟩ := h b (.inScope c :: k) cs hro hb hr
 cases e with
 | normal => exact ⟨.normal,a₁,w₁,hq,.head h0 stepR_scope' (StepsIn.trans harr (.one (fenced_calm hb hr rfl) stepR_inScope'))⟩
 | exit id' =>
  have hx : exitTo id' (.inScope c :: k) = exitTo id' k := by simp [exitTo]
  exact ⟨.exit id',a₁,w₁,hq,fun k' hk => .head h0 stepR_scope' (harr.1 k' (by rw [hx]; exact hk)),
   fun hr' hk => let ⟨k₁,h1,h2⟩ := harr.2 hr' (by rw [hx]; exact hk); ⟨k₁,h1,.head h0 stepR_scope' h2⟩⟩
 | goto l => exact hq.elim
 | ret => exact ⟨_,a₁,w₁,hq,.of_steps (.one h0 stepR_scope') harr⟩
 | panic ch => exact ⟨_,a₁,w₁,hq,.of_steps (.one h0 stepR_scope') harr⟩
 | outgrown => exact ⟨_,a₁,w₁,hq,.of_steps (.one h0 stepR_scope') harr⟩
end
theorem exec_step {P : Program} (hm : P.follows .mixedOrders = true) {L : Prog} (hL : LowOk P L) {n : Nat} (hc : CallOk P (callWith L 8 (exec L n))) (hF : FnOk P L n) (ihs : ∀ m,m ≤ n → ExecOk P L m) : ExecOk P L (n + 1) := by
 have ih := ihs n (Nat.le_refl _)
 have hio := inl_ok hL hF ih
 intro I N c
 induction c <;> intro st e st' Ξ B S G a w Q m hd hnr hR hx hQ
 case skip =>
  simp only [lower,exec,Option.some.injEq,Prod.mk.injEq] at hx
  obtain ⟨rfl,rfl⟩ := hx
  exact wpIn_skip (hQ a w G undef trivial hR.e (Below.refl _ _))
 case label l =>
  simp only [lower,exec,Option.some.injEq,Prod.mk.injEq] at hx
  obtain ⟨rfl,rfl⟩ := hx
  exact wpIn_label (hQ a w G undef trivial hR.e (Below.refl _ _))
 case region id ops dr =>
  cases dr with
  | false =>
   simp only [lower,Bool.false_eq_true,if_false] at hd hx
   cases hlow : mapO (lowOper P I ops) ops.toList with
   | none => rw [hlow] at hx; exact (exec_fail hx).elim
   | some l =>
    rw [hlow] at hx hd
    simp only [Option.map_some,Option.getD_some] at hx hd
    cases hX : l.any (panicky I) with
    | true =>
     simp only [hX,if_true] at hx hd
     rw [exec] at hx
     refine wpIn_region ?_
     rw [List.range_eq_range']
     exact opsP_sound hc hio (pan_fn hL hF) (pin_fn hL hF) hlow hd ops.size 0 st st' e G a w (by omega) hR (by simpa using hx) hQ
    | false =>
    simp only [hX,Bool.false_eq_true,if_false] at hx hd
    rw [exec] at hx
    obtain ⟨s1,hrun,he⟩ := Option.map_eq_some_iff.1 hx
    simp only [Prod.mk.injEq] at he
    obtain ⟨rfl,rfl⟩ := he
    refine wpIn_region ?_
    rw [List.range_eq_range']
    exact ops_sound hc hio hlow hd ops.size 0 st s1 G a w (by omega) hR (by simpa using hrun) fun a' w' G' h1 h2 => hQ a' w' G' undef trivial h1.e h2
  | true =>
   simp only [lower,if_true] at hd hx
   cases hld : lowDraw P I ops with
   | none => rw [hld] at hx; exact (exec_fail hx).elim
   | some c' =>
    rw [hld] at hx hd
    simp only [lowDraw,Option.bind_eq_bind,Option.bind_eq_some_iff,Option.pure_def,Option.some.injEq] at hld
    obtain ⟨l,hlow,an,han,ps,hps,rfl⟩ := hld
    have hb : Below w.heap.size w { w with drawn := w.drawn + 1 } := (Below.refl _ w).drew
    have hd' : l.all (fun o => o.dst.all (· < N)) = true := by
     cases hX : l.any (panicky I) with
     | false =>
      simp only [hX,Bool.false_eq_true,if_false,Option.getD_some] at hd
      split at hd <;> exact hd
     | true =>
      cases hlt : lateOf an l <;> simpa [hX,hlt,LCode.dstOk] using hd
    have drawOk : ∀ s1 rs,runRec 8 (callWith L 8 (exec L n)) (inlOf L (exec L n)) 0 l st = some (s1,rs) → pairsOk rs ps = true → e = .normal → st' = s1 → (Code.region id ops true).wpIn (Fx Ξ.ro) m P Q a w := by
     rintro s1 rs hrun hok rfl rfl
     refine wpIn_region_any hm (any_sound (Ξ := Ξ) (B := B) (S := S) hc hio hlow hd' han hps hrun hok ops.size (Array.replicate ops.size false) G a _ (by simp) ?_ ?_ ?_ ?_)
     ·refine Nat.le_trans List.countP_le_length (by simp)
     ·intro j o ho hL
      simp [Array.getElem?_replicate] at hL
      split at hL <;> simp at hL
     ·rw [foldE_congr (L' := fun _ => false) fun i _ => by simp [Array.getElem?_replicate]; split <;> simp]
      have : ∀ (k : Nat),foldE (fun k => effO (l.getD k default) (rs.getD k noRes)) (fun _ => false) st k = st := by
       intro k; induction k with
       | zero => rfl
       | succ k ih => simp only [foldE,Bool.false_eq_true,if_false]; exact ih
      rw [this]; exact hR.below hb
     ·exact fun a' w' G' h1 h2 => hQ a' w' G' undef trivial h1.e ⟨h2.os,h2.tape,h2.output,h2.size,h2.block⟩
    cases hX : l.any (panicky I) with
    | true =>
     simp only [hX,if_true,Option.getD_some] at hx
     cases hlt : lateOf an l with
     | some A =>
      simp only [hlt] at hx
      rw [exec] at hx
      have hlate := List.find?_some hlt
      have hA : A < l.length := List.mem_range.1 (List.mem_of_find?_eq_some hlt)
      simp only [lateAt,Bool.and_eq_true,List.isEmpty_iff,Option.isNone_iff_eq_none,Option.isSome_iff_exists] at hlate
      obtain ⟨⟨⟨⟨_,hg⟩,hop⟩,d,hdst⟩,_⟩ := hlate
      obtain ⟨z,hAo⟩ : ∃ z,l.getD A default = { dst := some d,op := .alloc z,guard := none } := by
       generalize l.getD A default = o at hg hop hdst
       obtain ⟨od,oo,og⟩ := o
       simp only at hg hop hdst
       subst hg hdst
       cases oo <;> first | exact ⟨_,rfl⟩ | cases hop
      have hkey : lateKey st (l.getD A default) = ⟨0,d,st.cnt 0 d⟩ := by rw [hAo]; rfl
      have hz : lateZ (l.getD A default).op = z := by rw [hAo]; rfl
      rw [hkey,hz] at hx
      have hvk : ¬ Ξ.virt ⟨0,d,st.cnt 0 d⟩ := fun hv => by have := (hR.virt _ hv).2; simp at this
      have hR' := (hR.below hb).reserve (k := ⟨0,d,st.cnt 0 d⟩) (z := z) rfl
      have hek : (lateS ⟨0,d,st.cnt 0 d⟩ z st).en ⟨0,d,st.cnt 0 d⟩ = some (.box z false) := by simp [lateS,En.set]
      unfold drawLate at hx
      split at hx
      ·rename_i j hj
       split at hx
       case h_2 => cases hx
       rename_i s1 rs hrun
       split at hx
       case isFalse => cases hx
       rename_i hck
       rw [Bool.and_eq_true] at hck
       split at hx
       case h_2 => cases hx
       rename_i v s2 hpj
       simp only [Option.some.injEq,Prod.mk.injEq] at hx
       obtain ⟨rfl,rfl⟩ := hx
       have hjl : j < l.length := by have := first_lt _ hj; rw [late_len] at this; omega
       have hjA : j ≠ A := by
        rintro rfl
        rw [late_get hA,if_pos rfl] at hpj
        simp [panStep,lateO,wanted] at hpj
       exact wpIn_region_any hm (anyP_late (Ξ := Ξ) (B := B) (S := S) hc hio (pan_fn hL hF) (pin_fn hL hF) hlow hd' han hps hA hAo hvk rfl hjl hjA hrun hck.1 hck.2 hek hpj hR'
        fun a' w' G' x h1 h2 h3 => hQ a' w' G' x h1 h2 ⟨h3.os,h3.tape,h3.output,h3.size,h3.block⟩)
      ·split at hx
       case h_2 => cases hx
       rename_i s1 rs hrun
       split at hx
       case isFalse => cases hx
       rename_i hck
       rw [Bool.and_eq_true] at hck
       simp only [Option.some.injEq,Prod.mk.injEq] at hx
       obtain ⟨rfl,rfl⟩ := hx
       refine wpIn_region_any hm (any_late (Ξ := Ξ) (B := B) (S := S) hc hio hlow hd' han hps hA hAo hvk hrun hck.1 hck.2 hek ops.size (Array.replicate ops.size false) G a _ (by simp) ?_ ?_ ?_ ?_)
       ·refine Nat.le_trans List.countP_le_length (by simp)
       ·intro j o ho hL
        simp [Array.getElem?_replicate] at hL
        split at hL <;> simp at hL
       ·rw [foldE_congr (L' := fun _ => false) fun i _ => by simp [Array.getElem?_replicate]; split <;> simp]
        have : ∀ (k : Nat),foldE (fun k => effO ((lateL A ⟨0,d,st.cnt 0 d⟩ l).getD k default) (rs.getD k noRes)) (fun _ => false) (lateS ⟨0,d,st.cnt 0 d⟩ z st) k = lateS ⟨0,d,st.cnt 0 d⟩ z st := by
         intro k; induction k with
         | zero => rfl
         | succ k ih => simp only [foldE,Bool.false_eq_true,if_false]; exact ih
        have hf : ¬ (Array.replicate ops.size false).getD A false = true := by
         rw [Array.getD_eq_getD_getElem?,Array.getElem?_replicate]
         split <;> simp
        rw [this,if_neg hf]; exact hR'
       ·exact fun a' w' G' h1 h2 => hQ a' w' G' undef trivial h1.e ⟨h2.os,h2.tape,h2.output,h2.size,h2.block⟩
     | none =>
     simp only [hlt] at hx
     rw [exec] at hx
     split at hx
     ·rename_i j hj
      exact wpIn_region_any hm (anyP_sound (Ξ := Ξ) (B := B) (S := S) hc hio (pan_fn hL hF) (pin_fn hL hF) hlow hd' han hps (by have := first_lt _ hj; omega) hx (hR.below hb)
       fun a' w' G' x h1 h2 h3 => hQ a' w' G' x h1 h2 ⟨h3.os,h3.tape,h3.output,h3.size,h3.block⟩)
     ·split at hx
      case h_2 => cases hx
      rename_i s1 rs hrun
      split at hx
      case isFalse => cases hx
      rename_i hok
      simp only [Option.some.injEq,Prod.mk.injEq] at hx
      exact drawOk s1 rs hrun hok hx.1.symm hx.2.symm
    | false =>
     simp only [hX,Bool.false_eq_true,if_false,Option.getD_some] at hx
     split at hx
     ·rw [exec] at hx
      have hall : ∀ A ∈ lates an l,A < l.length ∧ ∃ d z,l.getD A default = { dst := some d,op := .alloc z,guard := none } := by
       intro A hm
       obtain ⟨hA,hlate⟩ := List.mem_filter.1 hm
       simp only [lateAt,Bool.and_eq_true,List.isEmpty_iff,Option.isNone_iff_eq_none,Option.isSome_iff_exists] at hlate
       obtain ⟨⟨⟨⟨_,hg⟩,hop⟩,d,hdst⟩,_⟩ := hlate
       refine ⟨List.mem_range.1 hA,d,?_⟩
       generalize l.getD A default = o at hg hop hdst
       obtain ⟨od,oo,og⟩ := o
       simp only at hg hop hdst
       subst hg hdst
       cases oo <;> first | exact ⟨_,rfl⟩ | cases hop
      have hdst : ∀ i j,i < l.length → j < l.length → i ≠ j → i ∈ lates an l → j ∈ lates an l → (l.getD i default).dst.getD 0 ≠ (l.getD j default).dst.getD 0 := by
       intro i j hi hj hij hmi hmj
       simp only [drawPairs] at hps
       split at hps
       case isFalse => cases hps
       rename_i hc
       have := List.all_eq_true.1 (List.all_eq_true.1 hc i (List.mem_range.2 hi)) j (List.mem_range.2 hj)
       obtain ⟨_,d,z,e1⟩ := hall i hmi
       obtain ⟨_,d',z',e2⟩ := hall j hmj
       simp only [e1,e2,Bool.or_eq_true,beq_iff_eq,Bool.and_eq_true,bne_iff_ne,ne_eq,Option.some.injEq] at this ⊢
       rcases this with h | h
       ·exact absurd h.symm hij
       ·simpa using h.1
      have hpw : (lates an l).Pairwise (fun i j => (l.getD i default).dst.getD 0 ≠ (l.getD j default).dst.getD 0) := by
       have hn : (lates an l).Nodup := List.Nodup.sublist List.filter_sublist List.nodup_range
       exact List.Pairwise.imp_of_mem (fun {i j} hi hj hne => hdst i j (hall i hi).1 (hall j hj).1 hne hi hj) hn
      obtain ⟨hR',hen⟩ := Rel.reserves (lates an l) (l := l) (fun A hm => (hall A hm).2) hpw (hR.below hb)
      unfold drawLates at hx
      split at hx
      case h_2 => cases hx
      rename_i s1 rs hrun
      split at hx
      case isFalse => cases hx
      rename_i hck
      rw [Bool.and_eq_true,List.all_eq_true] at hck
      simp only [Option.some.injEq,Prod.mk.injEq] at hx
      obtain ⟨rfl,rfl⟩ := hx
      refine wpIn_region_any hm (any_lates (Ξ := Ξ) (B := B) (S := S) hc hio hlow hd' han hps (late := fun i => (lates an l).contains i) (key := fun i => lateKey st (l.getD i default)) (l' := lateLs l st (lates an l)) (by simp [lateLs]) (fun i hi => ?_) (fun i hi hli => ?_) (fun i j hi hj hli hlj hij hk => ?_) hrun hck.1 (fun i hi hli => hck.2 i (by simpa using hli)) ops.size (Array.replicate ops.size false) G a _ (by simp) ?_ ?_ ?_ ?_)
      ·simp [lateLs,List.getD_eq_getElem?_getD,hi]
      ·have hm' : i ∈ lates an l := by simpa using hli
       obtain ⟨_,d,z,e1⟩ := hall i hm'
       refine ⟨d,z,e1,?_,fun hv => ?_⟩
       ·have := hen i hm'
        rw [e1] at this ⊢
        exact this
       ·have := (hR.virt _ hv).2
        simp only [lateKey] at this
        omega
      ·have := hdst i j hi hj hij (by simpa using hli) (by simpa using hlj)
       simp only [lateKey,Key.mk.injEq] at hk
       exact this hk.2.1
      ·refine Nat.le_trans List.countP_le_length (by simp)
      ·intro j o ho hL
       simp [Array.getElem?_replicate] at hL
       split at hL <;> simp at hL
      ·rw [foldE_congr (L' := fun _ => false) fun i _ => by simp [Array.getElem?_replicate]; split <;> simp]
       have : ∀ (k : Nat),foldE (fun k => effO ((lateLs l st (lates an l)).getD k default) (rs.getD k noRes)) (fun _ => false) (lateSs l (lates an l) st) k = lateSs l (lates an l) st := by
        intro k; induction k with
        | zero => rfl
        | succ k ih => simp only [foldE,Bool.false_eq_true,if_false]; exact ih
       rw [this]
       have hq : ∀ k,(Ξ.addP fun k => ∃ i,i < l.length ∧ (lates an l).contains i = true ∧ (Array.replicate ops.size false).getD i false = false ∧ k = lateKey st (l.getD i default)).virt k → (Ξ.addP fun k => ∃ A ∈ lates an l,k = lateKey st (l.getD A default)).virt k := by
        intro k hk
        rcases hk with hk | ⟨i,_,h2,_,h4⟩
        ·exact .inl hk
        ·exact .inr ⟨i,by simpa using h2,h4⟩
       have h3 := hR'.virtG hq
       exact h3
      ·exact fun a' w' G' h1 h2 => hQ a' w' G' undef trivial h1.e ⟨h2.os,h2.tape,h2.output,h2.size,h2.block⟩
     rw [exec] at hx
     split at hx
     case h_2 => cases hx
     rename_i s1 rs hrun
     split at hx
     case isFalse => cases hx
     rename_i hok
     simp only [Option.some.injEq,Prod.mk.injEq] at hx
     exact drawOk s1 rs hrun hok hx.1.symm hx.2.symm
 case seq x y _ _ =>
  simp only [lower,LCode.dstOk,Bool.and_eq_true] at hd
  simp only [lower,exec] at hx
  refine wpIn_seq ?_
  cases h1 : exec L n (lower P I x) st with
  | none => rw [h1] at hx; cases hx
  | some p =>
   obtain ⟨e1,s1⟩ := p
   rw [h1] at hx
   have hnr1 : Ξ.nm = true → (lower P I x).noRg = true ∧ (lower P I y).noRg = true := fun h => by simpa [lower,LCode.noRg] using hnr h
   refine ih I N x st e1 s1 Ξ B S G a w _ m hd.1 (fun h => (hnr1 h).1) hR h1 fun a1 w1 G1 x1 hx1 hR1 hb1 => ?_
   cases e1 with
   | panic v => simp only [Option.some.injEq,Prod.mk.injEq] at hx; obtain ⟨rfl,rfl⟩ := hx; exact hQ a1 w1 G1 x1 hx1 hR1 hb1
   | normal => exact ih I N y s1 e st' Ξ B S G1 a1 w1 _ m hd.2 (fun h => (hnr1 h).2) (hR1.rel rfl) hx fun a2 w2 G2 x2 hx2 hR2 hb2 => hQ a2 w2 G2 x2 hx2 hR2 (hb1.trans hb2)
   | exit id => simp only [Option.some.injEq,Prod.mk.injEq] at hx; obtain ⟨rfl,rfl⟩ := hx; exact hQ a1 w1 G1 x1 trivial hR1 hb1
   | ret => simp only [Option.some.injEq,Prod.mk.injEq] at hx; obtain ⟨rfl,rfl⟩ := hx; exact hQ a1 w1 G1 x1 trivial hR1 hb1
 case cond z x y _ _ =>
  simp only [lower] at hd hx
  cases hz' : lowOpd z with
  | none => rw [hz'] at hx; exact (exec_fail hx).elim
  | some z' =>
   rw [hz'] at hx hd
   simp only [LCode.dstOk,Bool.and_eq_true] at hd
   have hnr1 : Ξ.nm = true → (lower P I x).noRg = true ∧ (lower P I y).noRg = true := fun h => by simpa [lower,hz',LCode.noRg] using hnr h
   simp only [exec] at hx
   have hv := opd_sound hR hz'
   split at hx
   ·rename_i hz
    rw [hz] at hv
    have : a.eval z = .bool true := by generalize a.eval z = q at hv; cases hv; rfl
    exact wpIn_cond_true this (ih I N x st e st' Ξ B S G a w Q m hd.1 (fun h => (hnr1 h).1) hR hx hQ)
   ·rename_i hz
    rw [hz] at hv
    have : a.eval z = .bool false := by generalize a.eval z = q at hv; cases hv; rfl
    exact wpIn_cond_false this (ih I N y st e st' Ξ B S G a w Q m hd.2 (fun h => (hnr1 h).2) hR hx hQ)
   ·cases hx
 case block id x _ =>
  simp only [lower,LCode.dstOk] at hd
  simp only [lower,exec] at hx
  refine wpIn_block ?_
  cases h1 : exec L n (lower P I x) st with
  | none => rw [h1] at hx; cases hx
  | some p =>
   obtain ⟨e1,s1⟩ := p
   rw [h1] at hx
   refine ih I N x st e1 s1 Ξ B S G a w _ m hd (fun h => by simpa [lower,LCode.noRg] using hnr h) hR h1 fun a1 w1 G1 x1 hx1 hR1 hb1 => ?_
   cases e1 with
   | panic v => simp only [Option.some.injEq,Prod.mk.injEq] at hx; obtain ⟨rfl,rfl⟩ := hx; exact hQ a1 w1 G1 x1 hx1 hR1 hb1
   | normal => simp only [Option.some.injEq,Prod.mk.injEq] at hx; obtain ⟨rfl,rfl⟩ := hx; exact hQ a1 w1 G1 x1 trivial hR1 hb1
   | exit id' =>
    simp only at hx
    simp only [Ex.toExit,Exit.inBlock]
    split at hx
    ·rename_i he; rw [if_pos he]; simp only [Option.some.injEq,Prod.mk.injEq] at hx; obtain ⟨rfl,rfl⟩ := hx; exact hQ a1 w1 G1 x1 trivial hR1 hb1
    ·rename_i he; rw [if_neg he]; simp only [Option.some.injEq,Prod.mk.injEq] at hx; obtain ⟨rfl,rfl⟩ := hx; exact hQ a1 w1 G1 x1 trivial hR1 hb1
   | ret => simp only [Option.some.injEq,Prod.mk.injEq] at hx; obtain ⟨rfl,rfl⟩ := hx; exact hQ a1 w1 G1 x1 trivial hR1 hb1
 case loop x _ =>
  simp only [lower,LCode.dstOk] at hd
  simp only [lower] at hx
  have key : ∀ k s1 G1 a1 w1,k ≤ n + 1 → Rel P Ξ B S G1 s1 N a1 w1 → exec L k (.loop (lower P I x)) s1 = some (e,st') → Below B w w1 → Code.roundsIn (Fx Ξ.ro) m P x Q k a1 w1 := by
   intro k
   induction k with
   | zero => intro s1 G1 a1 w1 _ _ hx1 _; simp [exec] at hx1
   | succ k ihk =>
    intro s1 G1 a1 w1 hk hR1 hx1 hb1
    simp only [exec] at hx1
    rw [roundsIn_succ]
    cases h1 : exec L k (lower P I x) s1 with
    | none => rw [h1] at hx1; cases hx1
    | some p =>
     obtain ⟨e1,s2⟩ := p
     rw [h1] at hx1
     refine ihs k (by omega) I N x s1 e1 s2 Ξ B S G1 a1 w1 _ m hd (fun h => by simpa [lower,LCode.noRg] using hnr h) hR1 h1 fun a2 w2 G2 x2 hx2 hR2 hb2 => ?_
     cases e1 with
     | panic v => simp only [Option.some.injEq,Prod.mk.injEq] at hx1; obtain ⟨rfl,rfl⟩ := hx1; exact hQ a2 w2 G2 x2 hx2 hR2 (hb1.trans hb2)
     | normal => exact ihk s2 G2 a2 w2 (by omega) (hR2.rel rfl) hx1 (hb1.trans hb2)
     | exit id => simp only [Option.some.injEq,Prod.mk.injEq] at hx1; obtain ⟨rfl,rfl⟩ := hx1; exact hQ a2 w2 G2 x2 trivial hR2 (hb1.trans hb2)
     | ret => simp only [Option.some.injEq,Prod.mk.injEq] at hx1; obtain ⟨rfl,rfl⟩ := hx1; exact hQ a2 w2 G2 x2 trivial hR2 (hb1.trans hb2)
  exact wpIn_loop_rounds (n + 1) (key (n + 1) st G a w (Nat.le_refl _) hR hx (Below.refl _ _))
 case exit id =>
  simp only [lower,exec,Option.some.injEq,Prod.mk.injEq] at hx
  obtain ⟨rfl,rfl⟩ := hx
  exact wpIn_exit (hQ a w G undef trivial hR.e (Below.refl _ _))
 case ret =>
  simp only [lower,exec,Option.some.injEq,Prod.mk.injEq] at hx
  obtain ⟨rfl,rfl⟩ := hx
  exact wpIn_ret (hQ a w G undef trivial hR.e (Below.refl _ _))
 case rangeFunc g ps ca cb _ _ =>
  simp only [lower] at hd hx
  cases hg : lowOpd g with
  | none => rw [hg] at hx; exact (exec_fail hx).elim
  | some g' =>
   rw [hg] at hx hd
   simp only [LCode.dstOk,Bool.and_eq_true] at hd
   simp only [exec] at hx
   have hnm : Ξ.nm = false := by
    cases h : Ξ.nm with
    | false => rfl
    | true => have := hnr h; simp [lower,hg,LCode.noRg] at this
   exact exec_range hL hF hg hd.1.1 hd.1.2 hd.2 hnm hR hx hQ
 case scope x ihx =>
  refine wpIn_scope' (ihx st e st' Ξ B S G a w _ m hd hnr hR hx fun a1 w1 G1 x1 hx1 hR1 hb1 => ?_)
  have := hQ a1 w1 G1 x1 hx1 hR1 hb1
  cases e <;> exact this
 all_goals (simp only [lower] at hx; exact (exec_fail hx).elim)
end Go.Abs
namespace Go.Abs
open Go.RowKit (Below)
variable [Inhabited Glob]
def Ex.mode (x : Value) : Ex → FrameMode
 | .panic _ => .panicking (chainOf x)
 | _ => .returning
theorem Ex.mode_run {x : Value} {e : Ex} : e.mode x ≠ .run := by cases e <;> simp [Ex.mode]
theorem dfr_spec {P : Program} {I : Operand → Bool} {ts : List Nat} {ops : Array Oper} {k : Call} {y : Code} {lc : LCode} (h : lowDfr P I ts ops k y = some lc) :
  ∃ F f args l,k.callee = .value F ∧ lowOpd F = some f ∧ lowOpds k.args.toList = some args ∧ mapO (lowOper P I ops) ops.toList.dropLast = some l ∧ lc = .dfr ts l f args (lower P I y) := by
 simp only [lowDfr] at h
 split at h
 case h_2 => cases h
 rename_i F hF
 split at h
 case h_2 => cases h
 rename_i f args l h1 h2 h3
 simp only [Option.some.injEq] at h
 exact ⟨F,f,args,l,hF,h1,h2,h3,h.symm⟩
theorem tail_rcv {P : Program} {I : Operand → Bool} {ts : List Nat} {c : Code} {lc : LCode} (h : lowTail P I ts c = some lc) : lc.isRcv = false := by
 cases c <;> simp only [lowTail,reduceCtorEq] at h
 split at h
 ·obtain ⟨_,_,_,_,_,_,_,_,rfl⟩ := dfr_spec h; rfl
 ·split at h
  ·simp only [Option.some.injEq] at h; subst h; rfl
  ·cases h
theorem low_rcv {P : Program} {I : Operand → Bool} {ts : List Nat} {c : Code} {dst : Option Nat} {l : List LOper} {b : LCode} (h : lowBody P I ts c = some (.rcv dst l b)) :
  ∃ id ops c' o rest,c = .seq (.region id ops false) c' ∧ ops.toList = o :: rest ∧ isRecover o = true ∧ rest.all isMove = true ∧ mapO (lowOper P I ops) rest = some l ∧ dst = o.dst ∧ b = lower P I c' ∧ (lower P I c').noRg = true := by
 simp only [lowBody] at h
 split at h
 ·rename_i x hx
  simp only [Option.some.injEq] at h; subst h
  unfold lowRcv at hx
  split at hx
  case h_2 => cases hx
  rename_i id ops c'
  split at hx
  case h_2 => cases hx
  rename_i o rest ho
  split at hx
  case isFalse => cases hx
  rename_i hc
  simp only [Bool.and_eq_true] at hc
  obtain ⟨l',hl,he⟩ := Option.map_eq_some_iff.1 hx
  simp only [LCode.rcv.injEq] at he
  obtain ⟨rfl,rfl,rfl⟩ := he
  exact ⟨_,ops,c',o,rest,rfl,ho,hc.1.1,hc.1.2,hl,rfl,rfl,hc.2⟩
 ·split at h
  ·rename_i x hx
   simp only [Option.some.injEq] at h; subst h
   have := tail_rcv hx; cases this
  ·split at h
   ·cases h
   ·rename_i hn
    simp only [Option.some.injEq] at h
    rw [h] at hn; simp [LCode.isRcv] at hn
section
variable {P : Program} {Ξ : Env} {B : Nat} {S : Nat → Nat → Prop} {N : Nat} {ops : Array Oper} {n : Nat} {call : CallFn} {io : Inl} {I : Operand → Bool} {ro : Option Nat} {m : Nat}
theorem ops_pre (hcall : CallOk P call) (hio : InlOk P io) {l : List LOper} (hl : ∀ i (h : i < l.length),∃ h' : i < ops.size,lowOper P I ops ops[i] = some l[i]) (hd : l.all (fun o => o.dst.all (· < N)) = true) {Q : Exit → Act → World → Prop} {rest : List Nat} :
  ∀ (k i : Nat) (st st' : St) (G : Gh) (a : Act) (w : World),i + k = l.length → Rel P Ξ B S G st N a w → runOps n call io 0 (l.drop i) st = some st' →
   (∀ a' w' G',Rel P Ξ B S G' st' N a' w' → Below B w w' → wpOpsIn (Fx ro) m P ops Q rest a' w') → wpOpsIn (Fx ro) m P ops Q (List.range' i k ++ rest) a w := by
 intro k
 induction k with
 | zero =>
  intro i st st' G a w hik hR hrun hQ
  have : l.drop i = [] := List.drop_eq_nil_iff.2 (by omega)
  rw [this] at hrun
  simp only [runOps,Option.some.injEq] at hrun; subst hrun
  exact hQ a w G hR (Below.refl _ _)
 | succ k ih =>
  intro i st st' G a w hik hR hrun hQ
  have hil : i < l.length := by omega
  obtain ⟨hi,hlow⟩ := hl i hil
  rw [List.drop_eq_getElem_cons hil] at hrun
  simp only [runOps] at hrun
  split at hrun
  case h_2 => cases hrun
  rename_i st1 r hs
  rw [List.range'_succ,List.cons_append,wpOpsIn_cons]
  unfold wpOpIn
  rw [Array.getElem?_eq_getElem hi]
  exact step_sound hcall hio hR hlow (List.all_eq_true.1 hd _ (List.getElem_mem hil)) hs fun a' w' G' h1 h2 =>
   ih (i + 1) st1 st' G' a' w' (by omega) h1 hrun fun a'' w'' G'' h3 h4 => hQ a'' w'' G'' h3 (h2.trans h4)
theorem moves_sound {call : CallFn} {io : Inl} {l : List LOper} (hl : ∀ i (h : i < l.length),∃ h' : i + 1 < ops.size,isMove ops[i + 1] = true ∧ lowOper P I ops ops[i + 1] = some l[i]) (hd : l.all (fun o => o.dst.all (· < N)) = true) {Q : Exit → Act → List Frame → World → Prop} {cs : List Frame} {w : World} :
  ∀ (k i : Nat) (st st' : St) (G : Gh) (a : Act),i + k = l.length → Rel P Ξ B S G st N a w → runOps n call io 0 (l.drop i) st = some st' →
   (∀ a' G',Rel P Ξ B S G' st' N a' w → Q .normal a' cs w) → wpOpsSIn Fence.wide m P ops Q (List.range' (i + 1) k) a cs w := by
 intro k
 induction k with
 | zero =>
  intro i st st' G a hik hR hrun hQ
  have : l.drop i = [] := List.drop_eq_nil_iff.2 (by omega)
  rw [this] at hrun
  simp only [runOps,Option.some.injEq] at hrun; subst hrun
  exact hQ a G hR
 | succ k ih =>
  intro i st st' G a hik hR hrun hQ
  have hil : i < l.length := by omega
  obtain ⟨hi,hmv,hlow⟩ := hl i hil
  rw [List.drop_eq_getElem_cons hil] at hrun
  simp only [runOps] at hrun
  split at hrun
  case h_2 => cases hrun
  rename_i st1 r hs
  have hdi := List.all_eq_true.1 hd _ (List.getElem_mem hil)
  rw [List.range'_succ]
  simp only [wpOpsSIn,Array.getElem?_eq_getElem hi]
  refine ⟨fun _ _ => trivial,?_⟩
  simp only [lowOper,Option.bind_eq_bind,Option.bind_eq_some_iff,Option.pure_def,Option.some.injEq] at hlow
  obtain ⟨lop,hop,g,hg,he⟩ := hlow
  have hmv' : ∃ x,(ops[i + 1].op = .assign x ∨ ops[i + 1].op = .move x) ∧ ops[i + 1].guard = none := by
   unfold isMove at hmv
   split at hmv
   ·rename_i h1 h2; exact ⟨_,.inl h1,h2⟩
   ·rename_i h1 h2; exact ⟨_,.inr h1,h2⟩
   ·cases hmv
  obtain ⟨x,hx,hgd⟩ := hmv'
  have hw : Region.wanted ops[i + 1] (yielded ops a.tmps) = true := by simp [Region.wanted,hgd]
  have hrun1 : (execOp a.eval ops[i + 1]).run P w = .ok (.value (a.eval x)) w := by
   rcases hx with hx | hx <;> simp [execOp,hx]
  obtain ⟨y,hy,hlop⟩ : ∃ y,lowOpd x = some y ∧ lop = .mv y := by
   rcases hx with hx | hx <;> rw [hx] at hop <;> (obtain ⟨y,h1,h2⟩ := Option.map_eq_some_iff.1 hop; exact ⟨y,h1,h2.symm⟩)
  have hg' : g = none := by rw [hgd] at hg; simpa [guardTmp] using hg.symm
  rw [← he,hlop,hg'] at hs
  rw [← he] at hdi
  simp only [step,wanted,eval,Bool.false_and,Bool.false_eq_true,if_false,W.applyAll,List.foldl_nil,Option.some.injEq,Prod.mk.injEq] at hs
  obtain ⟨rfl,rfl⟩ := hs
  simp only [hw,if_true,hrun1]
  exact ih (i + 1) _ st' G _ (by omega) (hR.putO' ops[i + 1].dst (opd_sound hR hy) hdi) hrun hQ
end
theorem defer_sound {P : Program} {L : Prog} (hL : LowOk P L) {n : Nat} (hE : ExecOk P L n) (hcall : CallOk P (callWith L 8 (exec L n))) (hio : InlOk P (inlOf L (exec L n))) {g : Nat} {A args Z : List Val} {e : Ex} {st st' : St}
  (h : deferWith L (exec L n) (.fn g A Z) args e st = some st') : st'.fr = st.fr ∧ (∃ fn,P.funcs[g]? = some fn ∧ (fn.name == "runtime.NumGoroutine") = false ∧ fn.body.isNone = false) ∧
  ∀ (Ξ : Env) (B : Nat) (S : Nat → Nat → Prop) (G : Gh) (N : Nat) (a : Act) (w : World) (vals : Array Value) (x : Value) (m : Nat),e.val x → Rel P Ξ B S G st N a w → vals.size = (A ++ args ++ Z).length →
   (∀ i,i < (A ++ args ++ Z).length → VR (Stab B S G w.heap.size) G w ((A ++ args ++ Z).getD i .dead) (vals.getD i undef)) →
   CallsDIn Fence.wide m P g vals (e.mode x) w fun ed u' w' => ∃ G' y,ed = .returned y ∧ settle u' = .returning ∧ Rel P Ξ B S G' st' N a w' ∧ Below B w w' := by
 simp only [deferWith] at h
 split at h
 case h_2 => cases h
 rename_i lf hlf
 split at h
 case h_2 => cases h
 rename_i dst l cb v hbody hrv
 split at h
 case isFalse => cases h
 rename_i hc
 obtain ⟨hlen,hres0⟩ := hc
 split at h
 case h_2 => cases h
 rename_i st1 hmoves
 split at h
 case h_2 => cases h
 rename_i e' st2 hx
 split at h
 case isFalse => cases h
 rename_i hends
 simp only [Option.some.injEq] at h
 subst h
 obtain ⟨fn,I,keep,amb,hfn,hlow⟩ := hL g lf hlf
 obtain ⟨c,hb,hlb,hdst,hnp,hname,hres⟩ := low_spec hlow
 rw [hbody] at hlb hdst
 obtain ⟨id,ops,c',o,rest,rfl,hops,hrec,hmv,hl,rfl,rfl,hnr⟩ := low_rcv hlb
 refine ⟨rfl,⟨fn,hfn,hname,by rw [hb]; rfl⟩,fun Ξ B S G N a w vals x m hxv hR hvl hv => ?_⟩
 simp only [LCode.dstOk,Bool.and_eq_true] at hdst
 obtain ⟨⟨hd1,hd2⟩,hd3⟩ := hdst
 obtain ⟨Ds0,q1,q2,q3⟩ := hR.marks
 have hR1 := rel_enter (st0 := st) (fn := fn) (nm := true) hR q3 rfl rfl hvl (by omega) hv
 have hsz : ops.size = rest.length + 1 := by
  have := congrArg List.length hops
  simpa using this
 have h0 : ops[0]? = some o := by
  have : ops.toList[0]? = some o := by rw [hops]; rfl
  simpa using this
 have hro : ∃ cl,o.op = .call cl ∧ cl.callee = .builtin .recover ∧ o.guard = none := by
  unfold isRecover at hrec
  split at hrec
  ·rename_i cl h1 h2
   split at hrec
   ·rename_i h3; exact ⟨cl,h1,h3,h2⟩
   ·cases hrec
  ·cases hrec
 obtain ⟨cl,ho1,ho2,ho3⟩ := hro
 obtain ⟨m1,m2⟩ := mapO_some hl
 refine callsDIn_of_wpSIn hfn hb trivial fun c₀ cs hmode => ?_
 refine wpSIn_seq (wpSIn_region ?_)
 rw [hsz,List.range_eq_range',List.range'_succ]
 simp only [wpOpsSIn,h0]
 refine ⟨fun _ _ => trivial,?_⟩
 have hw : Region.wanted o (yielded ops (act0 fn vals).tmps) = true := by simp [Region.wanted,ho3]
 have hrunr : ∀ (ρ : Operand → Value) (w : World),(execOp ρ o).run P w = .ok .recover w := by
  intro ρ w
  simp [execOp,ho1,resolve,ho2,invoke,builtin]
 unfold act0 at hw
 simp only [hw,if_true,hrunr]
 have behindR : ∀ (y : Value) (u' : FrameMode) ,settle u' = .returning → FV v y →
   wpOpsSIn Fence.wide m P ops (Exit.thenS (Code.wpSIn Fence.wide m P c' (bodyPostS P fn c₀ cs fun ed u' w' => ∃ G' y,ed = .returned y ∧ settle u' = .returning ∧ Rel P Ξ B S G' { fr := st.fr,en := st2.en,cnt := st2.cnt } N a w' ∧ Below B w w'))
    (bodyPostS P fn c₀ cs fun ed u' w' => ∃ G' y,ed = .returned y ∧ settle u' = .returning ∧ Rel P Ξ B S G' { fr := st.fr,en := st2.en,cnt := st2.cnt } N a w' ∧ Below B w w')) (List.range' (0 + 1) rest.length) ((act0 fn vals).put o.dst y) ({ c₀ with mode := u' } :: cs) w := by
  intro y u' hu' hvy
  have hR2 := hR1.putO' o.dst (v := v) (x := y) (hvy _ _ _) hd1
  refine moves_sound (N := fn.ntmps) (st' := st1) (G := G) (n := 8) (call := callWith L 8 (exec L n)) (io := inlOf L (exec L n)) (l := l) (I := I) ?_ hd2 rest.length 0 _ _ (by rw [m1]; omega) hR2 (by simpa using hmoves) fun a4 G4 hR4 => ?_
  ·intro i hi
   have hi' : i < rest.length := by omega
   have hi2 : i + 1 < ops.size := by omega
   have he : ops[i + 1] = rest[i] := by
    have : ops.toList[i + 1]? = rest[i]? := by rw [hops]; rfl
    rw [List.getElem?_eq_getElem hi',Array.getElem?_toList,Array.getElem?_eq_getElem hi2] at this
    exact Option.some.inj this
   refine ⟨hi2,?_,?_⟩
   ·rw [he]; exact List.all_eq_true.1 hmv _ (List.getElem_mem hi')
   ·rw [he]; exact m2 i hi' hi
  ·refine wpSIn_of_wpIn rfl ?_
   refine hE I fn.ntmps c' st1 e' st2 _ B S G4 a4 w _ m hd3 (fun _ => hnr) hR4 hx fun a5 w5 G5 x5 _ hR5 hb5 => ?_
   have fin : e'.calm = true → a5.defers = [] ∧ ∃ u'',({ c₀ with mode := u' } :: cs : List Frame) = { c₀ with mode := u'' } :: cs ∧ ∃ v,(results fn a5.tmps).run P w5 = .ok v w5 ∧
     ∃ G' y,Ending.returned v = .returned y ∧ settle u'' = .returning ∧ Rel P Ξ B S G' { fr := st.fr,en := st2.en,cnt := st2.cnt } N a w5 ∧ Below B w w5 := by
    intro hcalm
    have hR6 := hR5.rel hcalm
    obtain ⟨Ds,r1,r2,r3⟩ := hR6.marks
    have hDs := r2.2 rfl
    subst hDs
    have hlr : lf.res = [] := by simpa using hres0
    rw [hlr] at hres
    obtain ⟨y5,hy5,_⟩ := results_sound hR6 hres (vs := []) rfl
    exact ⟨by simpa using r1,u',rfl,y5,hy5,G5,y5,rfl,hu',rel_leave (ste := st2) hR.tmps q1 q2 (fun D hD => ⟨(q3 D hD).1,(q3 D hD).2.1⟩) hR6,hb5⟩
   cases e' with
   | normal => exact fin rfl
   | ret => exact fin rfl
   | exit id => cases hends
   | panic v => cases hends
 cases e with
 | panic vp =>
  simp only [Ex.mode] at hmode
  simp only [Ex.rcvd,Option.some.injEq] at hrv
  subst hrv
  have hrc : recoverD (c₀ :: cs) = some (x,{ c₀ with mode := .panicking [{ v := x,recovered := true }] } :: cs) := by simp [recoverD,hmode,chainOf]
  simp only [hrc]
  exact behindR x _ (by simp [settle]) hxv
 | exit id => cases hrv
 | normal =>
  simp only [Ex.mode] at hmode
  simp only [Ex.rcvd,Option.some.injEq] at hrv
  subst hrv
  have hrc : recoverD (c₀ :: cs) = none := by simp [recoverD,hmode]
  simp only [hrc]
  have := behindR .nilIface .returning rfl (fun _ _ _ => .nili)
  have ec : ({ c₀ with mode := FrameMode.returning } : Frame) = c₀ := by rw [← hmode]
  rw [ec] at this
  exact this
 | ret =>
  simp only [Ex.mode] at hmode
  simp only [Ex.rcvd,Option.some.injEq] at hrv
  subst hrv
  have hrc : recoverD (c₀ :: cs) = none := by simp [recoverD,hmode]
  simp only [hrc]
  have := behindR .nilIface .returning rfl (fun _ _ _ => .nili)
  have ec : ({ c₀ with mode := FrameMode.returning } : Frame) = c₀ := by rw [← hmode]
  rw [ec] at this
  exact this
theorem mapM_same {α β : Type} {f g : α → Sem β} : ∀ {l : List α},(∀ x ∈ l,f x = g x) → l.mapM f = l.mapM g
 | [],_ => by simp
 | x :: l,h => by
  simp only [List.mapM_cons]
  rw [h x (by simp),mapM_same fun y hy => h y (by simp [hy])]
theorem results_same {fn : Func} {tm tm' : Array Value} (h : ∀ t ∈ resTmps fn.results.toList,tm.getD t undef = tm'.getD t undef) : results fn tm = results fn tm' := by
 have : (fn.results.mapM fun (rv : ResultVar) => (match rv with
   | .tmp t => (pure (tm.getD t undef) : Sem Value)
   | .cell c t => do loadVar t (← asAddr (tm.getD c undef)))) = (fn.results.mapM fun (rv : ResultVar) => (match rv with
   | .tmp t => (pure (tm'.getD t undef) : Sem Value)
   | .cell c t => do loadVar t (← asAddr (tm'.getD c undef)))) := by
  rw [Array.mapM_eq_mapM_toList,Array.mapM_eq_mapM_toList]
  congr 1
  refine mapM_same fun rv hrv => ?_
  have ht := h (match rv with | .tmp t => t | .cell c _ => c) (by simp only [resTmps,List.mem_map]; exact ⟨rv,hrv,by cases rv <;> rfl⟩)
  cases rv with
  | tmp t => simp only at ht ⊢; rw [ht]
  | cell c t => simp only at ht ⊢; rw [ht]
 simp only [results]
 exact congrArg (fun z => z >>= _) this
theorem tail_ok {P : Program} {L : Prog} (hL : LowOk P L) {fn : Func} {R : Ending → World → Prop} {I : Operand → Bool} {w0 : World} {e : Ex} {st' : St} {Ξ : Env} {B : Nat} {S : Nat → Nat → Prop} (hro : Ξ.ro = none) (ht : Ξ.tail = []) (hnm : Ξ.nm = false)
  (k : ∀ a1 w1 G1 x,e.val x → a1.defers = [] → Rel P Ξ B S G1 st' fn.ntmps a1 w1 → Below B w0 w1 → e.fin P fn a1 w1 R x) :
  ∀ (n : Nat),(∀ m,m < n → ExecOk P L m ∧ CallOk P (callWith L 8 (exec L m)) ∧ InlOk P (inlOf L (exec L m))) → ∀ (y : Code) (ly : LCode) (st : St) (G : Gh) (a : Act) (w : World),lowTail P I (resTmps fn.results.toList) y = some ly → ly.dstOk fn.ntmps = true →
   exec L n ly st = some (e,st') → Rel P Ξ B S G st fn.ntmps a w → Below B w0 w → y.wpIn (Fx none) 0 P (bodyPostM Fence.wide 0 P fn R) a w := by
 intro n
 induction n with
 | zero => intro _ y ly st G a w _ _ hx; simp [exec] at hx
 | succ n ih =>
  intro hall y ly st G a w hly hdst hx hR hB
  obtain ⟨hE,hcall,hio⟩ := hall n (by omega)
  have hplain : ∀ {ro : Option Nat},ro = none → Fx ro = Fx none := fun h => by rw [h]
  cases y <;> simp only [lowTail,reduceCtorEq] at hly
  rename_i x y
  split at hly
  ·-- the deferred call
   rename_i ops kc hdf
   obtain ⟨F,f,args,l,hcf,hf,hargs,hl,rfl⟩ := dfr_spec hly
   unfold deferR at hdf
   split at hdf
   case h_2 => cases hdf
   rename_i id ops'
   split at hdf
   case h_2 => cases hdf
   rename_i o hback
   split at hdf
   case h_2 => cases hdf
   rename_i kc' hop hgd hdo
   simp only [Option.some.injEq,Prod.mk.injEq] at hdf
   obtain ⟨rfl,rfl⟩ := hdf
   simp only [LCode.dstOk,Bool.and_eq_true] at hdst
   obtain ⟨hd1,hd2⟩ := hdst
   rw [exec] at hx
   split at hx
   case h_2 => cases hx
   rename_i st2 hpre
   split at hx
   case h_2 => cases hx
   rename_i eb st3 hbx
   split at hx
   ·cases hx
   rename_i hts
   obtain ⟨st4,hdfr,he⟩ := Option.map_eq_some_iff.1 hx
   simp only [Prod.mk.injEq] at he
   obtain ⟨rfl,rfl⟩ := he
   obtain ⟨m1,m2⟩ := mapO_some hl
   have hne : ops'.size ≠ 0 := by
    intro h0
    have : ops' = #[] := Array.eq_empty_of_size_eq_zero h0
    rw [this] at hback; simp at hback
   have hll : l.length = ops'.size - 1 := by rw [m1]; simp
   have hlast : ops'[l.length]? = some o := by rw [hll]; rw [Array.back?_eq_getElem?] at hback; exact hback
   refine wpIn_seq (wpIn_region ?_)
   rw [show ops'.size = l.length + 1 by omega,List.range_succ,List.range_eq_range']
   refine ops_pre (N := fn.ntmps) (Ξ := Ξ) (B := B) (S := S) hcall hio (l := l) (I := I) (fun i hi => ?_) hd1 l.length 0 st st2 G a w (by omega) hR (by simpa using hpre) fun a2 w2 G2 hR2 hb2 => ?_
   ·have hi' : i < ops'.size := by omega
    refine ⟨hi',?_⟩
    have := m2 i (by simp; omega) hi
    simpa [List.getElem_dropLast] using this
   have hfv := opd_sound hR2 hf
   obtain ⟨la,va⟩ := opds_sound hR2 hargs
   cases hfn0 : St.get st2.fr f with
   | fn g A Z => ?_
   | _ => rw [hfn0] at hdfr; simp [deferWith] at hdfr
   rw [hfn0] at hdfr hfv
   obtain ⟨hfr4,⟨gn,hgn,hgname,hgbody⟩,hdef⟩ := defer_sound hL hE hcall hio hdfr
   generalize hgF : a2.eval F = uF at hfv
   cases hfv with
   | fn _ _ _ p q hp hq hvp hvq =>
   let dd : Deferred := { target := .fn (.func g) q,args := p ++ kc'.args.map a2.eval }
   have hrun : (execOp a2.eval o).run P w2 = .ok (.defer dd) w2 := by
    simp [execOp,hop,resolve,hcf,hgF,Deferred.ofValue,dd]
   have hinv : ∀ W : World,(invoke (.fn (.func g) q) (p ++ kc'.args.map a2.eval)).run P W = .ok (.enter g (p ++ kc'.args.map a2.eval ++ q)) W := by
    intro W
    have hnm' : ¬ gn.name = "runtime.NumGoroutine" := by simpa using hgname
    have hbody' : ¬ gn.body = none := by intro h; rw [h] at hgbody; cases hgbody
    simp [invoke,callFunc,hgn,hnm',hbody']
   obtain ⟨Ds,r1,r2,r3⟩ := hR2.marks
   rw [ht,List.append_nil] at r1
   rw [wpOpsIn_cons]
   unfold wpOpIn
   simp only [hlast]
   have hw : Region.wanted o (yielded ops' a2.tmps) = true := by simp [Region.wanted,hgd]
   simp only [hw,if_true]
   refine ⟨fun _ _ => trivial,?_⟩
   rw [show (Fx none).round = none from rfl,Oper.semAt_none,hrun,Oper.uponIn_defer,hdo]
   show Code.wpIn (Fx none) 0 P y (bodyPostM Fence.wide 0 P fn R) { a2 with defers := dd :: a2.defers } w2
   let ΞB : Env := { prs := fun u z => Ξ.prs u z ∨ ∃ X x,lowOpd X = some x ∧ u = St.get st2.fr x ∧ z = a2.eval X,ro := Ξ.ro,rnd := Ξ.rnd,defs := fun D => Ξ.defs D ∨ D ∈ Ds,tail := dd :: Ds.map mark,virt := Ξ.virt }
   have hRB : Rel P ΞB B S G2 st2 fn.ntmps { a2 with defers := dd :: a2.defers } w2 :=
    ⟨hR2.size,hR2.tmps,hR2.frame,⟨[],by simp [ΞB,r1],⟨List.nodup_nil,fun _ => rfl⟩,fun D hD => by simp at hD⟩,hR2.ents,hR2.freshEn,hR2.freshG,hR2.own,fun u z hu => by
     rcases hu with (hu | ⟨X,x,h1,rfl,rfl⟩) | hu
     ·exact hR2.extra u z (.inl hu)
     ·exact opd_sound hR2 h1
     ·exact hR2.extra u z (.inr hu),fun l hl => hR2.round l hl,fun D hD => hD.elim (hR2.defs D) fun h => (r3 D h).2.2,hR2.virt⟩
   have hfx : Fx ΞB.ro = Fx none := by show Fx Ξ.ro = Fx none; rw [hro]
   have hBw2 : Below B w0 w2 := hB.trans hb2
   rw [← hfx]
   refine hE I fn.ntmps y st2 eb st3 ΞB B S G2 _ w2 _ 0 hd2 (fun h => nomatch h) hRB hbx fun a3 w3 G3 x3 hx3 hR3 hb3 => ?_
   obtain ⟨tm,hR3',htm,htu⟩ := hR3
   obtain ⟨Ds3,s1,s2,s3,s4,_,hR4⟩ := hR3'.shut
   replace s1 : a3.defers = Ds3.map mark ++ (dd :: Ds.map mark) := s1
   have hres : results fn tm = results fn a3.tmps := results_same fun t htt => htu t (by
    cases hu : (st3.fr t).isUndef with
    | false => rfl
    | true => exact absurd (List.any_eq_true.2 ⟨t,htt,hu⟩) (by simpa using hts))
   have hlv : LeavesInM Fence.wide 0 P fn a3.tmps R (Ds3.map mark ++ (dd :: Ds.map mark)) (eb.mode x3) w3 := by
    refine leaves_sound Ex.mode_run Ds3 w3 s2 s3 ⟨Ex.mode_run,.inr ⟨fun h => by simp [Fence.wide] at h,.func g,q,g,_,rfl,hinv _,fun _ _ => trivial,?_⟩⟩
    have hvals : ∀ i,i < (A ++ args.map (St.get st2.fr) ++ Z).length → VR (Stab B S G3 (shutAll w3 Ds3).heap.size) G3 (shutAll w3 Ds3) ((A ++ args.map (St.get st2.fr) ++ Z).getD i .dead) ((p ++ kc'.args.map a2.eval ++ q).getD i undef) := by
     have hfv4 := hR4.extra _ _ (.inl (.inr ⟨F,f,hf,rfl,rfl⟩))
     rw [hfn0,hgF] at hfv4
     cases hfv4 with
     | fn _ _ _ _ _ hp4 hq4 hvp4 hvq4 =>
     intro i hi
     simp only [List.getD_eq_getElem?_getD,Array.getD_eq_getD_getElem?,List.getElem?_append,Array.getElem?_append,List.length_append,Array.size_append,Array.size_map,List.length_map] at hi ⊢
     have e1 : p.size = A.length := hp
     have e2 : kc'.args.size = args.length := by simp [la]
     rw [e1,e2]
     split
     ·split
      ·rename_i h; have := hvp4 i h; simpa [List.getD_eq_getElem?_getD,Array.getD_eq_getD_getElem?] using this
      ·have hi' : i - A.length < args.length := by omega
       have hi2 : i - A.length < kc'.args.size := by omega
       obtain ⟨m3,m4⟩ := mapO_some hargs
       have hlo := m4 (i - A.length) (by simpa using hi2) hi'
       have := hR4.extra _ _ (.inl (.inr ⟨_,_,hlo,rfl,rfl⟩))
       simpa [List.getD_eq_getElem?_getD,Array.getD_eq_getD_getElem?,hi',hi2] using this
     ·have := hvq4 (i - (A.length + args.length)) (by omega); simpa [List.getD_eq_getElem?_getD,Array.getD_eq_getD_getElem?] using this
    refine CallsDIn.mono (hdef ΞB B S G3 fn.ntmps _ (shutAll w3 Ds3) _ x3 (0 - 1) hx3 hR4 (by simp [hp,hq,la]) hvals) ?_
    rintro ed u' w5 ⟨G5,y5,rfl,hset,hR5,hb5⟩
    simp only [hset]
    have hR6 : Rel P Ξ B S G5 st4 fn.ntmps { tmps := tm,defers := Ds.map mark } w5 :=
     ⟨hR5.size,hR5.tmps,hR5.frame,⟨Ds,by simp [ht],r2,fun D hD => ⟨(r3 D hD).1,(r3 D hD).2.1,hR5.defs D (.inr hD)⟩⟩,hR5.ents,hR5.freshEn,hR5.freshG,hR5.own,fun u z hu => hR5.extra u z (hu.imp_left .inl),fun l hl => hR5.round l hl,fun D hD => hR5.defs D (.inl hD),hR5.virt⟩
    obtain ⟨Ds6,v1,v2,v3,v4,_,hR7⟩ := hR6.shut
    replace v1 : Ds.map mark = Ds6.map mark ++ Ξ.tail := v1
    have hfin := k _ _ _ undef trivial ht hR7 ((((hBw2.trans hb3).trans (shut_below Ds3 w3 s4)).trans hb5).trans (shut_below Ds6 w5 v4))
    obtain ⟨yy,hyy,hRy⟩ := hfin
    rw [v1,ht]
    refine leaves_sound (by simp) Ds6 w5 v2 v3 ?_
    exact ⟨yy,by rw [← hres]; exact hyy,hRy⟩
   rw [← s1] at hlv
   cases eb with
   | normal => exact hlv
   | ret => exact hlv
   | panic v => exact hlv
   | exit id => simp [deferWith,Ex.rcvd] at hdfr; split at hdfr <;> (try split at hdfr) <;> simp at hdfr
  ·split at hly
   case h_2 => cases hly
   rename_i ly' hly'
   simp only [Option.some.injEq] at hly; subst hly
   simp only [LCode.dstOk,Bool.and_eq_true] at hdst
   rw [exec] at hx
   refine wpIn_seq ?_
   cases h1 : exec L n (lower P I x) st with
   | none => rw [h1] at hx; cases hx
   | some pr =>
    obtain ⟨e1,s1⟩ := pr
    rw [h1] at hx
    have hfx : Fx Ξ.ro = Fx none := by rw [hro]
    rw [← hfx]
    refine hE I fn.ntmps x st e1 s1 Ξ B S G a w _ 0 hdst.1 (fun h => by rw [hnm] at h; cases h) hR h1 fun a1 w1 G1 x1 hx1 hR1 hb1 => ?_
    cases e1 with
    | normal =>
     rw [hfx]
     exact ih (fun m hm => hall m (by omega)) y ly' s1 G1 a1 w1 hly' hdst.2 hx (hR1.rel rfl) (hB.trans hb1)
    | exit id => simp only [Option.some.injEq,Prod.mk.injEq] at hx; obtain ⟨rfl,rfl⟩ := hx; exact plain_end (m := 0) ht hx1 hR1 (hB.trans hb1) k
    | ret => simp only [Option.some.injEq,Prod.mk.injEq] at hx; obtain ⟨rfl,rfl⟩ := hx; exact plain_end (m := 0) ht hx1 hR1 (hB.trans hb1) k
    | panic v => simp only [Option.some.injEq,Prod.mk.injEq] at hx; obtain ⟨rfl,rfl⟩ := hx; exact plain_end (m := 0) ht hx1 hR1 (hB.trans hb1) k
theorem fn_ok {P : Program} {L : Prog} (hL : LowOk P L) {n : Nat} (hE : ExecOk P L n) (hall : ∀ m,m < n → ExecOk P L m ∧ CallOk P (callWith L 8 (exec L m)) ∧ InlOk P (inlOf L (exec L m))) : FnOk P L n := by
 intro f fn lf I keep amb e st0 st' Ξ B S G vals w R hfn hlow hx hro ht hnm hR0 k
 obtain ⟨c,hbody,hlb,hdst,hnp,hname,hres⟩ := low_spec hlow
 have hfx : Fx Ξ.ro = Fx none := by rw [hro]
 refine callsIn_wide.1 (callsIn_of_wp_marks (F := Fence.wide) (n := 0) hfn hbody trivial ?_)
 simp only [lowBody] at hlb
 split at hlb
 ·rename_i lc hrc
  simp only [Option.some.injEq] at hlb; subst hlb
  exfalso
  unfold lowRcv at hrc
  split at hrc
  case h_2 => cases hrc
  split at hrc
  case h_2 => cases hrc
  split at hrc
  case isFalse => cases hrc
  obtain ⟨l',_,he⟩ := Option.map_eq_some_iff.1 hrc
  rw [← he] at hx
  cases n <;> simp [exec] at hx
 ·split at hlb
  ·rename_i lc hlt
   simp only [Option.some.injEq] at hlb; subst hlb
   exact tail_ok hL hro ht hnm k n hall c _ st0 G _ w hlt hdst hx hR0 (Below.refl _ _)
  ·split at hlb
   ·cases hlb
   simp only [Option.some.injEq] at hlb
   rw [← hlb] at hx hdst
   have := hE I fn.ntmps c st0 e st' Ξ B S G _ w (bodyPostM Fence.wide 0 P fn R) 0 hdst (fun h => by rw [hnm] at h; cases h) hR0 hx fun a1 w1 G1 x hxv hR1 hb => plain_end ht hxv hR1 hb k
   rw [hfx] at this
   exact this
end Go.Abs
namespace Go.Abs
open Go.RowKit (Below)
variable [Inhabited Glob]
theorem call_step {P : Program} {L : Prog} (hL : LowOk P L) {n k : Nat} (ih : FnOk P L n) : CallOk P (callWith L k (exec L n)) := by
 intro f args r h
 simp only [callWith] at h
 split at h
 ·cases h
 rename_i lf hlf
 split at h
 case isFalse => cases h
 rename_i hlen
 split at h
 ·rename_i ha
  obtain ⟨e1,c1⟩ := amb_step hL ih hlf hlen ha h
  exact ⟨e1,fun S w vals hS hgl hvl hv => c1 _ _ S w vals hS hgl hvl hv⟩
 ·exact body_step hL ih hlf hlen h
theorem all_sound {P : Program} (hm : P.follows .mixedOrders = true) {L : Prog} (hL : LowOk P L) : ∀ n,ExecOk P L n ∧ FnOk P L n := by
 intro n
 induction n using Nat.strongRecOn with
 | ind n ih =>
  have hE : ExecOk P L n := by
   match n,ih with
   | 0,_ => intro I N c st e st' Ξ B S G a w Q m _ _ _ hx; simp [exec] at hx
   | n + 1,ih => exact exec_step hm hL (call_step hL (ih n (by omega)).2) (ih n (by omega)).2 fun m hm' => (ih m (by omega)).1
  exact ⟨hE,fn_ok hL hE fun m hm' => ⟨(ih m hm').1,call_step hL (ih m hm').2,inl_ok hL (ih m hm').2 (ih m hm').1⟩⟩
theorem pcall_sound {P : Program} (hm : P.follows .mixedOrders = true) {L : Prog} (hL : LowOk P L) (n : Nat) : CallOk P (pcall L n) := call_step hL (all_sound hm hL n).2
end Go.Abs
namespace Go.Abs
variable [Inhabited Glob]
@[reducible] def o (d : Nat) (op : LOp) : LOper := ⟨some d,op,none⟩
@[reducible] def og (d t : Nat) (b : Bool) (op : LOp) : LOper := ⟨some d,op,some (t,b)⟩
@[reducible] def on (op : LOp) : LOper := ⟨none,op,none⟩
@[reducible] def ong (t : Nat) (b : Bool) (op : LOp) : LOper := ⟨none,op,some (t,b)⟩
@[reducible] def cI (n : Int) : Opd := .c (.int .i64 n)
@[reducible] def cB (b : Bool) : Opd := .c (.bool b)
@[reducible] def mT (d x : Nat) : LOper := ⟨some d,.mv (.t x),none⟩
@[reducible] def mC (d : Nat) (v : Val) : LOper := ⟨some d,.mv (.c v),none⟩
@[reducible] def fA (d k x : Nat) : LOper := ⟨some d,.fa k (.t x),none⟩
@[reducible] def l1 (d x : Nat) : LOper := ⟨some d,.load false 1 (.t x),none⟩
@[reducible] def lT (d n x : Nat) : LOper := ⟨some d,.load true n (.t x),none⟩
@[reducible] def bN (d : Nat) (op : BinOp) (x y : Opd) : LOper := ⟨some d,.bin op .num x y,none⟩
@[reducible] def pO (d c x : Nat) : LOper := ⟨some d,.pick (.t c) (.c (.bool true)) (.t x),none⟩
@[reducible] def pA (d c x : Nat) : LOper := ⟨some d,.pick (.t c) (.t x) (.c (.bool false)),none⟩
@[reducible] def cL (d f : Nat) (args : List Opd) : LOper := ⟨some d,.call (.f f) args,none⟩
@[reducible] def lN (d x : Nat) : LOper := ⟨some d,.len .slice (.t x),none⟩
@[reducible] def bX (d n x : Nat) : LOper := ⟨some d,.box n (.t x),none⟩
@[reducible] def iA (d s x i : Nat) : LOper := ⟨some d,.ia s (.t x) (.t i),none⟩
@[reducible] def nK (d x : Nat) : LOper := ⟨some d,.nilck (.t x),none⟩
@[reducible] def nT (d x : Nat) : LOper := ⟨some d,.un .not (.t x),none⟩
@[reducible] def sT (n a x : Nat) : LOper := ⟨none,.store n (.t a) (.t x),none⟩
@[reducible] def gM (d t : Nat) (b : Bool) (x : Nat) : LOper := ⟨some d,.mv (.t x),some (t,b)⟩
@[reducible] def gF (d t : Nat) (b : Bool) (k x : Nat) : LOper := ⟨some d,.fa k (.t x),some (t,b)⟩
@[reducible] def g1 (d t : Nat) (b : Bool) (x : Nat) : LOper := ⟨some d,.load false 1 (.t x),some (t,b)⟩
@[reducible] def gT (d t : Nat) (b : Bool) (n x : Nat) : LOper := ⟨some d,.load true n (.t x),some (t,b)⟩
@[reducible] def gN (d t : Nat) (b : Bool) (x : Nat) : LOper := ⟨some d,.len .slice (.t x),some (t,b)⟩
@[reducible] def gL (d t : Nat) (b : Bool) (f : Nat) (args : List Opd) : LOper := ⟨some d,.call (.f f) args,some (t,b)⟩
@[reducible] def gB (d t : Nat) (b : Bool) (op : BinOp) (x y : Opd) : LOper := ⟨some d,.bin op .num x y,some (t,b)⟩
def FnGood (P : Program) (p : Nat × LFunc) : Prop := ∃ fn I keep amb,P.funcs[p.1]? = some fn ∧ lowFunc P I keep amb fn = some p.2
theorem low_tbl {P : Program} {tbl : List (Nat × LFunc)} (h : ∀ p ∈ tbl,FnGood P p) : LowOk P (fun f => tbl.lookup f) := by
 intro f lf hf
 have mem : (f,lf) ∈ tbl := by
  clear h
  induction tbl with
  | nil => cases hf
  | cons x l ih =>
   obtain ⟨f',lf'⟩ := x
   simp only [List.lookup] at hf
   split at hf
   ·rename_i he; simp only [Option.some.injEq] at hf; subst hf; simp at he; subst he; simp
   ·exact List.mem_cons_of_mem _ (ih hf)
 exact h _ mem
structure Told where
 inl : List Nat := []
 pan : List Int := []
 dyn : Bool := false
 keep : Bool := false
 amb : Bool := false
end Go.Abs
namespace Go.Abs
open Go.RowKit Go.WideShapes Go.ChangeShapes Go.ChangeAt
variable [Inhabited Glob]
variable {H : Type} {enc : TypeId × Value → H} {P : Program}
theorem trodAll_stay (hl : laidOutB P = true) {W W' : World} (hb : Below W.heap.size W W') {sp : Nat → Bool} : ∀ {ts : List TypeId} {vs : List Value} {ds : List (DataW H)} {ps : List MemPlace},(∀ t ∈ ts,P.readableRec t = true ∧ t < P.types.size) →
  DataW.TrodAll enc P W 0 (fun _ => true) true ts vs ds ps → (∀ x ∈ ps,x.block < W.heap.size) → (∀ x ∈ ps,sp x.block = true) → DataW.TrodAll enc P W' 0 sp true ts vs ds ps
 | [],[],[],ps,_,h,_,_ => h
 | t :: ts,v :: vs,d :: ds,ps,hr,h,hlt,hsp => by
  obtain ⟨p,q,h1,h2,rfl⟩ := h
  refine ⟨p,q,WideElems.Trod_stays hl (hr t (by simp)).1 (hr t (by simp)).2 h1 (fun x hx => hb.same (hlt x (List.mem_append_left _ hx))) (fun x hx => hsp x (List.mem_append_left _ hx)),
   trodAll_stay hl hb (fun t ht => hr t (List.mem_cons_of_mem _ ht)) h2 (fun x hx => hlt x (List.mem_append_right _ hx)) (fun x hx => hsp x (List.mem_append_right _ hx)),rfl⟩
 | [],_ :: _,_,_,_,h,_,_ => h.elim
 | [],[],_ :: _,_,_,h,_,_ => h.elim
 | _ :: _,[],_,_,_,h,_,_ => h.elim
 | _ :: _,_ :: _,[],_,_,h,_,_ => h.elim
theorem law_post {f : Func} {s : ChangeSpec} {apart fresh handsOn again : Bool} {W W' : World} {args : Array Value} {ds gs : List (DataW H)} {before : List MemPlace} {bt : TypeId}
  (hW : DataW.Whole enc P f.params.toList s.vars apart W args.toList ds gs before) (hvars : s.vars = []) (hres : f.resultTypes = #[bt]) (hbt : P.underlying bt = some .bool)
  (hfn : s.fn H (ds ++ gs) = { results := [.lit (.bool true)],args := ds }) (hl : laidOutB P = true) (hr : ∀ t ∈ f.params.toList,P.readableRec t = true ∧ t < P.types.size) (hb : Below W.heap.size W W') :
  s.post enc P f apart fresh handsOn again W args (.bool true) W' := by
 have hlt : ∀ x ∈ before,x.block < W.heap.size := fun x hx => hW.lt x hx
 obtain ⟨p,q,hA,hV,hbq,hz,hn⟩ := hW
 rw [hvars] at hV
 obtain ⟨rfl,rfl⟩ := trodVars_none hV
 have hbp : before = p := by simpa using hbq
 subst hbp
 have harg : ∀ sp : Nat → Bool,(∀ x ∈ before,sp x.block = true) → DataW.TrodAll enc P W' 0 sp true f.params.toList args.toList ds before := fun sp hsp => trodAll_stay hl hb hr hA hlt hsp
 have hresult : ∀ (b : Nat) (sp : Nat → Bool) (hd : Bool),DataW.TrodAll enc P W' b sp hd f.resultTypes.toList ((Value.bool true).resultList f.resultTypes.size) [.lit (.bool true)] [] := by
  intro b sp hd
  rw [hres]
  exact trodAll_cons_mk (shut_bool hbt _) trodAll_mk0
 have hvar : ∀ sp : Nat → Bool,DataW.TrodVars enc P W' sp s.vars (s.fn H (ds ++ [])).vars [] := by
  intro sp; rw [hvars,hfn]; exact rfl
 refine ⟨ds,[],before,[],before,[],⟨before,[],hA,by rw [hvars]; exact hV,by simp,hz,hn⟩,by rw [hfn]; exact hresult _ _ _,by rw [hfn]; exact harg _ (fun x hx => by simpa using hlt x hx),hvar _,
  World.keptBut_mono (fun x hx => ⟨hx,.inr (by simpa using hx)⟩) (hb.frame (· ∈ before)),fun _ => ?_⟩
 refine ⟨ok_one hres rfl (okWide_bool_mk hbt _),_,_,([] ++ before) ++ [],⟨[] ++ before,[],trodAll_append (harg _ (fun _ _ => rfl)) (hresult _ _ _),hvar _,rfl,fun b off hx => ?_,fun ha => by simpa using hn ha⟩,fun x hx _ => by simpa using hx⟩
 have hin : MemPlace.cell b off ∈ before := by simpa using hx
 rw [hb.frozen (hlt _ hin)]
 exact hz b off hin
theorem calls_true {L : Prog} (hm : P.follows .mixedOrders = true) (hL : LowOk P L) {f n : Nat} {args : List Val} (h : pcall L n f args = some (.bool true)) {S : Nat → Nat → Prop} {w : World} {vals : Array Value} (hS : ∀ b o,S b o → b < w.heap.size) (hg : GlobOk S w)
  (hn : vals.size = args.length) (hv : ∀ i,i < args.length → VR S Gh.none w (args.getD i .dead) (vals.getD i undef)) : Calls P f vals w fun e w' => e = .returned (.bool true) ∧ Below w.heap.size w w' := by
 refine Calls.mono ((pcall_sound hm hL n f args _ h).2 S w vals hS hg hn hv) ?_
 rintro e w' ⟨v,rfl,hb,hr⟩
 have hr' : VR (Gone w S w') Gh.none w' (.bool true) v := hr
 cases hr'
 exact ⟨rfl,hb⟩
end Go.Abs
namespace Go.Abs
def grownQ (P : Program) : Nat → List TypeId → List TypeId
 | 0,s => s
 | d + 1,s => if P.grow s == s then s else grownQ P d (P.grow s)
theorem grown_fix {P : Program} {s : List TypeId} (h : P.grow s = s) : ∀ d,P.grown d s = s
 | 0 => rfl
 | d + 1 => by rw [Program.grown,h]; exact grown_fix h d
theorem grownQ_eq (P : Program) : ∀ (d : Nat) (s : List TypeId),P.grown d s = grownQ P d s
 | 0,s => rfl
 | d + 1,s => by
  rw [grownQ]
  by_cases h : (P.grow s == s) = true
  ·rw [if_pos h]; exact grown_fix (eq_of_beq h) _
  ·rw [if_neg h,Program.grown]; exact grownQ_eq P d _
theorem book_q (P : Program) (t : TypeId) : P.book t = grownQ P P.types.size [t] := grownQ_eq P _ _
end Go.Abs
