/- Which objects are reached: the program's answer. -/
import Derived.Test.YthpmfghgoabnhaaGreatW37
set_option linter.all false
namespace Go.Proofs.YthpmfghgoabnhaaGreat
open Go.Abs Go.Proofs
def CutL (en : En) (v : Val) (xs : List Val) (D : List Nat) : Prop :=
  (v = .cl [] ∧ xs = []) ∨ ∃ t g zs, v = .bl ⟨0, t, g⟩ 0 xs.length ∧ en ⟨0, t, g⟩ = some (.blk 1 zs false) ∧ xs.length ≤ zs.length ∧ zs.take xs.length = xs ∧ t ∈ D
theorem CutL.keep {en en' : En} {v : Val} {xs : List Val} {D : List Nat} (h : CutL en v xs D) (k : ∀ t g, t ∈ D → en' ⟨0, t, g⟩ = en ⟨0, t, g⟩) : CutL en' v xs D := by
  rcases h with h | ⟨t, g, zs, h1, h2, h3, h4, h5⟩
  · exact .inl h
  · exact .inr ⟨t, g, zs, h1, by rw [k t g h5]; exact h2, h3, h4, h5⟩
theorem CutL.sub {en : En} {v : Val} {xs : List Val} {D D' : List Nat} (h : CutL en v xs D) (k : ∀ t ∈ D, t ∈ D') : CutL en v xs D' := by
  rcases h with h | ⟨t, g, zs, h1, h2, h3, h4, h5⟩
  · exact .inl h
  · exact .inr ⟨t, g, zs, h1, h2, h3, h4, k t h5⟩
theorem CutL.len {en : En} {v : Val} {xs : List Val} {D : List Nat} (h : CutL en v xs D) : lenOf v = some xs.length := by
  rcases h with ⟨rfl, rfl⟩ | ⟨t, g, zs, rfl, _⟩ <;> rfl
theorem CutL.shape {en : En} {v : Val} {xs : List Val} {D : List Nat} (h : CutL en v xs D) : v.one = true ∧ v.cells = [v] := by
  rcases h with ⟨rfl, _⟩ | ⟨t, g, zs, rfl, _⟩ <;> exact ⟨rfl, rfl⟩
theorem slice_bl {size sz n i : Nat} {k : Key} {kk : IntKind} {en : En} {zs : List Val} {f : Bool} (he : en k = some (.blk sz zs f)) (h : i ≤ n) : opSlice false size en (.bl k 0 n) none (some (.int kk (i : Int))) none = some { v := .bl k 0 i, rs := [.val k] } := by
  simp [opSlice, bound_nat h, bound_no, he]
section
variable {L : Prog} {fr : Nat → Val} {en : En} {cnt : Nat → Nat → Nat} {Q : St → Prop} {l : List LOper} {d : Nat}
theorem w_append_cut {x y : Opd} {xs ys : List Val} {rs : List R} {D : List Nat} (hx : CutL en (St.get fr x) xs D) (hy : elemsOf en (St.get fr y) = some (ys, rs)) (h1 : headOk 1 ys = true) (hl : xs.length + ys.length ≤ 16777216) (hne : ys ≠ [])
    (k : ∀ v en' cnt', CutL en' v (xs ++ ys) (d :: D) → (∀ n t g, n ≠ 0 ∨ (t ≠ d ∧ t ∉ D) → en' ⟨n, t, g⟩ = en ⟨n, t, g⟩) → (∀ n t, t ≠ d → cnt' n t = cnt n t) → WOps L l ⟨setFr fr d v, en', cnt'⟩ Q) :
    WOps L (⟨some d, .append 1 x y, none⟩ :: l) ⟨fr, en, cnt⟩ Q := by
  rw [w_gen (by rfl)]
  simp only [Option.getD_some]
  rcases hx with ⟨hv, rfl⟩ | ⟨t, g, zs, hv, he, hle, htk, ht⟩
  · have hys : ¬ ys.isEmpty = true := by simpa using hne
    simp only [evalW, eval, hy, h1, if_true, hv]
    rw [if_neg hys, if_pos ⟨by simpa using hl, rfl⟩]
    simp only [wput_bump, applyAll_cons, applyAll_nil, apply_ent]
    refine k _ _ _ (.inr ⟨d, cnt 0 d, ys, by simp, by simp [En.set], by simp, by simp, by simp⟩) (fun n t g h => en_ne (fun he => ?_)) (fun n t h => by simp [setCnt, h])
    injection he with h3 h4 h5
    rcases h with h | ⟨h, _⟩
    · exact h h3
    · exact h h4
  · simp only [evalW, eval, hy, h1, if_true, hv, he]
    rw [if_pos ⟨.inr ⟨trivial, by omega⟩, hl, trivial⟩]
    simp only [wput_bump, applyAll_cons, applyAll_nil, apply_ent]
    refine k _ _ _ (.inr ⟨d, cnt 0 d, xs ++ ys, by simp, ?_, by simp, List.take_of_length_le (by simp), by simp⟩) (fun n t' g' h => ?_) (fun n t h => by simp [setCnt, h])
    · simp [En.set, htk]
    · have e1 : (⟨n, t', g'⟩ : Key) ≠ ⟨0, d, cnt 0 d⟩ := by
        intro he; injection he with h3 h4 h5
        rcases h with h | ⟨h, _⟩
        · exact h h3
        · exact h h4
      have e2 : (⟨n, t', g'⟩ : Key) ≠ ⟨0, t, g⟩ := by
        intro he; injection he with h3 h4 h5
        subst h4
        rcases h with h | ⟨_, h⟩
        · exact h h3
        · exact h ht
      rw [en_ne e1, en_ne e2]
end
theorem sum_change {f g : Nat → Nat} {j : Nat} : ∀ n, j < n → (∀ i, i ≠ j → f i = g i) → ((List.range n).map f).sum + g j = ((List.range n).map g).sum + f j
  | 0, h, _ => by omega
  | n + 1, h, he => by
    rw [List.range_succ, List.map_append, List.map_append, List.sum_append, List.sum_append]
    simp only [List.map_cons, List.map_nil, List.sum_cons, List.sum_nil]
    by_cases hj : j < n
    · have := sum_change n hj he
      rw [he n (by omega)]; omega
    · have hjn : j = n := by omega
      subst hjn
      have : (List.range j).map f = (List.range j).map g := List.map_congr_left fun i hi => he i (by simp at hi; omega)
      rw [this]; omega
def weight (w : MWorld) (ks : List Int) : Nat := ((List.range w.objs.length).map fun i => if memB ks (i : Nat) = true then 0 else (refsOf (w.obj (i : Nat))).length).sum
theorem memB_append (ks : List Int) (n x : Int) : memB (ks ++ [n]) x = (memB ks x || decide (n = x)) := by simp [memB, List.any_append]
theorem weight_step (w : MWorld) (ks : List Int) {j : Nat} (hj : j < w.objs.length) (hm : memB ks j = false) : weight w (ks ++ [(j : Int)]) + (refsOf (w.obj j)).length = weight w ks := by
  have := sum_change (f := fun i => if memB (ks ++ [(j : Int)]) (i : Nat) = true then 0 else (refsOf (w.obj (i : Nat))).length) (g := fun i => if memB ks (i : Nat) = true then 0 else (refsOf (w.obj (i : Nat))).length) w.objs.length hj (fun i hi => by
    have : decide ((j : Int) = (i : Int)) = false := by simp; omega
    simp only [memB_append, this, Bool.or_false])
  unfold weight
  simp only [memB_append, decide_true, Bool.or_true, if_true, hm, Bool.false_eq_true, if_false, Nat.add_zero] at this ⊢
  exact this
structure Search (w : MWorld) (ks td : List Int) : Prop where
  met : ∀ x ∈ ks, ∃ i : Nat, x = i ∧ i < w.objs.length ∧ ReachP w i
  todo : ∀ x ∈ td, ∃ i : Nat, x = i ∧ i < w.objs.length ∧ ReachP w i
  tasks : ∀ x ∈ w.tasks, x ∈ ks ∨ x ∈ td
  shut : ∀ n ∈ ks, ∀ x ∈ refsOf (w.obj n), x ∈ ks ∨ x ∈ td
theorem search_end {w : MWorld} {ks : List Int} (h : Search w ks []) (ht : ∀ i : Nat, i < w.objs.length → isTask (w.obj i) = true → (i : Int) ∈ w.tasks) (i : Nat) : memB ks i = reachB w i := by
  rw [Bool.eq_iff_iff, memB_iff, reachB_iff]
  refine ⟨fun hm => ?_, fun hr => ?_⟩
  · obtain ⟨j, hj, _, hr⟩ := h.met _ hm
    have : i = j := by omega
    rw [this]; exact hr
  · induction hr with
    | task hl htk => rcases h.tasks _ (ht _ hl htk) with h | h
                     · exact h
                     · cases h
    | @ref i x hr hx ih =>
      rcases h.shut _ ih _ hx with h' | h'
      · obtain ⟨j, hj, _⟩ := h.met _ h'
        have : ((x.toNat : Nat) : Int) = x := by omega
        rw [this]; exact h'
      · cases h'
theorem search_drop {w : MWorld} {ks td : List Int} {n : Int} (h : Search w ks (td ++ [n])) (hm : n ∈ ks) : Search w ks td := by
  refine ⟨h.met, fun x hx => h.todo x (by simp [hx]), fun x hx => ?_, fun m hm' x hx => ?_⟩
  · rcases h.tasks x hx with h | h
    · exact .inl h
    · rcases List.mem_append.1 h with h | h
      · exact .inr h
      · simp only [List.mem_singleton] at h; rw [h]; exact .inl hm
  · rcases h.shut m hm' x hx with h | h
    · exact .inl h
    · rcases List.mem_append.1 h with h | h
      · exact .inr h
      · simp only [List.mem_singleton] at h; rw [h]; exact .inl hm
theorem search_step {w : MWorld} {ks td : List Int} {n : Int} (h : Search w ks (td ++ [n])) (hin : InRange w) : Search w (ks ++ [n]) (td ++ refsOf (w.obj n)) := by
  obtain ⟨i, rfl, hi, hr⟩ := h.todo n (by simp)
  have split : ∀ x, x ∈ ks ∨ x ∈ td ++ [(i : Int)] → x ∈ ks ++ [(i : Int)] ∨ x ∈ td ++ refsOf (w.obj i) := by
    intro x hx
    rcases hx with h | h
    · exact .inl (by simp [h])
    · rcases List.mem_append.1 h with h | h
      · exact .inr (by simp [h])
      · exact .inl (List.mem_append.2 (.inr h))
  refine ⟨fun x hx => ?_, fun x hx => ?_, fun x hx => split x (h.tasks x hx), fun m hm x hx => ?_⟩
  · rcases List.mem_append.1 hx with hx | hx
    · exact h.met x hx
    · simp only [List.mem_singleton] at hx; exact ⟨i, hx, hi, hr⟩
  · rcases List.mem_append.1 hx with hx | hx
    · exact h.todo x (by simp [hx])
    · have hg : w.obj i ∈ w.objs := by rw [objAt_get hi]; exact List.getElem_mem _
      have hxi := hin _ hg x hx
      simp only [inR, decide_eq_true_eq] at hxi
      exact ⟨x.toNat, by omega, by omega, .ref hr hx⟩
  · rcases List.mem_append.1 hm with hm | hm
    · exact split x (h.shut m hm x hx)
    · simp only [List.mem_singleton] at hm; subst hm
      exact .inr (by simp [hx])
end Go.Proofs.YthpmfghgoabnhaaGreat
