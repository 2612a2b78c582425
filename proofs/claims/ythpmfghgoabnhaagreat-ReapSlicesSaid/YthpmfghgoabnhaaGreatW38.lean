/- Which objects are reached: the program's answer. -/
import Derived.Test.YthpmfghgoabnhaaGreatW37
set_option linter.all false
namespace Go.Proofs.YthpmfghgoabnhaaGreat
open Go.Abs Go.Proofs
def CutL (en : En) (v : Val) (xs : List Val) (D : List Nat) : Prop :=
  (v = .cl [] ∧ xs = []) ∨ ∃ t g zs, v = .bl ⟨0, t, g⟩ 0 xs.length ∧ en ⟨0, t, g⟩ = some (.blk 1 zs false) ∧ xs.length ≤ zs.length ∧ zs.take xs.length = xs ∧ t ∈ D
theorem CutL.keep {en en' : En} {v : Val} {xs : List Val} {D : List Nat} (h : CutL en v xs D) (k : ∀ t g, t ∈ D → en' ⟨0, t, g⟩ = en ⟨0, t, g⟩) : CutL en' v xs D := by
  rcases h with h | ⟨t, g, zs, h1, h2, h3, h4, h5⟩
  · exact .inl h
  · exact .inr ⟨t, g, zs, h1, by rw [k t g h5]; exact h2, h3, h4, h5⟩
theorem CutL.sub {en : En} {v : Val} {xs : List Val} {D D' : List Nat} (h : CutL en v xs D) (k : ∀ t ∈ D, t ∈ D') : CutL en v xs D' := by
  rcases h with h | ⟨t, g, zs, h1, h2, h3, h4, h5⟩
  · exact .inl h
  · exact .inr ⟨t, g, zs, h1, h2, h3, h4, k t h5⟩
theorem CutL.len {en : En} {v : Val} {xs : List Val} {D : List Nat} (h : CutL en v xs D) : lenOf v = some xs.length := by
  rcases h with ⟨rfl, rfl⟩ | ⟨t, g, zs, rfl, _⟩ <;> rfl
theorem CutL.shape {en : En} {v : Val} {xs : List Val} {D : List Nat} (h : CutL en v xs D) : v.one = true ∧ v.cells = [v] := by
  rcases h with ⟨rfl, _⟩ | ⟨t, g, zs, rfl, _⟩ <;> exact ⟨rfl, rfl⟩
section
variable {L : Prog} {fr : Nat → Val} {en : En} {cnt : Nat → Nat → Nat} {Q : St → Prop} {l : List LOper} {d : Nat}
end
theorem sum_change {f g : Nat → Nat} {j : Nat} : ∀ n, j < n → (∀ i, i ≠ j → f i = g i) → ((List.range n).map f).sum + g j = ((List.range n).map g).sum + f j
  | 0, h, _ => by omega
  | n + 1, h, he => by
    rw [List.range_succ, List.map_append, List.map_append, List.sum_append, List.sum_append]
    simp only [List.map_cons, List.map_nil, List.sum_cons, List.sum_nil]
    by_cases hj : j < n
    · have := sum_change n hj he
      rw [he n (by omega)]; omega
    · have hjn : j = n := by omega
      subst hjn
      have : (List.range j).map f = (List.range j).map g := List.map_congr_left fun i hi => he i (by simp at hi; omega)
      rw [this]; omega
theorem memB_append (ks : List Int) (n x : Int) : memB (ks ++ [n]) x = (memB ks x || decide (n = x)) := by simp [memB, List.any_append]
structure Search (w : MWorld) (ks td : List Int) : Prop where
  met : ∀ x ∈ ks, ∃ i : Nat, x = i ∧ i < w.objs.length ∧ ReachP w i
  todo : ∀ x ∈ td, ∃ i : Nat, x = i ∧ i < w.objs.length ∧ ReachP w i
  tasks : ∀ x ∈ w.tasks, x ∈ ks ∨ x ∈ td
  shut : ∀ n ∈ ks, ∀ x ∈ refsOf (w.obj n), x ∈ ks ∨ x ∈ td
end Go.Proofs.YthpmfghgoabnhaaGreat
