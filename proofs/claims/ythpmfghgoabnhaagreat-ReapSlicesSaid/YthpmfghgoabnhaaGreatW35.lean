/- Which objects can be left alone, and numbers: the document's answer. -/
import Derived.Test.YthpmfghgoabnhaaGreatW34
set_option linter.all false
namespace Go.Proofs.YthpmfghgoabnhaaGreat
open Go.Abs Go.Proofs
def memB (keep : List Int) (x : Int) : Bool := keep.any fun y => decide (y = x)
theorem memB_iff {keep : List Int} {x : Int} : memB keep x = true ↔ x ∈ keep := by
  unfold memB; rw [List.any_eq_true]
  exact ⟨fun ⟨y, h, e⟩ => by rw [← of_decide_eq_true e]; exact h, fun h => ⟨x, h, by simp⟩⟩
end Go.Proofs.YthpmfghgoabnhaaGreat
