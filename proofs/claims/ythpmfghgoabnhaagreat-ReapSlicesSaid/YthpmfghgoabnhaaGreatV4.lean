/- States after slices, what goes, and ends of cycles, are as stated: for all programs, states and numbers. -/
import Derived.Test.YthpmfghgoabnhaaGreatW49
import Derived.Test.YthpmfghgoabnhaaGreatW50
import Derived.Test.YthpmfghgoabnhaaGreatKn
set_option linter.all false
namespace Go.Proofs.YthpmfghgoabnhaaGreat
open Go.Abs Go.Proofs
open Go.ChangeShapes Go.WideShapes Go.ChangeAt Go.RowKit
theorem slices_holds : Rows.ReapSlicesSaid :=
  OpenClaim.holds_of_wide 6 Tryz.f6 rfl rfl rfl rfl rfl rfl rfl ⟨rfl, rfl, rfl, rfl, rfl⟩ rfl rfl rfl rfl rfl (by kernel_rfl) Tryz.func6 slices_closed
    (of_decide_eq_true (by kernel_rfl)) (by unfold Func.isWrapper; first | (rw [if_pos (by decide +kernel)]; kernel_rfl) | (rw [if_neg (by decide +kernel)]; exact ⟨rfl, rfl⟩))
    (fun os started H enc _ => slices_lifted known_pc os started H enc)
#print axioms slices_holds
end Go.Proofs.YthpmfghgoabnhaaGreat
