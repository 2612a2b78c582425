/- What is reached, and worlds with some objects alone, are as stated: for all programs, worlds and numbers. -/
import Derived.Test.YthpmfghgoabnhaaGreatW41
import Derived.Test.YthpmfghgoabnhaaGreatW42
import Derived.Test.YthpmfghgoabnhaaGreatKn
set_option linter.all false
namespace Go.Proofs.YthpmfghgoabnhaaGreat
open Go.Abs Go.Proofs
open Go.ChangeShapes Go.WideShapes Go.ChangeAt Go.RowKit
theorem reaches_holds : Rows.ReapReachesSaid :=
  OpenClaim.holds_of_wide 3 Tryz.f3 rfl rfl rfl rfl rfl rfl rfl ⟨rfl, rfl, rfl, rfl, rfl⟩ rfl rfl rfl rfl rfl (by kernel_rfl) Tryz.func3 reaches_closed
    (of_decide_eq_true (by kernel_rfl)) (by unfold Func.isWrapper; first | (rw [if_pos (by decide +kernel)]; kernel_rfl) | (rw [if_neg (by decide +kernel)]; exact ⟨rfl, rfl⟩))
    (fun os started H enc _ => reaches_lifted known_pc os started H enc)
#print axioms reaches_holds
end Go.Proofs.YthpmfghgoabnhaaGreat
