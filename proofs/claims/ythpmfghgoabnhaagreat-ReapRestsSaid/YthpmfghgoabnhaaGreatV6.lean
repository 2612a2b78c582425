/- Without turns just what is reached is left, and the world is alike: for all programs, states and numbers. -/
import Derived.Test.YthpmfghgoabnhaaGreatM4
import Derived.Test.YthpmfghgoabnhaaGreatW66
import Derived.Test.YthpmfghgoabnhaaGreatKn
set_option linter.all false
namespace Go.Proofs.YthpmfghgoabnhaaGreat
open Go.Abs Go.Proofs
open Go.ChangeShapes Go.WideShapes Go.ChangeAt Go.RowKit
theorem rests_holds : Rows.ReapRestsSaid :=
 OpenClaim.holds_of_wide 9 Tryz.f9 rfl rfl rfl rfl rfl rfl rfl ⟨rfl,rfl,rfl,rfl,rfl⟩ rfl rfl rfl rfl rfl (by kernel_rfl) Tryz.func9 rests_closed
  (of_decide_eq_true (by kernel_rfl)) (by unfold Func.isWrapper; first | (rw [if_pos (by decide +kernel)]; kernel_rfl) | (rw [if_neg (by decide +kernel)]; exact ⟨rfl,rfl⟩))
  (fun os started H enc _ => rests_lifted known_pc os started H enc)
#print axioms rests_holds
end Go.Proofs.YthpmfghgoabnhaaGreat
