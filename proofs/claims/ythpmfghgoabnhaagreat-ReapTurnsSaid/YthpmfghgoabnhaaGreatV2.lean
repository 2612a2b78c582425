/- States after turns are as stated: for all programs, states and worlds. -/
import Derived.Test.YthpmfghgoabnhaaGreatW30
import Derived.Test.YthpmfghgoabnhaaGreatW31
import Derived.Test.YthpmfghgoabnhaaGreatKn
set_option linter.all false
namespace Go.Proofs.YthpmfghgoabnhaaGreat
open Go.Abs Go.Proofs
open Go.ChangeShapes Go.WideShapes Go.ChangeAt Go.RowKit
theorem turns_holds : Rows.ReapTurnsSaid :=
  OpenClaim.holds_of_wide 5 Tryz.f5 rfl rfl rfl rfl rfl rfl rfl ⟨rfl, rfl, rfl, rfl, rfl⟩ rfl rfl rfl rfl rfl (by kernel_rfl) Tryz.func5 turns_closed
    (of_decide_eq_true (by kernel_rfl)) (by unfold Func.isWrapper; first | (rw [if_pos (by decide +kernel)]; kernel_rfl) | (rw [if_neg (by decide +kernel)]; exact ⟨rfl, rfl⟩))
    (fun os started H enc _ => turns_lifted known_pc os started H enc)
#print axioms turns_holds
end Go.Proofs.YthpmfghgoabnhaaGreat
