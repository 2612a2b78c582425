/- First states, and which states are as defined, are as stated: for all programs, worlds and states. -/
import Derived.Test.YthpmfghgoabnhaaGreatW24
import Derived.Test.YthpmfghgoabnhaaGreatW25
import Derived.Test.YthpmfghgoabnhaaGreatKn
set_option linter.unusedVariables false
set_option linter.unusedSimpArgs false
namespace Go.Proofs.YthpmfghgoabnhaaGreat
open Go.Abs Go.Proofs
open Go.ChangeShapes Go.WideShapes Go.ChangeAt Go.RowKit
theorem states_holds : Rows.ReapStatesSaid :=
  OpenClaim.holds_of_wide 4 Tryz.f4 rfl rfl rfl rfl rfl rfl rfl ⟨rfl, rfl, rfl, rfl, rfl⟩ rfl rfl rfl rfl rfl (by kernel_rfl) Tryz.func4 states_closed
    (of_decide_eq_true (by kernel_rfl)) (by unfold Func.isWrapper; first | (rw [if_pos (by decide +kernel)]; kernel_rfl) | (rw [if_neg (by decide +kernel)]; exact ⟨rfl, rfl⟩))
    (fun os started H enc _ => states_lifted known_pc os started H enc)
#print axioms states_holds
end Go.Proofs.YthpmfghgoabnhaaGreat
