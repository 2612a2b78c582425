/- After a proposed world states are as defined, and nothing that is reached there goes: for all programs, states, worlds and numbers. -/
import Derived.Test.YthpmfghgoabnhaaGreatM4
import Derived.Test.YthpmfghgoabnhaaGreatW63
import Derived.Test.YthpmfghgoabnhaaGreatKn
set_option linter.all false
namespace Go.Proofs.YthpmfghgoabnhaaGreat
open Go.Abs Go.Proofs
open Go.ChangeShapes Go.WideShapes Go.ChangeAt Go.RowKit
theorem changes_holds : Rows.ReapChangesSaid :=
 OpenClaim.holds_of_wide 12 Tryz.f12 rfl rfl rfl rfl rfl rfl rfl ⟨rfl,rfl,rfl,rfl,rfl⟩ rfl rfl rfl rfl rfl (by kernel_rfl) Tryz.func12 changes_closed
  (of_decide_eq_true (by kernel_rfl)) (by unfold Func.isWrapper; first | (rw [if_pos (by decide +kernel)]; kernel_rfl) | (rw [if_neg (by decide +kernel)]; exact ⟨rfl,rfl⟩))
  (fun os started H enc _ => changes_lifted known_pc os started H enc)
#print axioms changes_holds
end Go.Proofs.YthpmfghgoabnhaaGreat
