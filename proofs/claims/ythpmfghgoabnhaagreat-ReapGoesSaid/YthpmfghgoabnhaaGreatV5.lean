/- What goes is garbage, and the world without it is what is left: for all programs, states and numbers. -/
import Derived.Test.YthpmfghgoabnhaaGreatM4
import Derived.Test.YthpmfghgoabnhaaGreatW60
import Derived.Test.YthpmfghgoabnhaaGreatKn
set_option linter.all false
namespace Go.Proofs.YthpmfghgoabnhaaGreat
open Go.Abs Go.Proofs
open Go.ChangeShapes Go.WideShapes Go.ChangeAt Go.RowKit
theorem goes_holds : Rows.ReapGoesSaid :=
 OpenClaim.holds_of_wide 11 Tryz.f11 rfl rfl rfl rfl rfl rfl rfl ⟨rfl,rfl,rfl,rfl,rfl⟩ rfl rfl rfl rfl rfl (by kernel_rfl) Tryz.func11 goes_closed
  (of_decide_eq_true (by kernel_rfl)) (by unfold Func.isWrapper; first | (rw [if_pos (by decide +kernel)]; kernel_rfl) | (rw [if_neg (by decide +kernel)]; exact ⟨rfl,rfl⟩))
  (fun os started H enc _ => goes_lifted known_pc os started H enc)
#print axioms goes_holds
end Go.Proofs.YthpmfghgoabnhaaGreat
