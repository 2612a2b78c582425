/- What is garbage when a full cycle begins is gone at its end: for all programs, states and numbers. -/
import Derived.Test.YthpmfghgoabnhaaGreatM6
import Derived.Test.YthpmfghgoabnhaaGreatW94
import Derived.Test.YthpmfghgoabnhaaGreatKn
set_option linter.all false
namespace Go.Proofs.YthpmfghgoabnhaaGreat
open Go.Abs Go.Proofs
open Go.ChangeShapes Go.WideShapes Go.ChangeAt Go.RowKit
theorem fresh_holds :Rows.ReapFreshSaid:=
 OpenClaim.holds_of_wide 13 Tryz.f13 rfl rfl rfl rfl rfl rfl rfl ⟨rfl,rfl,rfl,rfl,rfl⟩ rfl rfl rfl rfl rfl (by kernel_rfl) Tryz.func13 aLy
  (of_decide_eq_true (by kernel_rfl)) (by unfold Func.isWrapper;first|(rw[if_pos (by decide+kernel)];kernel_rfl)|(rw[if_neg (by decide+kernel)];exact⟨rfl,rfl⟩))
  (fun os started H enc _=>aLx bBe os started H enc)
#print axioms fresh_holds
end Go.Proofs.YthpmfghgoabnhaaGreat
