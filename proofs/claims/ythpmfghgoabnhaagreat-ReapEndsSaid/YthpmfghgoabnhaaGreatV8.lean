/- A cycle ends within as many slices as it is told: for all programs, states and numbers. -/
import Derived.Test.YthpmfghgoabnhaaGreatM5
import Derived.Test.YthpmfghgoabnhaaGreatW92
import Derived.Test.YthpmfghgoabnhaaGreatKn
set_option linter.all false
namespace Go.Proofs.YthpmfghgoabnhaaGreat
open Go.Abs Go.Proofs
open Go.ChangeShapes Go.WideShapes Go.ChangeAt Go.RowKit
theorem ends_holds :Rows.ReapEndsSaid:=
 OpenClaim.holds_of_wide 8 Tryz.f8 rfl rfl rfl rfl rfl rfl rfl ⟨rfl,rfl,rfl,rfl,rfl⟩ rfl rfl rfl rfl rfl (by kernel_rfl) Tryz.func8 aNg
  (of_decide_eq_true (by kernel_rfl)) (by unfold Func.isWrapper;first|(rw[if_pos (by decide+kernel)];kernel_rfl)|(rw[if_neg (by decide+kernel)];exact⟨rfl,rfl⟩))
  (fun os started H enc _=>aNf aZi os started H enc)
#print axioms ends_holds
end Go.Proofs.YthpmfghgoabnhaaGreat
