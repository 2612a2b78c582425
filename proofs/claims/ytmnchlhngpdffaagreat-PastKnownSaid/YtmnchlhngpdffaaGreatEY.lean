/- The examples of chapter 23: the row's closed facts. -/
import Derived.Test.YtmnchlhngpdffaaGreatRows
import Derived.Test.YtmnchlhngpdffaaGreatHxD
set_option linter.all false
namespace Go.Proofs.YtmnchlhngpdffaaGreat
open Go.Abs Go.Proofs
theorem tame : tameB Tryz.prog (fun g => Nat.blt 2 g && (Nat.blt g 371 || Nat.blt 385 g) && Nat.blt g 396) = true := by kernel_rfl
theorem known_closed : joinedFacts Tryz.prog 7 Tryz.f7 Rows.pastKnownSpec Rows.pastKnownRow = true := by
 obtain ⟨i1,i2⟩ := closure_tame tame (f := 7) rfl
 obtain ⟨u1,u2⟩ := unf_of (closure_step (closure_step (closure_all _ 7).1 Tryz.func7 (by kernel_rfl)) Tryz.func10 (by kernel_rfl)) Tryz.func15 (by kernel_rfl)
 unfold joinedFacts OpenClaim.veiledFits Program.veiledOwn Program.readableRec Program.loopsFrom Program.mapsRec Program.ifacesRec Program.veiledRec Program.wideKeysFrom
 simp only [book_q,i1,i2,u1,u2]
 kernel_rfl
end Go.Proofs.YtmnchlhngpdffaaGreat
