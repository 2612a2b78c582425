/- What turns change: the row's closed facts. -/
import Derived.Test.YthpmfghgoabnhaaGreatRows
import Derived.Test.YthpmfghgoabnhaaGreatHxE
set_option linter.all false
namespace Go.Proofs.YthpmfghgoabnhaaGreat
open Go.Abs Go.Proofs
theorem changes_closed : joinedFacts Tryz.prog 12 Tryz.f12 Rows.reapChangesSpec Rows.reapChangesRow = true := by
 unfold joinedFacts OpenClaim.veiledFits Program.veiledOwn Program.readableRec Program.loopsFrom Program.mapsRec Program.ifacesRec Program.veiledRec Program.wideKeysFrom
 simp only [book_q]
 kernel_rfl
end Go.Proofs.YthpmfghgoabnhaaGreat
