/- Without turns just what is reached is left, and the world is alike: the row's closed facts. -/
import Derived.Test.YthpmfghgoabnhaaGreatRows
import Derived.Test.YthpmfghgoabnhaaGreatHxE
set_option linter.all false
namespace Go.Proofs.YthpmfghgoabnhaaGreat
open Go.Abs Go.Proofs
theorem rests_closed : joinedFacts Tryz.prog 9 Tryz.f9 Rows.reapRestsSpec Rows.reapRestsRow = true := by
 unfold joinedFacts OpenClaim.veiledFits Program.veiledOwn Program.readableRec Program.loopsFrom Program.mapsRec Program.ifacesRec Program.veiledRec Program.wideKeysFrom
 simp only [book_q]
 kernel_rfl
end Go.Proofs.YthpmfghgoabnhaaGreat
