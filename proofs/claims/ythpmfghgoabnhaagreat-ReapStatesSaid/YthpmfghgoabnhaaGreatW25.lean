/- First states, and which states are as defined: the row's closed facts. -/
import Derived.Test.YthpmfghgoabnhaaGreatRows
import Derived.Test.YthpmfghgoabnhaaGreatHxE
set_option linter.unusedVariables false
set_option linter.unusedSimpArgs false
namespace Go.Proofs.YthpmfghgoabnhaaGreat
open Go.Abs Go.Proofs
theorem states_closed : joinedFacts Tryz.prog 4 Tryz.f4 Rows.reapStatesSpec Rows.reapStatesRow = true := by
  unfold joinedFacts OpenClaim.veiledFits Program.veiledOwn Program.readableRec Program.loopsFrom Program.mapsRec Program.ifacesRec Program.veiledRec Program.wideKeysFrom
  simp only [book_q]
  kernel_rfl
end Go.Proofs.YthpmfghgoabnhaaGreat
