/- A cycle ends within as many slices as it is told: the row's closed facts. -/
import Derived.Test.YthpmfghgoabnhaaGreatRows
import Derived.Test.YthpmfghgoabnhaaGreatHxE
set_option linter.all false
namespace Go.Proofs.YthpmfghgoabnhaaGreat
open Go.Abs Go.Proofs
theorem aNg :joinedFacts Tryz.prog 8 Tryz.f8 Rows.reapEndsSpec Rows.reapEndsRow=true:=by
 unfold joinedFacts OpenClaim.veiledFits Program.veiledOwn Program.readableRec Program.loopsFrom Program.mapsRec Program.ifacesRec Program.veiledRec Program.wideKeysFrom;simp only[bDz]
 kernel_rfl
end Go.Proofs.YthpmfghgoabnhaaGreat
