/- What is garbage when a full cycle begins is gone at its end: the row's closed facts. -/
import Derived.Test.YthpmfghgoabnhaaGreatRows
import Derived.Test.YthpmfghgoabnhaaGreatHxE
set_option linter.all false
namespace Go.Proofs.YthpmfghgoabnhaaGreat
open Go.Abs Go.Proofs
theorem aLy :joinedFacts Tryz.prog 13 Tryz.f13 Rows.reapFreshSpec Rows.reapFreshRow=true:=by
 unfold joinedFacts OpenClaim.veiledFits Program.veiledOwn Program.readableRec Program.loopsFrom Program.mapsRec Program.ifacesRec Program.veiledRec Program.wideKeysFrom;simp only[bFv]
 kernel_rfl
end Go.Proofs.YthpmfghgoabnhaaGreat
