/- How a collector begins. -/
import Derived.Test.YthpmfghgoabnhaaGreatW16
import Derived.Test.YthpmfghgoabnhaaGreatW20
set_option linter.all false
namespace Go.Proofs.YthpmfghgoabnhaaGreat
open Go.Abs Go.Proofs
end Go.Proofs.YthpmfghgoabnhaaGreat
