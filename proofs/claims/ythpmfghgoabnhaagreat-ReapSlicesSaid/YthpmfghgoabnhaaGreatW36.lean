/- Worlds with some objects alone: the program's answer. -/
import Derived.Test.YthpmfghgoabnhaaGreatW35
set_option linter.all false
namespace Go.Proofs.YthpmfghgoabnhaaGreat
open Go.Abs Go.Proofs
end Go.Proofs.YthpmfghgoabnhaaGreat
