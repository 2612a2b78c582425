/- States after turns: the program's, and the document's answer. -/
import Derived.Test.YthpmfghgoabnhaaGreatW27
set_option linter.all false
namespace Go.Proofs.YthpmfghgoabnhaaGreat
open Go.Abs Go.Proofs
end Go.Proofs.YthpmfghgoabnhaaGreat
