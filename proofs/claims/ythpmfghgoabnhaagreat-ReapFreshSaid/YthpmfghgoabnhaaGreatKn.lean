/- The examples of the chapter, reckoned. -/
import Derived.Test.YthpmfghgoabnhaaGreatCo
import Derived.Test.YthpmfghgoabnhaaGreatHxD
set_option linter.all false
namespace Go.Proofs.YthpmfghgoabnhaaGreat
open Go.Abs Go.Proofs
theorem bBe :PC L 17 [] (.bool true):=bFb (n:=1000) (by kernel_rfl)
end Go.Proofs.YthpmfghgoabnhaaGreat
