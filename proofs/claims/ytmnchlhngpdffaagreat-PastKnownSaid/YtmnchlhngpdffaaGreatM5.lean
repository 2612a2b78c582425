/- The examples of chapter 23: the law, reckoned. -/
import Derived.Test.YtmnchlhngpdffaaGreatED
set_option linter.all false
namespace Go.Proofs.YtmnchlhngpdffaaGreat
open Go.Abs Go.Proofs
theorem past_known_pc : PC L F.W23_PastKnown [] (.bool true) := (Knows.nil.add known_pc).pc (n := 20) (by kernel_rfl)
end Go.Proofs.YtmnchlhngpdffaaGreat
