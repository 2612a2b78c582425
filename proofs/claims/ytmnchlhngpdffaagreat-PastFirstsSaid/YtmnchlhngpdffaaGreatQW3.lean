/- Turns of outputs, inputs, objects and conditions are as stated: for all programs, logs, numbers and conditions: the statement. -/
import Derived.Test.YtmnchlhngpdffaaGreatQV3
import Derived.Test.YtmnchlhngpdffaaGreatED
set_option linter.all false
namespace Go.Proofs.YtmnchlhngpdffaaGreat
open Go.Abs Go.Proofs
theorem firsts_holds :Rows.PastFirstsSaid:=aY7 aTt
#print axioms firsts_holds
end Go.Proofs.YtmnchlhngpdffaaGreat

