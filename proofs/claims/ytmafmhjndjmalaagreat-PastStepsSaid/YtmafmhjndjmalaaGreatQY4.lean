/- Within a turn worlds follow by steps, one of which is the event: for all programs, worlds, picks and numbers: the statement. -/
import Derived.Test.YtmafmhjndjmalaaGreatQX4
import Derived.Test.YtmafmhjndjmalaaGreatED
set_option linter.all false
namespace Go.Proofs.YtmafmhjndjmalaaGreat
open Go.Abs Go.Proofs
theorem steps_holds :Rows.PastStepsSaid:=bFa aHu
#print axioms steps_holds
end Go.Proofs.YtmafmhjndjmalaaGreat

