/- A log has the worlds and events of plain play, whatever its distance of marks is: for all programs, worlds, picks and numbers: the statement. -/
import Derived.Test.YtmafmhjndjmalaaGreatQX1
import Derived.Test.YtmafmhjndjmalaaGreatED
set_option linter.all false
namespace Go.Proofs.YtmafmhjndjmalaaGreat
open Go.Abs Go.Proofs
theorem plays_holds :Rows.PastPlaysSaid:=bE1 aHu
#print axioms plays_holds
end Go.Proofs.YtmafmhjndjmalaaGreat

