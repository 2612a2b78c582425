/- A log that is cut and gets other picks is the one that had them at once: for all programs, worlds, picks and numbers: the statement. -/
import Derived.Test.YtmafmhjndjmalaaGreatQX5
import Derived.Test.YtmafmhjndjmalaaGreatED
set_option linter.all false
namespace Go.Proofs.YtmafmhjndjmalaaGreat
open Go.Abs Go.Proofs
theorem futures_holds :Rows.PastFuturesSaid:=aX2 aHu
#print axioms futures_holds
end Go.Proofs.YtmafmhjndjmalaaGreat

