import Derived.Test.YtmafmhjndjmalaaGreatQX2
import Derived.Test.YtmafmhjndjmalaaGreatED
set_option linter.all false
namespace Go.Proofs.YtmafmhjndjmalaaGreat
open Go.Abs Go.Proofs
theorem wrote_holds :Rows.PastWroteSaid:=bE9 aHu
#print axioms wrote_holds
end Go.Proofs.YtmafmhjndjmalaaGreat

