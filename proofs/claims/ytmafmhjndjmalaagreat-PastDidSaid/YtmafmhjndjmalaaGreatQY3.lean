import Derived.Test.YtmafmhjndjmalaaGreatQX3
import Derived.Test.YtmafmhjndjmalaaGreatEDd
set_option linter.all false
namespace Go.Proofs.YtmafmhjndjmalaaGreat
open Go.Abs Go.Proofs
theorem did_holds :Rows.PastDidSaid:=bIf bC9
#print axioms did_holds
end Go.Proofs.YtmafmhjndjmalaaGreat
