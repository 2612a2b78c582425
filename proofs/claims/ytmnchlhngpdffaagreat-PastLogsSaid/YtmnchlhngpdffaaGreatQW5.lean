/- Logs are checked, begun, added to and cut as stated: for all programs, worlds, logs and numbers: the statement. -/
import Derived.Test.YtmnchlhngpdffaaGreatQV5
import Derived.Test.YtmnchlhngpdffaaGreatED
set_option linter.all false
namespace Go.Proofs.YtmnchlhngpdffaaGreat
open Go.Abs Go.Proofs
theorem logs_holds :Rows.PastLogsSaid:=bFh aUt
#print axioms logs_holds
end Go.Proofs.YtmnchlhngpdffaaGreat

