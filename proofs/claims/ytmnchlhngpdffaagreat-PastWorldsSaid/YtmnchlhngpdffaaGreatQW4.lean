/- Worlds after turns and within them, and events, are as stated: for all programs, logs and numbers: the statement. -/
import Derived.Test.YtmnchlhngpdffaaGreatQV4
import Derived.Test.YtmnchlhngpdffaaGreatED
set_option linter.all false
namespace Go.Proofs.YtmnchlhngpdffaaGreat
open Go.Abs Go.Proofs
theorem worlds_holds :Rows.PastWorldsSaid:=aZ5 aUt
#print axioms worlds_holds
end Go.Proofs.YtmnchlhngpdffaaGreat

