/- Which logs are right is as stated: for all programs and logs: the statement. -/
import Derived.Test.YtmnchlhngpdffaaGreatQV1
import Derived.Test.YtmnchlhngpdffaaGreatED
set_option linter.all false
namespace Go.Proofs.YtmnchlhngpdffaaGreat
open Go.Abs Go.Proofs
theorem verifies_holds :Rows.PastVerifiesSaid:=aRs bAb
#print axioms verifies_holds
end Go.Proofs.YtmnchlhngpdffaaGreat
