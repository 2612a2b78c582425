/- Objects of turns, and writers of cells, are as stated: for all programs, logs and numbers: the statement. -/
import Derived.Test.YtmnchlhngpdffaaGreatQV2
import Derived.Test.YtmnchlhngpdffaaGreatED
set_option linter.all false
namespace Go.Proofs.YtmnchlhngpdffaaGreat
open Go.Abs Go.Proofs
theorem writers_holds :Rows.PastWritersSaid:=aVt aTt
#print axioms writers_holds
end Go.Proofs.YtmnchlhngpdffaaGreat

