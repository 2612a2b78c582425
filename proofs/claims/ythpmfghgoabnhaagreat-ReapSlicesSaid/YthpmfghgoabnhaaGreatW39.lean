/- Which objects are reached: the program's answer. -/
import Derived.Test.YthpmfghgoabnhaaGreatW38
set_option linter.all false
namespace Go.Proofs.YthpmfghgoabnhaaGreat
open Go.Abs Go.Proofs
theorem CutL.nil {en : En} {v : Val} {xs : List Val} {D : List Nat} (h : CutL en v xs D) (h0 : xs.length = 0) : xs = [] := List.eq_nil_of_length_eq_zero h0
end Go.Proofs.YthpmfghgoabnhaaGreat
