/- First states: the document's answer. -/
import Derived.Test.YthpmfghgoabnhaaGreatW17
set_option linter.all false
namespace Go.Proofs.YthpmfghgoabnhaaGreat
open Go.Abs Go.Proofs
theorem flat_fz {xs cs : List Val} : (Val.agg (.fz xs :: cs)).flat = false := (rfl)
theorem apply_frz {en : En} {k : Key} : W.apply en (.frz k) = (match en k with
    | some e => en.set k (some e.freeze)
    | none => en) := (rfl)
theorem frz_blk {n : Nat} {cs : List Val} {f : Bool} : Ent.freeze (.blk n cs f) = .blk n cs true := (rfl)
theorem frz_box {cs : List Val} {f : Bool} : Ent.freeze (.box cs f) = .box cs true := (rfl)
end Go.Proofs.YthpmfghgoabnhaaGreat
