/- A collector of one's own, and how it goes on to a world. -/
import Derived.Test.YthpmfghgoabnhaaGreatW26
set_option linter.all false
namespace Go.Proofs.YthpmfghgoabnhaaGreat
open Go.Abs Go.Proofs
def MineO (en : En) (v : Val) (size : Nat) (xs : List Val) (t : Nat) : Prop := (v = .cl [] ∧ xs = []) ∨ ∃ g, v = .bl ⟨0, t, g⟩ 0 xs.length ∧ en ⟨0, t, g⟩ = some (.blk size xs false)
end Go.Proofs.YthpmfghgoabnhaaGreat
