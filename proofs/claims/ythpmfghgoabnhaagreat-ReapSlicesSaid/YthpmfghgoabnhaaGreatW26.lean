/- States after turns: what they are. -/
import Derived.Test.YthpmfghgoabnhaaGreatW21
set_option linter.all false
namespace Go.Proofs.YthpmfghgoabnhaaGreat
open Go.Abs Go.Proofs
section
variable {α : Type} {f g : Nat → α} {n k : Nat}
end
theorem MFrame.eq_iff {a b : MFrame} : decide (a = b) = (decide (a.node = b.node) && decide (a.env = b.env) && decide (a.vals = b.vals)) := by
  cases a; cases b; simp [Bool.and_assoc]
theorem MObj.eq_iff {a b : MObj} : decide (a = b) = (decide (a.form = b.form) && decide (a.n = b.n) && decide (a.vals = b.vals) && decide (a.frames = b.frames)) := by
  cases a; cases b; simp [Bool.and_assoc]
end Go.Proofs.YthpmfghgoabnhaaGreat
