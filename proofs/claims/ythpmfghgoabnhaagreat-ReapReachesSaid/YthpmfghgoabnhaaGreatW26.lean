/- States after turns: what they are. -/
import Derived.Test.YthpmfghgoabnhaaGreatW21
set_option linter.all false
namespace Go.Proofs.YthpmfghgoabnhaaGreat
open Go.Abs Go.Proofs
def upto {α : Type} (f g : Nat → α) (n k : Nat) : List α := (List.range (max n k)).map fun i => if i < k then f i else g i
section
variable {α : Type} {f g : Nat → α} {n k : Nat}
theorem upto_len : (upto f g n k).length = max n k := by simp [upto]
theorem upto_zero : upto f g n 0 = (List.range n).map g := by simp [upto]
theorem upto_full (h : n ≤ k) : upto f g n k = (List.range k).map f := by
  unfold upto
  rw [Nat.max_eq_right h]
  refine List.map_congr_left fun i hi => ?_
  rw [if_pos (by simpa using hi)]
theorem upto_get (h : k < n) : (upto f g n k)[k]? = some (g k) := by
  have : k < max n k := by omega
  simp [upto, this]
theorem upto_set (h : k < n) : upto f g n (k + 1) = (upto f g n k).set k (f k) := by
  have e : max n (k + 1) = max n k := by omega
  apply List.ext_getElem
  · simp [upto, e]
  · intro i h1 h2
    simp only [List.getElem_set, List.getElem_map, upto, List.getElem_range]
    by_cases hi : k = i
    · subst hi; simp
    · rw [if_neg hi]
      by_cases hi2 : i < k
      · rw [if_pos hi2, if_pos (by omega)]
      · rw [if_neg hi2, if_neg (by omega)]
end
theorem MFrame.eq_iff {a b : MFrame} : decide (a = b) = (decide (a.node = b.node) && decide (a.env = b.env) && decide (a.vals = b.vals)) := by
  cases a; cases b; simp [Bool.and_assoc]
theorem MObj.eq_iff {a b : MObj} : decide (a = b) = (decide (a.form = b.form) && decide (a.n = b.n) && decide (a.vals = b.vals) && decide (a.frames = b.frames)) := by
  cases a; cases b; simp [Bool.and_assoc]
end Go.Proofs.YthpmfghgoabnhaaGreat
