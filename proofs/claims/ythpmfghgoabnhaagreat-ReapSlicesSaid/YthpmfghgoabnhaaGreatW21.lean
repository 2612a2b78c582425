/- How a collector begins. -/
import Derived.Test.YthpmfghgoabnhaaGreatW16
import Derived.Test.YthpmfghgoabnhaaGreatW20
set_option linter.all false
namespace Go.Proofs.YthpmfghgoabnhaaGreat
open Go.Abs Go.Proofs
def marksTo (m : Nat → Int) (n k : Nat) : List Int := (List.range n).map fun i => if i < k then m i else 0
theorem marksTo_zero (m : Nat → Int) (n : Nat) : (marksTo m n 0).map (Val.int .i64) = List.replicate n (.int .i64 0) := by
  simp [marksTo, List.map_const']
theorem marksTo_len (m : Nat → Int) (n k : Nat) : (marksTo m n k).length = n := by simp [marksTo]
theorem marksTo_get {m : Nat → Int} {n k : Nat} (h : k < n) : ((marksTo m n k).map (Val.int .i64))[k]? = some (.int .i64 0) := by simp [marksTo, h]
theorem marksTo_set {m : Nat → Int} {n k : Nat} : ((marksTo m n k).map (Val.int .i64)).set k (.int .i64 (m k)) = (marksTo m n (k + 1)).map (.int .i64) := by
  apply List.ext_getElem
  · simp [marksTo]
  · intro i h1 h2
    simp only [List.getElem_set, List.getElem_map, marksTo, List.getElem_range]
    by_cases h : k = i
    · subst h; simp
    · rw [if_neg h]
      by_cases hi : i < k
      · rw [if_pos hi, if_pos (by omega)]
      · rw [if_neg hi, if_neg (by omega)]
theorem marksTo_skip {m : Nat → Int} {n k : Nat} (h0 : m k = 0) : marksTo m n (k + 1) = marksTo m n k := by
  unfold marksTo
  refine List.map_congr_left fun i _ => ?_
  by_cases h : i = k
  · subst h; simp [h0]
  · by_cases hi : i < k
    · rw [if_pos hi, if_pos (by omega)]
    · rw [if_neg hi, if_neg (by omega)]
theorem marksTo_full (m : Nat → Int) (n : Nat) : marksTo m n n = (List.range n).map m := by
  unfold marksTo
  refine List.map_congr_left fun i hi => ?_
  rw [if_pos (by simpa using hi)]
theorem mine_fz {en : En} {v : Val} {size : Nat} {xs : List Val} {D : List Nat} (h : Mine en v size xs D) (hx : xs ≠ []) (n : Nat) : ∃ ks, snapD (n + 1) en v = some (.fz xs, ks) := by
  rcases h with ⟨_, h⟩ | ⟨t, g, f, rfl, h2, _⟩
  · exact absurd h hx
  · exact ⟨[⟨0, t, g⟩], by simp [snapD, h2]⟩
end Go.Proofs.YthpmfghgoabnhaaGreat
