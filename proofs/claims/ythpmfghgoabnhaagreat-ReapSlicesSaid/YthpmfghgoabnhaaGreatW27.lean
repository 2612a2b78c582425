/- A collector of one's own, and how it goes on to a world. -/
import Derived.Test.YthpmfghgoabnhaaGreatW26
set_option linter.all false
namespace Go.Proofs.YthpmfghgoabnhaaGreat
open Go.Abs Go.Proofs
def MineO (en : En) (v : Val) (size : Nat) (xs : List Val) (t : Nat) : Prop := (v = .cl [] ∧ xs = []) ∨ ∃ g, v = .bl ⟨0, t, g⟩ 0 xs.length ∧ en ⟨0, t, g⟩ = some (.blk size xs false)
theorem MineO.mine {en : En} {v : Val} {size : Nat} {xs : List Val} {t : Nat} (h : MineO en v size xs t) : Mine en v size xs [t] := by
  rcases h with h | ⟨g, h1, h2⟩
  · exact .inl h
  · exact .inr ⟨t, g, false, h1, h2, by simp⟩
theorem mineO_bl {en : En} {t g n size : Nat} {xs : List Val} (h : en ⟨0, t, g⟩ = some (.blk size xs false)) (hx : n = xs.length) : MineO en (.bl ⟨0, t, g⟩ 0 n) size xs t := .inr ⟨g, by rw [hx], h⟩
theorem apart_own {ws : List W} {d : Nat} {D : List Nat} (h : ∀ w ∈ ws, w.key.n = 0 ∧ (w.key.t = d ∨ w.key.t ∈ D) ∧ ∃ e, w = .ent w.key e) {t' g' : Nat} (ht : t' ≠ d ∧ t' ∉ D) (o n : Nat) : (ws.all fun w => apartWR w (.cells ⟨0, t', g'⟩ o n)) = true := by
  rw [List.all_eq_true]
  intro w hw
  obtain ⟨h1, h2, e, h3⟩ := h w hw
  rw [h3, apart_ew]
  refine decide_eq_true ?_
  intro he
  rw [he] at h2
  rcases h2 with h2 | h2
  · exact ht.1 h2
  · exact ht.2 h2
theorem all_tt {α : Type} {l : List α} : (l.all fun _ => true) = true := by simp
end Go.Proofs.YthpmfghgoabnhaaGreat
