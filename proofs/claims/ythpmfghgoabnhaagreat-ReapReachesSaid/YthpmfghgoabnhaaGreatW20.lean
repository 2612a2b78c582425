/- Copies of objects. -/
import Derived.Test.YthpmfghgoabnhaaGreatW19
set_option linter.all false
namespace Go.Proofs.YthpmfghgoabnhaaGreat
open Go.Abs Go.Proofs
theorem apart_fv {k k' : Key} : apartWR (.frz k) (.val k') = true := rfl
theorem apart_fc {k k' : Key} {o n : Nat} : apartWR (.frz k) (.cells k' o n) = true := rfl
theorem apart_ff {k k' : Key} : apartWW (.frz k) (.frz k') = true := rfl
theorem apart_fe {k k' : Key} {e : Option Ent} : apartWW (.frz k) (.ent k' e) = decide (k ≠ k') := rfl
theorem apart_fw {k k' : Key} {o : Nat} {vs : List Val} : apartWW (.frz k) (.cells k' o vs) = decide (k ≠ k') := rfl
theorem apart_fl {k k' : Key} : apartWR (.frz k) (.flag k') = decide (k ≠ k') := rfl
theorem apart_cfz {k k' : Key} {o : Nat} {vs : List Val} : apartWW (.cells k o vs) (.frz k') = decide (k ≠ k') := rfl
theorem flat_fz0 {xs : List Val} : (Val.fz xs).flat = false := (rfl)
attribute [go_sem] apart_fv apart_fc apart_ff apart_fe apart_fw apart_fl apart_cfz flat_fz0 flat_fz apply_frz frz_blk frz_box
theorem one_cl {xs : List Val} : (Val.cl xs).one = true := (rfl)
theorem cells_cl {xs : List Val} : (Val.cl xs).cells = [.cl xs] := (rfl)
theorem one_bl {k : Key} {a b : Nat} : (Val.bl k a b).one = true := (rfl)
theorem cells_bl {k : Key} {a b : Nat} : (Val.bl k a b).cells = [.bl k a b] := (rfl)
theorem flat_mo {a b : IntKind} {i j : Int} {xs : List Val} {cs : List Val} : (Val.agg (.int a i :: .int b j :: .fz xs :: cs)).flat = false := (rfl)
theorem mine_bl {en : En} {t g n size : Nat} {xs : List Val} {f : Bool} (h : en ⟨0, t, g⟩ = some (.blk size xs f)) (hx : n = xs.length) : Mine en (.bl ⟨0, t, g⟩ 0 n) size xs [t] := .inr ⟨t, g, f, by rw [hx], h, by simp⟩
theorem clone_cases (size : Nat) (xs : List Val) : (xs = [] ∧ cloneV size xs = .cl []) ∨ (xs ≠ [] ∧ cloneV size xs = .own size xs) := by
  cases xs with
  | nil => exact .inl ⟨rfl, rfl⟩
  | cons x xs => exact .inr ⟨by simp, rfl⟩
theorem take_map_len {α : Type} {f : α → Val} {l : List α} : (l.map f).take l.length = l.map f := List.take_of_length_le (by simp)
theorem smallW_len {w : MWorld} (h : smallWorld w = true) : w.objs.length ≤ 130 ∧ w.tasks.length ≤ 130 ∧ w.outs.length ≤ 110 ∧ w.ins.length ≤ 60 := by
  simp only [smallWorld, Bool.and_eq_true, decide_eq_true_eq] at h
  omega
end Go.Proofs.YthpmfghgoabnhaaGreat
