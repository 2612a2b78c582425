/- Copies of lists, of objects and of worlds. -/
import Derived.Test.YthpmfghgoabnhaaGreatW18
set_option linter.all false
namespace Go.Proofs.YthpmfghgoabnhaaGreat
open Go.Abs Go.Proofs
def cloneV (size : Nat) : List Val → Val
  | [] => .cl []
  | x :: xs => .own size (x :: xs)
theorem bin_nilm : binVal .neq .map .nilm .nilm = some (.bool false) := (rfl)
theorem bin_es {b : Bool} : binVal .eql .slice (.es b) (.es true) = some (.bool b) := (rfl)
theorem bin_fzc {x : Val} {xs : List Val} : binVal .eql .slice (.fz (x :: xs)) (.es true) = some (.bool false) := (rfl)
section
variable {L : Prog} {fr : Nat → Val} {en : En} {cnt : Nat → Nat → Nat} {Q : St → Prop} {l : List LOper} {d size : Nat} {x y : Opd}
theorem w_append_es {b : Bool} (hx : St.get fr x = .cl []) (hy : St.get fr y = .es b) (k : WOps L l ⟨setFr fr d (.cl []), en, cnt⟩ Q) : WOps L (⟨some d, .append size x y, none⟩ :: l) ⟨fr, en, cnt⟩ Q := by
  rw [w_gen (by rfl)]
  simp only [Option.getD_some, evalW, eval, hx, hy, elemsOf, headOk, if_true, List.isEmpty_nil, wput_some, applyAll_nil]
  exact k
theorem w_append_new {z : Val} {zs : List Val} (hx : St.get fr x = .cl []) (hy : St.get fr y = .fz (z :: zs)) (h1 : headOk size (z :: zs) = true) (hl : (z :: zs).length ≤ 16777216)
    (k : WOps L l ⟨setFr fr d (.bl ⟨0, d, cnt 0 d⟩ 0 (z :: zs).length), en.set ⟨0, d, cnt 0 d⟩ (some (.blk size (z :: zs) false)), setCnt cnt 0 d (cnt 0 d + 1)⟩ Q) : WOps L (⟨some d, .append size x y, none⟩ :: l) ⟨fr, en, cnt⟩ Q := by
  rw [w_gen (by rfl)]
  have he : elemsOf en (.fz (z :: zs)) = some (z :: zs, []) := elems_fz
  simp only [Option.getD_some, evalW, eval, hx, hy, he, h1, if_true, List.isEmpty_cons, Bool.false_eq_true, if_false]
  rw [if_pos ⟨by simpa using hl, rfl⟩]
  simp only [wput_bump, applyAll_cons, applyAll_nil, apply_ent, List.length_nil, Nat.zero_add, List.nil_append]
  exact k
end
theorem Clone_int_pc (xs : List Val) (h1 : headOk 1 xs = true) (hl : xs.length ≤ 16777216) : PC L F.slices_Clone_s_int_int [.fz xs] (cloneV 1 xs) := by
  cases xs with
  | nil =>
    refine pc_amb LF.slices_Clone_s_int_int rfl rfl (.inl rfl) (body_of ?_) (body_of ?_)
    · simp only [go_sem, qC, qG, qW, C.slices_Clone_s_int_int, bin_es]
      rfl
    · simp only [go_sem, qC, qG, qW, C.slices_Clone_s_int_int, bin_es]
      refine w_append_es (b := false) (by simp only [go_sem, qW]) (by simp only [go_sem, qW]) ?_
      simp only [go_sem, qC, qG, qW]
      rfl
  | cons x xs =>
    refine pc_of LF.slices_Clone_s_int_int rfl rfl ?_
    simp only [go_sem, qC, qG, qW, C.slices_Clone_s_int_int, bin_fzc]
    refine w_append_new (by simp only [go_sem, qW]) (by simp only [go_sem, qW]) h1 hl ?_
    simp only [go_sem, qC, qG, qW]
    rfl
theorem Clone_out_pc (xs : List Val) (h1 : headOk 2 xs = true) (hl : xs.length ≤ 16777216) : PC L F.slices_Clone_s_api_MeanOut_api_MeanOut [.fz xs] (cloneV 2 xs) := by
  cases xs with
  | nil =>
    refine pc_amb LF.slices_Clone_s_api_MeanOut_api_MeanOut rfl rfl (.inl rfl) (body_of ?_) (body_of ?_)
    · simp only [go_sem, qC, qG, qW, C.slices_Clone_s_api_MeanOut_api_MeanOut, bin_es]
      rfl
    · simp only [go_sem, qC, qG, qW, C.slices_Clone_s_api_MeanOut_api_MeanOut, bin_es]
      refine w_append_es (b := false) (by simp only [go_sem, qW]) (by simp only [go_sem, qW]) ?_
      simp only [go_sem, qC, qG, qW]
      rfl
  | cons x xs =>
    refine pc_of LF.slices_Clone_s_api_MeanOut_api_MeanOut rfl rfl ?_
    simp only [go_sem, qC, qG, qW, C.slices_Clone_s_api_MeanOut_api_MeanOut, bin_fzc]
    refine w_append_new (by simp only [go_sem, qW]) (by simp only [go_sem, qW]) h1 hl ?_
    simp only [go_sem, qC, qG, qW]
    rfl
theorem Clone_val_pc (xs : List Val) (h1 : headOk 2 xs = true) (hl : xs.length ≤ 16777216) : PC L F.slices_Clone_s_api_MeanVal_api_MeanVal [.fz xs] (cloneV 2 xs) := by
  cases xs with
  | nil =>
    refine pc_amb LF.slices_Clone_s_api_MeanVal_api_MeanVal rfl rfl (.inl rfl) (body_of ?_) (body_of ?_)
    · simp only [go_sem, qC, qG, qW, C.slices_Clone_s_api_MeanVal_api_MeanVal, bin_es]
      rfl
    · simp only [go_sem, qC, qG, qW, C.slices_Clone_s_api_MeanVal_api_MeanVal, bin_es]
      refine w_append_es (b := false) (by simp only [go_sem, qW]) (by simp only [go_sem, qW]) ?_
      simp only [go_sem, qC, qG, qW]
      rfl
  | cons x xs =>
    refine pc_of LF.slices_Clone_s_api_MeanVal_api_MeanVal rfl rfl ?_
    simp only [go_sem, qC, qG, qW, C.slices_Clone_s_api_MeanVal_api_MeanVal, bin_fzc]
    refine w_append_new (by simp only [go_sem, qW]) (by simp only [go_sem, qW]) h1 hl ?_
    simp only [go_sem, qC, qG, qW]
    rfl
theorem cloneV_ne {size : Nat} {xs : List Val} (h : xs ≠ []) : cloneV size xs = .own size xs := by cases xs <;> first | rfl | exact absurd rfl h
theorem headOk_vals (l : List MVal) : headOk 2 (l.map MVal.enc) = true := by cases l <;> rfl
theorem headOk_outs (l : List MOut) : headOk 2 (l.map MOut.enc) = true := by cases l <;> rfl
theorem headOk_ints (l : List Int) : headOk 1 (l.map (Val.int .i64)) = true := by cases l <;> rfl
theorem renumbered_c1_pc (l : List MVal) (hl : l.length ≤ 16777216) : PC L F.reap_renumbered_c1 [.fz (l.map MVal.enc), .fp [.nilm] 0] (.fz (l.map MVal.enc)) := by
  have hf : Few l.length := by unfold Few; omega
  have hc := Clone_val_pc (l.map MVal.enc) (headOk_vals l) (by simpa using hl)
  refine pc_of LF.reap_renumbered_c1 rfl rfl ?_
  by_cases h0 : l = []
  · subst h0
    have hc0 := Clone_val_pc [] rfl (by simp)
    simp only [go_sem, qC, qG, qW, C.reap_renumbered_c1, List.map_nil, hc0.ret, show cloneV 2 [] = .cl [] from rfl]
    refine wp_for (0) (fun k st => ∃ fr en cnt, st = ⟨fr, en, cnt⟩ ∧ (fr 0 = .cl []) ∧ (fr 8 = .int .i64 0) ∧ (fr 9 = .int .i64 k)) 0 (Nat.zero_le _) ⟨_, _, _, rfl, (by first | (simp only [go_sem, qW]; (try rfl); done) | rfl | simp), (by first | (simp only [go_sem, qW]; (try rfl); done) | rfl | simp), (by first | (simp only [go_sem, qW]; (try rfl); done) | rfl | simp)⟩ ?_
    rintro k st hk ⟨fr, en, cnt, rfl, h0, h8, h9⟩
    simp only [go_sem, qC, qG, qW, h0, h8, h9]
    have : k = 0 := by omega
    subst this
    simp only [go_sem, qC, qG, qW, h0, h8, h9]
  · have h0' : l.map MVal.enc ≠ [] := by simpa using h0
    rw [cloneV_ne h0'] at hc
    simp only [go_sem, qC, qG, qW, C.reap_renumbered_c1, hc.ret]
    refine wp_for (l.length) (fun k st => ∃ fr en cnt, st = ⟨fr, en, cnt⟩ ∧ (fr 0 = .bl ⟨0, 6, 0⟩ 0 l.length) ∧ (en ⟨0, 6, 0⟩ = some (.blk 2 (l.map MVal.enc) false)) ∧ (fr 1 = .fp [.nilm] 0) ∧ (fr 8 = .int .i64 l.length) ∧ (fr 9 = .int .i64 k)) 0 (Nat.zero_le _) ⟨_, _, _, rfl, (by first | (simp only [go_sem, h0, h8, h9]; (try rfl); done) | rfl | simp), (by first | (simp only [go_sem, h0, h8, h9]; (try rfl); done) | rfl | simp), (by first | (simp only [go_sem, h0, h8, h9]; (try rfl); done) | rfl | simp), (by first | (simp only [go_sem, h0, h8, h9]; (try rfl); done) | rfl | simp), (by first | (simp only [go_sem, h0, h8, h9]; (try rfl); done) | rfl | simp)⟩ ?_
    rintro k st hk ⟨fr, en, cnt, rfl, h0, e6, h1, h8, h9⟩
    simp only [go_sem, qC, qG, qW, h0, e6, h1, h8, h9]
    refine condK_split (fun hq => ?_) (fun hq => ?_)
    · have h' : k < l.length := of_decide_eq_true hq
      have hx : (l.map MVal.enc)[k]? = some (MVal.enc l[k]) := by simp [h']
      have hc1 : (0 : Int) ≤ (k : Int) := by omega
      have hc2 : (k : Int) < (l.length : Int) := by omega
      simp only [go_sem, qC, qG, qW, h0, e6, h1, h8, h9, h', hx, hc1, hc2, true_and, and_true, eq_self, if_true, Nat.zero_add, Int.toNat_natCast]
      refine guardK_split (fun hg => ?_) (fun hg => ?_)
      · simp only [go_sem, qC, qG, qW, hg, h0, e6, h1, h8, h9, h', hx, hc1, hc2, true_and, and_true, eq_self, if_true, Nat.zero_add, Int.toNat_natCast]
        try simp only [go_sem, qC, qG, qW, bin_nilm, h0, e6, h1, h8, h9]
        refine ⟨_, _, _, rfl, ?_⟩
        simp only [go_sem, qW, h0, e6, h1, h8, h9, wrap_succ h' hf]
      · simp only [go_sem, qC, qG, qW, hg, h0, e6, h1, h8, h9]
        refine ⟨_, _, _, rfl, ?_⟩
        simp only [go_sem, qW, h0, e6, h1, h8, h9, wrap_succ h' hf]
    · simp only [go_sem, qC, qG, qW, h0, e6, h1, h8, h9, Nat.le_refl, if_true]
      rw [List.take_of_length_le (by simp)]
end Go.Proofs.YthpmfghgoabnhaaGreat
