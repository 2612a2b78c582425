/- Copies of lists, of objects and of worlds. -/
import Derived.Test.YthpmfghgoabnhaaGreatW18
set_option linter.all false
namespace Go.Proofs.YthpmfghgoabnhaaGreat
open Go.Abs Go.Proofs
def cloneV (size : Nat) : List Val → Val
  | [] => .cl []
  | x :: xs => .own size (x :: xs)
theorem bin_es {b : Bool} : binVal .eql .slice (.es b) (.es true) = some (.bool b) := (rfl)
theorem bin_fzc {x : Val} {xs : List Val} : binVal .eql .slice (.fz (x :: xs)) (.es true) = some (.bool false) := (rfl)
section
variable {L : Prog} {fr : Nat → Val} {en : En} {cnt : Nat → Nat → Nat} {Q : St → Prop} {l : List LOper} {d size : Nat} {x y : Opd}
theorem w_append_es {b : Bool} (hx : St.get fr x = .cl []) (hy : St.get fr y = .es b) (k : WOps L l ⟨setFr fr d (.cl []), en, cnt⟩ Q) : WOps L (⟨some d, .append size x y, none⟩ :: l) ⟨fr, en, cnt⟩ Q := by
  rw [w_gen (by rfl)]
  simp only [Option.getD_some, evalW, eval, hx, hy, elemsOf, headOk, if_true, List.isEmpty_nil, wput_some, applyAll_nil]
  exact k
theorem w_append_new {z : Val} {zs : List Val} (hx : St.get fr x = .cl []) (hy : St.get fr y = .fz (z :: zs)) (h1 : headOk size (z :: zs) = true) (hl : (z :: zs).length ≤ 16777216)
    (k : WOps L l ⟨setFr fr d (.bl ⟨0, d, cnt 0 d⟩ 0 (z :: zs).length), en.set ⟨0, d, cnt 0 d⟩ (some (.blk size (z :: zs) false)), setCnt cnt 0 d (cnt 0 d + 1)⟩ Q) : WOps L (⟨some d, .append size x y, none⟩ :: l) ⟨fr, en, cnt⟩ Q := by
  rw [w_gen (by rfl)]
  have he : elemsOf en (.fz (z :: zs)) = some (z :: zs, []) := elems_fz
  simp only [Option.getD_some, evalW, eval, hx, hy, he, h1, if_true, List.isEmpty_cons, Bool.false_eq_true, if_false]
  rw [if_pos ⟨by simpa using hl, rfl⟩]
  simp only [wput_bump, applyAll_cons, applyAll_nil, apply_ent, List.length_nil, Nat.zero_add, List.nil_append]
  exact k
end
theorem Clone_int_pc (xs : List Val) (h1 : headOk 1 xs = true) (hl : xs.length ≤ 16777216) : PC L F.slices_Clone_s_int_int [.fz xs] (cloneV 1 xs) := by
  cases xs with
  | nil =>
    refine pc_amb LF.slices_Clone_s_int_int rfl rfl (.inl rfl) (body_of ?_) (body_of ?_)
    · simp only [go_sem, qC, qG, qW, Nat.reduceEqDiff, Nat.reduceMul, Nat.reduceLeDiff, Nat.reduceAdd, Int.reduceLT, C.slices_Clone_s_int_int, bin_es]
      rfl
    · simp only [go_sem, qC, qG, qW, Nat.reduceEqDiff, Nat.reduceMul, Nat.reduceLeDiff, Nat.reduceAdd, Int.reduceLT, C.slices_Clone_s_int_int, bin_es]
      refine w_append_es (b := false) (by simp only [go_sem, Nat.reduceEqDiff, Nat.reduceMul, Nat.reduceLeDiff, Nat.reduceAdd, Int.reduceLT]) (by simp only [go_sem, Nat.reduceEqDiff, Nat.reduceMul, Nat.reduceLeDiff, Nat.reduceAdd, Int.reduceLT]) ?_
      simp only [go_sem, qC, qG, qW, Nat.reduceEqDiff, Nat.reduceMul, Nat.reduceLeDiff, Nat.reduceAdd, Int.reduceLT]
      rfl
  | cons x xs =>
    refine pc_of LF.slices_Clone_s_int_int rfl rfl ?_
    simp only [go_sem, qC, qG, qW, Nat.reduceEqDiff, Nat.reduceMul, Nat.reduceLeDiff, Nat.reduceAdd, Int.reduceLT, C.slices_Clone_s_int_int, bin_fzc]
    refine w_append_new (by simp only [go_sem, Nat.reduceEqDiff, Nat.reduceMul, Nat.reduceLeDiff, Nat.reduceAdd, Int.reduceLT]) (by simp only [go_sem, Nat.reduceEqDiff, Nat.reduceMul, Nat.reduceLeDiff, Nat.reduceAdd, Int.reduceLT]) h1 hl ?_
    simp only [go_sem, qC, qG, qW, Nat.reduceEqDiff, Nat.reduceMul, Nat.reduceLeDiff, Nat.reduceAdd, Int.reduceLT]
    rfl
theorem Clone_out_pc (xs : List Val) (h1 : headOk 2 xs = true) (hl : xs.length ≤ 16777216) : PC L F.slices_Clone_s_api_MeanOut_api_MeanOut [.fz xs] (cloneV 2 xs) := by
  cases xs with
  | nil =>
    refine pc_amb LF.slices_Clone_s_api_MeanOut_api_MeanOut rfl rfl (.inl rfl) (body_of ?_) (body_of ?_)
    · simp only [go_sem, qC, qG, qW, Nat.reduceEqDiff, Nat.reduceMul, Nat.reduceLeDiff, Nat.reduceAdd, Int.reduceLT, C.slices_Clone_s_api_MeanOut_api_MeanOut, bin_es]
      rfl
    · simp only [go_sem, qC, qG, qW, Nat.reduceEqDiff, Nat.reduceMul, Nat.reduceLeDiff, Nat.reduceAdd, Int.reduceLT, C.slices_Clone_s_api_MeanOut_api_MeanOut, bin_es]
      refine w_append_es (b := false) (by simp only [go_sem, Nat.reduceEqDiff, Nat.reduceMul, Nat.reduceLeDiff, Nat.reduceAdd, Int.reduceLT]) (by simp only [go_sem, Nat.reduceEqDiff, Nat.reduceMul, Nat.reduceLeDiff, Nat.reduceAdd, Int.reduceLT]) ?_
      simp only [go_sem, qC, qG, qW, Nat.reduceEqDiff, Nat.reduceMul, Nat.reduceLeDiff, Nat.reduceAdd, Int.reduceLT]
      rfl
  | cons x xs =>
    refine pc_of LF.slices_Clone_s_api_MeanOut_api_MeanOut rfl rfl ?_
    simp only [go_sem, qC, qG, qW, Nat.reduceEqDiff, Nat.reduceMul, Nat.reduceLeDiff, Nat.reduceAdd, Int.reduceLT, C.slices_Clone_s_api_MeanOut_api_MeanOut, bin_fzc]
    refine w_append_new (by simp only [go_sem, Nat.reduceEqDiff, Nat.reduceMul, Nat.reduceLeDiff, Nat.reduceAdd, Int.reduceLT]) (by simp only [go_sem, Nat.reduceEqDiff, Nat.reduceMul, Nat.reduceLeDiff, Nat.reduceAdd, Int.reduceLT]) h1 hl ?_
    simp only [go_sem, qC, qG, qW, Nat.reduceEqDiff, Nat.reduceMul, Nat.reduceLeDiff, Nat.reduceAdd, Int.reduceLT]
    rfl
theorem Clone_val_pc (xs : List Val) (h1 : headOk 2 xs = true) (hl : xs.length ≤ 16777216) : PC L F.slices_Clone_s_api_MeanVal_api_MeanVal [.fz xs] (cloneV 2 xs) := by
  cases xs with
  | nil =>
    refine pc_amb LF.slices_Clone_s_api_MeanVal_api_MeanVal rfl rfl (.inl rfl) (body_of ?_) (body_of ?_)
    · simp only [go_sem, qC, qG, qW, Nat.reduceEqDiff, Nat.reduceMul, Nat.reduceLeDiff, Nat.reduceAdd, Int.reduceLT, C.slices_Clone_s_api_MeanVal_api_MeanVal, bin_es]
      rfl
    · simp only [go_sem, qC, qG, qW, Nat.reduceEqDiff, Nat.reduceMul, Nat.reduceLeDiff, Nat.reduceAdd, Int.reduceLT, C.slices_Clone_s_api_MeanVal_api_MeanVal, bin_es]
      refine w_append_es (b := false) (by simp only [go_sem, Nat.reduceEqDiff, Nat.reduceMul, Nat.reduceLeDiff, Nat.reduceAdd, Int.reduceLT]) (by simp only [go_sem, Nat.reduceEqDiff, Nat.reduceMul, Nat.reduceLeDiff, Nat.reduceAdd, Int.reduceLT]) ?_
      simp only [go_sem, qC, qG, qW, Nat.reduceEqDiff, Nat.reduceMul, Nat.reduceLeDiff, Nat.reduceAdd, Int.reduceLT]
      rfl
  | cons x xs =>
    refine pc_of LF.slices_Clone_s_api_MeanVal_api_MeanVal rfl rfl ?_
    simp only [go_sem, qC, qG, qW, Nat.reduceEqDiff, Nat.reduceMul, Nat.reduceLeDiff, Nat.reduceAdd, Int.reduceLT, C.slices_Clone_s_api_MeanVal_api_MeanVal, bin_fzc]
    refine w_append_new (by simp only [go_sem, Nat.reduceEqDiff, Nat.reduceMul, Nat.reduceLeDiff, Nat.reduceAdd, Int.reduceLT]) (by simp only [go_sem, Nat.reduceEqDiff, Nat.reduceMul, Nat.reduceLeDiff, Nat.reduceAdd, Int.reduceLT]) h1 hl ?_
    simp only [go_sem, qC, qG, qW, Nat.reduceEqDiff, Nat.reduceMul, Nat.reduceLeDiff, Nat.reduceAdd, Int.reduceLT]
    rfl
theorem cloneV_ne {size : Nat} {xs : List Val} (h : xs ≠ []) : cloneV size xs = .own size xs := by cases xs <;> first | rfl | exact absurd rfl h
theorem headOk_vals (l : List MVal) : headOk 2 (l.map MVal.enc) = true := by cases l <;> rfl
theorem headOk_outs (l : List MOut) : headOk 2 (l.map MOut.enc) = true := by cases l <;> rfl
theorem headOk_ints (l : List Int) : headOk 1 (l.map (Val.int .i64)) = true := by cases l <;> rfl
end Go.Proofs.YthpmfghgoabnhaaGreat
