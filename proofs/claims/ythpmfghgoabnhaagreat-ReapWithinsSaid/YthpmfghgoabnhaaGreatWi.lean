/- In how many slices a cycle ends. -/
import Derived.Test.YthpmfghgoabnhaaGreatCo
namespace Go.Proofs.YthpmfghgoabnhaaGreat
open Go.Abs Go.Proofs

theorem R18_in_pc (n lo hi : Int) : PC L F.R18_in [.int .i64 n, .int .i64 lo, .int .i64 hi] (.bool (decide (lo ≤ n ∧ n ≤ hi))) := by
  refine pc_of LF.R18_in rfl rfl ?_
  simp only [C.R18_in, go_sem, Nat.reduceEqDiff]
  refine guard_split (fun h => ?_) (fun h => ?_)
  all_goals
    simp only [h, go_sem, Nat.reduceEqDiff]
    simp at h
  · simp [h]
  · simp; omega

theorem R18_Most_pc (n : Int) : PC L F.R18_Most [.int .i64 n] (.bool (decide (1 ≤ n ∧ n ≤ 200))) := by
  refine pc_of LF.R18_Most rfl rfl ?_
  simp only [C.R18_Most, go_sem, Nat.reduceEqDiff, (R18_in_pc _ _ _).ret]

theorem proper_pc (n : Int) : PC L F.reap_proper [.int .i64 n] (.bool (decide (1 ≤ n ∧ n ≤ 200))) := by
  refine pc_of LF.reap_proper rfl rfl ?_
  simp only [C.reap_proper, go_sem, Nat.reduceEqDiff]
  refine guard_split (fun h => ?_) (fun h => ?_)
  all_goals
    simp only [h, go_sem, Nat.reduceEqDiff]
    simp at h
  · simp [h]
  · simp; omega

/-- In how many slices, and the error. -/
def slices (left most turned : Int) : Int × Int :=
  if ¬ (1 ≤ most ∧ most ≤ 200 ∧ 0 ≤ left ∧ left ≤ 1000000000 ∧ 0 ≤ turned ∧ turned ≤ 1000000000) then (0, 2)
  else if most ≤ turned then (0, 7)
  else (max 1 ((left + (most - turned) - 1) / (most - turned)), 0)

theorem wrap_in {n : Int} (h : -9223372036854775808 ≤ n ∧ n ≤ 9223372036854775807) : IntKind.i64.wrap n = n := IntWalk.i64_in n h

theorem R18_Within_pc (left most turned : Int) : PC L F.R18_Within [.int .i64 left, .int .i64 most, .int .i64 turned] (.tup [.int .i64 (slices left most turned).1, .int .i64 (slices left most turned).2]) := by
  refine pc_of LF.R18_Within rfl rfl ?_
  simp only [C.R18_Within, go_sem, Nat.reduceEqDiff, (R18_Most_pc _).ret, (R18_in_pc _ _ _).ret]
  repeat' ((first | refine guard_split (fun h => ?_) (fun h => ?_) | refine wcond_split (fun h => ?_) (fun h => ?_)) <;>
    (try simp only [h, go_sem, Nat.reduceEqDiff, (R18_in_pc _ _ _).ret]))
  all_goals simp only [slices, Val.tup.injEq, List.cons.injEq, Val.int.injEq, true_and, and_true]
  all_goals simp at *
  · rw [if_pos (by omega)]; exact ⟨rfl, rfl⟩
  · rw [if_neg (by omega), if_pos (by omega)]; exact ⟨rfl, rfl⟩
  · rename_i h1 h2 h3
    have e1 : IntKind.i64.wrap (most - turned) = most - turned := wrap_in (by omega)
    have e2 : IntKind.i64.wrap (left + (most - turned)) = left + (most - turned) := wrap_in (by omega)
    have e3 : IntKind.i64.wrap (left + (most - turned) - 1) = left + (most - turned) - 1 := wrap_in (by omega)
    have e4 : (left + (most - turned) - 1).tdiv (most - turned) = (left + (most - turned) - 1) / (most - turned) := Int.tdiv_eq_ediv_of_nonneg (by omega)
    have e5 : 0 ≤ (left + (most - turned) - 1) / (most - turned) := Int.ediv_nonneg (by omega) (by omega)
    have e6 : (left + (most - turned) - 1) / (most - turned) ≤ left + (most - turned) - 1 := Int.ediv_le_self _ (by omega)
    have e7 : IntKind.i64.wrap ((left + (most - turned) - 1) / (most - turned)) = (left + (most - turned) - 1) / (most - turned) := wrap_in (by omega)
    rw [if_neg (by omega), if_neg (by omega), e1]
    simp only [e2, e3, e4, e7, go_sem, Nat.reduceEqDiff, if_neg (show ¬ most - turned = 0 by omega)]
  all_goals (rw [if_pos (by omega)]; exact ⟨rfl, rfl⟩)

theorem w1 : IntKind.i64.wrap 1 = 1 := wrap_in (by omega)
theorem w2 : IntKind.i64.wrap 2 = 2 := wrap_in (by omega)
theorem reap_Within_pc (left most turned : Int) : PC L F.reap_Within [.int .i64 left, .int .i64 most, .int .i64 turned] (.tup [.int .i64 (slices left most turned).1, .int .i64 (slices left most turned).2]) := by
  refine pc_of LF.reap_Within rfl rfl ?_
  simp only [C.reap_Within, go_sem, Nat.reduceEqDiff, Nat.reduceMul, Nat.reduceLeDiff, Nat.reduceAdd, Nat.reduceLT, Int.reduceLT, Int.reduceLE, Int.reduceToNat, Int.reduceAdd, Int.reduceNeg, decide_true, decide_false, Int.cast_ofNat_Int, w1, w2]
  repeat' first
    | ((first | refine guard_split (fun h => ?_) (fun h => ?_) | refine wcond_split (fun h => ?_) (fun h => ?_)) <;>
        (try simp only [h, go_sem, Nat.reduceEqDiff, Nat.reduceMul, Nat.reduceLeDiff, Nat.reduceAdd, Nat.reduceLT, Int.reduceLT, Int.reduceLE, Int.reduceToNat, Int.reduceAdd, Int.reduceNeg, decide_true, decide_false, Int.cast_ofNat_Int, w1, w2, (proper_pc _).ret]))
    | (refine wp_unroll ?_; simp only [go_sem, Nat.reduceEqDiff, Nat.reduceMul, Nat.reduceLeDiff, Nat.reduceAdd, Nat.reduceLT, Int.reduceLT, Int.reduceLE, Int.reduceToNat, Int.reduceAdd, Int.reduceNeg, decide_true, decide_false, Int.cast_ofNat_Int, w1, w2, (proper_pc _).ret])
  all_goals simp only [slices, Val.tup.injEq, List.cons.injEq, Val.int.injEq, true_and, and_true]
  all_goals simp only [Bool.not_eq_eq_eq_not, Bool.not_true, Bool.not_false, decide_eq_true_eq, decide_eq_false_iff_not] at *
  all_goals try (first | (rw [if_pos (by omega)]; exact ⟨rfl, rfl⟩) | (rw [if_neg (by omega), if_pos (by omega)]; exact ⟨rfl, rfl⟩))
  · rename_i h1 h2 h3 h4 h5
    have e1 : IntKind.i64.wrap (most - turned) = most - turned := wrap_in (by omega)
    rw [if_neg (by omega), if_neg (by omega), e1]
    generalize hd : most - turned = k at *
    have e4 : left.tdiv k = left / k := Int.tdiv_eq_ediv_of_nonneg (by omega)
    have hq0 : 0 ≤ left / k := Int.ediv_nonneg (by omega) (by omega)
    have hq1 : left / k ≤ left := Int.ediv_le_self _ (by omega)
    have hm : k * (left / k) + left % k = left := Int.mul_ediv_add_emod left k
    have hr0 : 0 ≤ left % k := Int.emod_nonneg _ (by omega)
    have hr1 : left % k < k := Int.emod_lt_of_pos _ (by omega)
    have e5 : IntKind.i64.wrap (left / k) = left / k := wrap_in (by omega)
    have e7 : left / k * k = k * (left / k) := Int.mul_comm _ _
    have e6 : IntKind.i64.wrap (left / k * k) = left / k * k := wrap_in (by omega)
    have e8 : IntKind.i64.wrap (left / k + 1) = left / k + 1 := wrap_in (by omega)
    have hup : (left + k - 1) / k = if left / k * k < left then left / k + 1 else left / k := by
      split
      · rename_i hlt
        have : left + k - 1 = (left % k - 1) + (left / k + 1) * k := by rw [Int.add_mul]; omega
        rw [this, Int.add_mul_ediv_right _ _ (by omega), Int.ediv_eq_zero_of_lt (by omega) (by omega)]; omega
      · rename_i hge
        have : left + k - 1 = (k - 1) + (left / k) * k := by omega
        rw [this, Int.add_mul_ediv_right _ _ (by omega), Int.ediv_eq_zero_of_lt (by omega) (by omega)]; omega
    rw [hup]
    simp only [e4, e5, e6, if_neg (show ¬ k = 0 by omega), go_sem, Nat.reduceEqDiff, Nat.reduceMul, Nat.reduceLeDiff, Nat.reduceAdd, Nat.reduceLT, Int.reduceLT, Int.reduceLE, Int.reduceToNat, Int.reduceAdd, Int.reduceNeg, decide_true, decide_false, Int.cast_ofNat_Int, w1, w2]
    refine guard_split (fun h => ?_) (fun h => ?_)
    · simp only [h, go_sem, Nat.reduceEqDiff, Nat.reduceMul, Nat.reduceLeDiff, Nat.reduceAdd, Nat.reduceLT, Int.reduceLT, Int.reduceLE, Int.reduceToNat, Int.reduceAdd, Int.reduceNeg, decide_true, decide_false, Int.cast_ofNat_Int, w1, w2]
      refine wcond_split (fun h' => ?_) (fun h' => ?_) <;> simp only [h', e8, go_sem, Nat.reduceEqDiff, Nat.reduceMul, Nat.reduceLeDiff, Nat.reduceAdd, Nat.reduceLT, Int.reduceLT, Int.reduceLE, Int.reduceToNat, Int.reduceAdd, Int.reduceNeg, decide_true, decide_false, Int.cast_ofNat_Int, w1, w2, Val.tup.injEq, List.cons.injEq, Val.int.injEq] <;> simp at h h' <;> rw [if_neg (by omega)] <;> omega
    · simp only [h, e8, go_sem, Nat.reduceEqDiff, Nat.reduceMul, Nat.reduceLeDiff, Nat.reduceAdd, Nat.reduceLT, Int.reduceLT, Int.reduceLE, Int.reduceToNat, Int.reduceAdd, Int.reduceNeg, decide_true, decide_false, Int.cast_ofNat_Int, w1, w2, Val.tup.injEq, List.cons.injEq, Val.int.injEq]
      simp at h
      rw [if_pos (by omega)]; omega
end Go.Proofs.YthpmfghgoabnhaaGreat
