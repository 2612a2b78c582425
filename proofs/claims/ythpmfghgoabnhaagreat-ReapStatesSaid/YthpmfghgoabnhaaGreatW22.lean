/- The law of first states, as a contract. -/
import Derived.Test.YthpmfghgoabnhaaGreatW21
set_option linter.unusedVariables false
set_option linter.unusedSimpArgs false
namespace Go.Proofs.YthpmfghgoabnhaaGreat
open Go.Abs Go.Proofs

theorem W18_ReapStates_pc (hk : PC L F.W18_known [] (.bool true)) (p : BProg) (w : MWorld) (s : RState) (hp : p.few) (hw : w.few) (hs : s.few) : PC L F.W18_ReapStates [.agg [.fz (p.nodes.map BNode.enc), .fz (p.funs.map (.int .i64)), .int .i64 p.main, .fz (p.cons.map BCon.enc)], .agg [.fz (w.objs.map MObj.enc), .fz (w.tasks.map (.int .i64)), .fz (w.outs.map MOut.enc), .fz (w.ins.map (.int .i64)), .int .i64 w.used], .agg [.fz (s.world.objs.map MObj.enc), .fz (s.world.tasks.map (.int .i64)), .fz (s.world.outs.map MOut.enc), .fz (s.world.ins.map (.int .i64)), .int .i64 s.world.used, .fz (s.ages.map (.int .i64)), .fz (s.marks.map (.int .i64)), .int .i64 s.cycle]] (.bool true) := by
  refine pc_of LF.W18_ReapStates rfl rfl ?_
  simp only [go_sem, qC, qG, qS, qW, Nat.reduceEqDiff, Nat.reduceAdd, Nat.reduceLeDiff, Int.reduceToNat, Int.reduceEq, C.W18_ReapStates, (W18_small_pc p w hp hw).ret]
  refine guardK_split (fun g1 => ?_) (fun g1 => ?_)
  · simp only [go_sem, qC, qG, qS, qW, Nat.reduceEqDiff, Nat.reduceAdd, Nat.reduceLeDiff, Int.reduceToNat, Int.reduceEq, g1, (R18_SmallState_pc s hs).ret]
    refine condK_split (fun g2 => ?_) (fun g2 => ?_)
    · simp only [go_sem, qC, qG, qS, qW, Nat.reduceEqDiff, Nat.reduceAdd, Nat.reduceLeDiff, Int.reduceToNat, Int.reduceEq, hk.ret]
    · have hsm : smallProg p = true ∧ smallWorld w = true := by
        rw [Bool.not_eq_false'] at g1
        simpa using g1
      have hss : smallState s = true := by rw [Bool.not_eq_false'] at g2; exact g2
      have hsw : smallWorld s.world = true := by
        simp only [smallState, Bool.and_eq_true] at hss
        exact hss.1.1
      have hc : p.cons.length ≤ 1000 := by
        have := hsm.1
        simp only [smallProg, Bool.and_eq_true, decide_eq_true_eq] at this
        omega
      have hb := reap_Begin_pc p w hp hw hsm.1 hsm.2
      have hck := reap_Check_pc p s hp hs hsm.1 hsw
      have hst := R18_State_pc p s hp hs hc hsw
      have hwd := R18_World_pc p w hp hw hc
      by_cases hg : given p w = true
      · rw [if_pos hg] at hb
        rw [hg] at hwd
        have hbg := R18_Begin_pc w hw hsm.2 (given_in hg)
        have hsame := R18_Same_pc ⟨w, zeros w.objs.length, marksB lt2 w (zeros w.objs.length) 0, 0⟩ ⟨w, zeros w.objs.length, marksB lt2 w (zeros w.objs.length) 0, 0⟩ ⟨hw, by simp [zeros]; exact hw.objs, by simp [marksB]; exact hw.objs⟩
        simp only [decide_true] at hsame
        by_cases h0 : stateOk p s = true
        · rw [if_pos h0] at hck
          rw [h0] at hst
          simp only [go_sem, qC, qG, qS, qW, Nat.reduceEqDiff, Nat.reduceAdd, Nat.reduceLeDiff, Int.reduceToNat, Int.reduceEq, hb.ret, hck.ret, hst.ret, hwd.ret]
          refine wp_foot ?_
          simp only [go_sem, qC, qG, qS, qW, Nat.reduceEqDiff, Nat.reduceAdd, Nat.reduceLeDiff, Int.reduceToNat, Int.reduceEq, List.all_cons, List.getElem?_cons_zero, List.getElem?_cons_succ, Bool.true_or, Bool.or_true, Option.getD_some, hbg.ret, hsame.ret, hk.ret]
          try rfl
        · rw [if_neg h0] at hck
          rw [Bool.not_eq_true] at h0
          rw [h0] at hst
          simp only [go_sem, qC, qG, qS, qW, Nat.reduceEqDiff, Nat.reduceAdd, Nat.reduceLeDiff, Int.reduceToNat, Int.reduceEq, hb.ret, hck.ret, hst.ret, hwd.ret]
          refine wp_foot ?_
          simp only [go_sem, qC, qG, qS, qW, Nat.reduceEqDiff, Nat.reduceAdd, Nat.reduceLeDiff, Int.reduceToNat, Int.reduceEq, List.all_cons, List.getElem?_cons_zero, List.getElem?_cons_succ, Bool.true_or, Bool.or_true, Option.getD_some, hbg.ret, hsame.ret, hk.ret]
          try rfl
      · rw [if_neg hg] at hb
        rw [Bool.not_eq_true] at hg
        rw [hg] at hwd
        have hbl : PC L F.W18_blank [.agg [.fz [], .fz [], .fz [], .fz [], .int .i64 0, .fz [], .fz [], .int .i64 0]] (.bool true) := by
          have hf0 : Few 0 := by unfold Few; omega
          have := W18_blank_pc blankS ⟨⟨hf0, hf0, hf0, hf0, by intro o ho; cases ho⟩, hf0, hf0⟩
          simp only [decide_true] at this
          exact this
        by_cases h0 : stateOk p s = true
        · rw [if_pos h0] at hck
          rw [h0] at hst
          simp only [go_sem, qC, qG, qS, qW, Nat.reduceEqDiff, Nat.reduceAdd, Nat.reduceLeDiff, Int.reduceToNat, Int.reduceEq, hb.ret, hck.ret, hst.ret, hwd.ret, hbl.ret, hk.ret]
        · rw [if_neg h0] at hck
          rw [Bool.not_eq_true] at h0
          rw [h0] at hst
          simp only [go_sem, qC, qG, qS, qW, Nat.reduceEqDiff, Nat.reduceAdd, Nat.reduceLeDiff, Int.reduceToNat, Int.reduceEq, hb.ret, hck.ret, hst.ret, hwd.ret, hbl.ret, hk.ret]
  · simp only [go_sem, qC, qG, qS, qW, Nat.reduceEqDiff, Nat.reduceAdd, Nat.reduceLeDiff, Int.reduceToNat, Int.reduceEq, g1, hk.ret]
end Go.Proofs.YthpmfghgoabnhaaGreat
