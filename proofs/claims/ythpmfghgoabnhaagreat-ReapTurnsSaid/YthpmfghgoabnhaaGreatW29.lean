/- The law of turns, as a contract. -/
import Derived.Test.YthpmfghgoabnhaaGreatW28
set_option linter.all false
namespace Go.Proofs.YthpmfghgoabnhaaGreat
open Go.Abs Go.Proofs
theorem blank_pc : PC L F.W18_blank [.agg [.fz [], .fz [], .fz [], .fz [], .int .i64 0, .fz [], .fz [], .int .i64 0]] (.bool true) := by
  have hf0 : Few 0 := by unfold Few; omega
  have := W18_blank_pc blankS ⟨⟨hf0, hf0, hf0, hf0, by intro o ho; cases ho⟩, hf0, hf0⟩
  simp only [decide_true] at this
  exact this
theorem W18_ReapTurns_pc (hk : PC L F.W18_known [] (.bool true)) (p : BProg) (s : RState) (w : MWorld) (hp : p.few) (hs : s.few) (hw : w.few) : PC L F.W18_ReapTurns [.agg [.fz (p.nodes.map BNode.enc), .fz (p.funs.map (.int .i64)), .int .i64 p.main, .fz (p.cons.map BCon.enc)], .agg [.fz (s.world.objs.map MObj.enc), .fz (s.world.tasks.map (.int .i64)), .fz (s.world.outs.map MOut.enc), .fz (s.world.ins.map (.int .i64)), .int .i64 s.world.used, .fz (s.ages.map (.int .i64)), .fz (s.marks.map (.int .i64)), .int .i64 s.cycle], .agg [.fz (w.objs.map MObj.enc), .fz (w.tasks.map (.int .i64)), .fz (w.outs.map MOut.enc), .fz (w.ins.map (.int .i64)), .int .i64 w.used]] (.bool true) := by
  refine pc_of LF.W18_ReapTurns rfl rfl ?_
  simp only [go_sem, qC, qG, qW, Nat.reduceEqDiff, Nat.reduceAdd, Nat.reduceLeDiff, Int.reduceToNat, Int.reduceEq, C.W18_ReapTurns, (W18_small_pc p w hp hw).ret]
  refine guardK_split (fun g1 => ?_) (fun g1 => ?_)
  · simp only [go_sem, qC, qG, qW, Nat.reduceEqDiff, Nat.reduceAdd, Nat.reduceLeDiff, Int.reduceToNat, Int.reduceEq, g1, (R18_SmallState_pc s hs).ret]
    refine condK_split (fun g2 => ?_) (fun g2 => ?_)
    · simp only [go_sem, qC, qG, qW, Nat.reduceEqDiff, Nat.reduceAdd, Nat.reduceLeDiff, Int.reduceToNat, Int.reduceEq, hk.ret]
    · have hsm : smallProg p = true ∧ smallWorld w = true := by
        rw [Bool.not_eq_false'] at g1
        simpa using g1
      have hss : smallState s = true := by rw [Bool.not_eq_false'] at g2; exact g2
      have hsw : smallWorld s.world = true := by
        simp only [smallState, Bool.and_eq_true] at hss
        exact hss.1.1
      have hc : p.cons.length ≤ 1000 := by
        have := hsm.1
        simp only [smallProg, Bool.and_eq_true, decide_eq_true_eq] at this
        omega
      have hT := reap_Turned_pc p s w hp hs hw hsm.1 hss hsm.2
      have hst := R18_State_pc p s hp hs hc hsw
      have hwd := R06_World_pc p w hp hw
      have hfo := R18_Follows_pc s.world w hs.1
      by_cases h1 : stateOk p s = true
      · have hfm : formedOk p = true := by
          simp only [stateOk, given, Bool.and_eq_true] at h1
          exact h1.1.1.1
        rw [h1] at hst
        by_cases h2 : worldOk p w = true
        · have hg : given p w = true := by rw [given, hfm, h2]; rfl
          rw [h2] at hwd
          rw [if_pos ⟨h1, hg⟩] at hT
          obtain ⟨l1, l2⟩ := state_lens h1
          by_cases h3 : followsOk s.world w = true
          · have hle := follows_len h3
            rw [if_pos h3] at hT
            rw [h3] at hfo
            have hR := R18_Turned_pc s w hs hw hsm.2 l1 l2 (by omega)
            have hsame := R18_Same_pc (turnedS s w) (turnedS s w) ⟨hw, by simp [turnedS, agesT]; exact hw.objs, by simp [turnedS, marksT]; exact hw.objs⟩
            simp only [decide_true] at hsame
            simp only [turnedS] at hsame
            simp only [go_sem, qC, qG, qW, Nat.reduceEqDiff, Nat.reduceAdd, Nat.reduceLeDiff, Int.reduceToNat, Int.reduceEq, hT.ret, hst.ret, hwd.ret, hfo.ret, hR.ret, hsame.ret, hk.ret]
          · rw [if_neg h3] at hT
            rw [Bool.not_eq_true] at h3
            rw [h3] at hfo
            simp only [go_sem, qC, qG, qW, Nat.reduceEqDiff, Nat.reduceAdd, Nat.reduceLeDiff, Int.reduceToNat, Int.reduceEq, hT.ret, hst.ret, hwd.ret, hfo.ret, blank_pc.ret, hk.ret]
        · have hg : ¬ given p w = true := by rw [given, hfm]; simpa using h2
          rw [if_neg (fun h => hg h.2)] at hT
          rw [Bool.not_eq_true] at h2
          rw [h2] at hwd
          simp only [go_sem, qC, qG, qW, Nat.reduceEqDiff, Nat.reduceAdd, Nat.reduceLeDiff, Int.reduceToNat, Int.reduceEq, hT.ret, hst.ret, hwd.ret, hfo.ret, blank_pc.ret, hk.ret]
      · rw [if_neg (fun h => h1 h.1)] at hT
        rw [Bool.not_eq_true] at h1
        rw [h1] at hst
        simp only [go_sem, qC, qG, qW, Nat.reduceEqDiff, Nat.reduceAdd, Nat.reduceLeDiff, Int.reduceToNat, Int.reduceEq, hT.ret, hst.ret, hwd.ret, hfo.ret, blank_pc.ret, hk.ret]
  · simp only [go_sem, qC, qG, qW, Nat.reduceEqDiff, Nat.reduceAdd, Nat.reduceLeDiff, Int.reduceToNat, Int.reduceEq, g1, hk.ret]
end Go.Proofs.YthpmfghgoabnhaaGreat
