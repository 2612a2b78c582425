/- The law of what is reached, as a contract. -/
import Derived.Test.YthpmfghgoabnhaaGreatW39
set_option linter.all false
namespace Go.Proofs.YthpmfghgoabnhaaGreat
open Go.Abs Go.Proofs
theorem W18_none_pc (w : MWorld) (hw : w.few) : PC L F.W18_none [.agg [.fz (w.objs.map MObj.enc), .fz (w.tasks.map (.int .i64)), .fz (w.outs.map MOut.enc), .fz (w.ins.map (.int .i64)), .int .i64 w.used]] (.bool (decide (w = blankW))) := by
  have h2 : PC L F.R06_Same [.agg [.fz (w.objs.map MObj.enc), .fz (w.tasks.map (.int .i64)), .fz (w.outs.map MOut.enc), .fz (w.ins.map (.int .i64)), .int .i64 w.used], .agg [.fz [], .fz [], .fz [], .fz [], .int .i64 0]] (.bool (decide (w = blankW))) := R06_Same_pc w blankW hw
  refine pc_of LF.W18_none rfl rfl ?_
  simp only [go_sem, qC, qG, qW, Nat.reduceEqDiff, Nat.reduceAdd, Nat.reduceLeDiff, C.W18_none, fill_nil, h2.ret]
theorem distinct_mem (w : MWorld) : ∀ (l met : List Int), distinctTasks w met l = true → ∀ t ∈ l, ∃ i : Nat, t = i ∧ i < w.objs.length ∧ isTask (w.obj i) = true
  | [], _, _, t, h => by cases h
  | k :: l, met, hd, t, h => by
    simp only [distinctTasks, Bool.and_eq_true] at hd
    rcases List.mem_cons.1 h with rfl | h
    · have h1 := hd.1.1.1
      simp only [inR, decide_eq_true_eq] at h1
      obtain ⟨j, rfl⟩ := Int.eq_ofNat_of_zero_le h1.1
      exact ⟨j, rfl, by omega, hd.1.1.2⟩
    · exact distinct_mem w l _ hd.2 t h
theorem given_tasks {p : BProg} {w : MWorld} (h : given p w = true) : (∀ t ∈ w.tasks, ∃ i : Nat, t = i ∧ i < w.objs.length ∧ isTask (w.obj i) = true) ∧ ∀ i : Nat, i < w.objs.length → isTask (w.obj i) = true → (i : Int) ∈ w.tasks := by
  have ht : tasksB w = true := by
    simp only [given, worldOk, Bool.and_eq_true] at h
    rw [tasks_same]; exact h.2.1.1.2
  simp only [tasksB, Bool.and_eq_true] at ht
  refine ⟨distinct_mem w _ _ ht.1, fun i hi hk => ?_⟩
  have := ht.2
  simp only [covered, List.all_eq_true] at this
  have h2 := this i (by simpa using hi)
  rw [hk] at h2
  simp only [Bool.not_true, Bool.or_false, List.any_eq_true, decide_eq_true_eq] at h2
  obtain ⟨x, hx, rfl⟩ := h2
  exact hx
theorem movedL_few {keep : List Int} {l : List MVal} (h : Few l.length) : Few (movedL keep l).length := by simpa [movedL] using h
theorem movedO_few {keep : List Int} {o : MObj} (h : o.few) : (movedO keep o).few := by
  refine ⟨movedL_few h.1, by simpa [movedO] using h.2.1, fun f hf => ?_⟩
  obtain ⟨g, hg, rfl⟩ := List.mem_map.1 hf
  have := h.2.2 g hg
  exact ⟨movedL_few this.1, movedL_few this.2⟩
theorem compact_few {w : MWorld} {keep : List Int} (hw : w.few) (hsm : smallWorld w = true) (hk : Few keep.length) (hin : ∀ x ∈ keep, inR x 0 ((w.objs.length : Int) - 1) = true) : (compactW w keep).few := by
  refine ⟨by simpa [compactW] using hk, by simpa [compactW] using hw.tasks, hw.outs, hw.ins, fun o ho => ?_⟩
  obtain ⟨n, hn, rfl⟩ := List.mem_map.1 ho
  exact movedO_few (small_few (smallW_obj hsm _ (obj_mem (hin n hn))))
theorem numsL_few (w : MWorld) (hw : w.few) : Few (numsL (reachL w)).length := by
  have := numsTo_len (reachL w) (reachL w).length
  have h1 : (reachL w).length = w.objs.length := by simp [reachL]
  have h2 := hw.objs
  unfold Few at *
  unfold numsL
  omega
theorem noneW_pc : PC L F.W18_none [.agg [.fz [], .fz [], .fz [], .fz [], .int .i64 0]] (.bool true) := by
  have hf0 : Few 0 := by unfold Few; omega
  have := W18_none_pc blankW ⟨hf0, hf0, hf0, hf0, by intro o ho; cases ho⟩
  simp only [decide_true] at this
  exact this
theorem W18_ReapReaches_pc (hk : PC L F.W18_known [] (.bool true)) (p : BProg) (w : MWorld) (keep : List Int) (hp : p.few) (hw : w.few) (hfk : Few keep.length) : PC L F.W18_ReapReaches [.agg [.fz (p.nodes.map BNode.enc), .fz (p.funs.map (.int .i64)), .int .i64 p.main, .fz (p.cons.map BCon.enc)], .agg [.fz (w.objs.map MObj.enc), .fz (w.tasks.map (.int .i64)), .fz (w.outs.map MOut.enc), .fz (w.ins.map (.int .i64)), .int .i64 w.used], .fz (keep.map (.int .i64))] (.bool true) := by
  refine pc_of LF.W18_ReapReaches rfl rfl ?_
  simp only [go_sem, qC, qG, qW, Nat.reduceEqDiff, Nat.reduceAdd, Nat.reduceLeDiff, C.W18_ReapReaches, (W18_small_pc p w hp hw).ret]
  refine guardK_split (fun g1 => ?_) (fun g1 => ?_)
  · simp only [go_sem, qC, qG, qW, Nat.reduceEqDiff, Nat.reduceAdd, Nat.reduceLeDiff, g1]
    refine condK_split (fun g2 => ?_) (fun g2 => ?_)
    · simp only [go_sem, qC, qG, qW, Nat.reduceEqDiff, Nat.reduceAdd, Nat.reduceLeDiff, hk.ret]
    · have hsm : smallProg p = true ∧ smallWorld w = true := by
        rw [Bool.not_eq_false'] at g1
        simpa using g1
      have hkl : keep.length ≤ 140 := by simp at g2; omega
      have hc : p.cons.length ≤ 1000 := by
        have := hsm.1
        simp only [smallProg, Bool.and_eq_true, decide_eq_true_eq] at this
        omega
      have hR := reap_Reached_pc p w hp hw hsm.1 hsm.2 given_tasks
      have hC := reap_Compact_pc p w keep hp hw hsm.1 hsm.2 hfk (fun hg t ht => by
        obtain ⟨i, h1, h2, h3⟩ := (given_tasks hg).1 t ht
        exact ⟨i, h2, h1, h3⟩)
      have hwd := R18_World_pc p w hp hw hc
      by_cases hg : given p w = true
      · rw [if_pos hg] at hR hC
        rw [hg] at hwd
        have hin : InRange w := fun o ho x hx => given_in hg o ho x ((refs_mem _ _).2 hx)
        have hre := R18_Reached_pc w hw hsm.2 hin
        have hnu := R18_Numbers_pc (reachL w) (by have := (smallW_len hsm.2).1; simp [reachL]; omega)
        have hsi := R06_SameInts_pc (numsL (reachL w)) (numsL (reachL w)) (numsL_few w hw)
        simp only [decide_true] at hsi
        have hri := R18_Rising_pc w keep hw hfk
        have hal := R18_Alone_pc w keep hw hsm.2 hfk
        by_cases h2 : risingOk w.objs.length keep = true
        · rw [if_pos h2] at hC
          rw [h2] at hri
          by_cases h3 : aloneOk w keep = true
          · rw [if_pos h3] at hC
            rw [h3] at hal
            have hin2 := rising_in h2
            have hcp := R18_Compact_pc w keep hw hsm.2 hkl hin2
            have hsame := R06_Same_pc (compactW w keep) (compactW w keep) (compact_few hw hsm.2 hfk hin2)
            simp only [decide_true] at hsame
            simp only [go_sem, qC, qG, qW, Nat.reduceEqDiff, Nat.reduceAdd, Nat.reduceLeDiff, hR.ret, hC.ret, hwd.ret, hre.ret, hnu.ret, hsi.ret, hri.ret, hal.ret]
            refine wp_foot ?_
            simp only [go_sem, qC, qG, qW, Nat.reduceEqDiff, Nat.reduceAdd, Nat.reduceLeDiff, List.all_cons, List.getElem?_cons_zero, List.getElem?_cons_succ, Bool.true_or, Bool.or_true, Option.getD_some, hcp.ret, hsame.ret, hk.ret, Bool.false_eq_true, if_false]
            try rfl
          · rw [if_neg h3] at hC
            rw [Bool.not_eq_true] at h3
            rw [h3] at hal
            simp only [go_sem, qC, qG, qW, Nat.reduceEqDiff, Nat.reduceAdd, Nat.reduceLeDiff, hR.ret, hC.ret, hwd.ret, hre.ret, hnu.ret, hsi.ret, hri.ret, hal.ret, noneW_pc.ret, hk.ret]
        · rw [if_neg h2] at hC
          rw [Bool.not_eq_true] at h2
          rw [h2] at hri
          simp only [go_sem, qC, qG, qW, Nat.reduceEqDiff, Nat.reduceAdd, Nat.reduceLeDiff, hR.ret, hC.ret, hwd.ret, hre.ret, hnu.ret, hsi.ret, hri.ret, noneW_pc.ret, hk.ret]
      · rw [if_neg hg] at hR hC
        rw [Bool.not_eq_true] at hg
        rw [hg] at hwd
        simp only [go_sem, qC, qG, qW, Nat.reduceEqDiff, Nat.reduceAdd, Nat.reduceLeDiff, hR.ret, hC.ret, hwd.ret, noneW_pc.ret, hk.ret]
  · simp only [go_sem, qC, qG, qW, Nat.reduceEqDiff, Nat.reduceAdd, Nat.reduceLeDiff, g1, hk.ret]
end Go.Proofs.YthpmfghgoabnhaaGreat
