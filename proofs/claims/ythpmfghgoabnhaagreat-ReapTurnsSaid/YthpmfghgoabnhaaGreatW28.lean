/- States after turns: the program's, and the document's answer. -/
import Derived.Test.YthpmfghgoabnhaaGreatW27
set_option linter.all false
namespace Go.Proofs.YthpmfghgoabnhaaGreat
open Go.Abs Go.Proofs
theorem state_lens {p : BProg} {s : RState} (h : stateOk p s = true) : s.ages.length = s.marks.length ∧ s.world.objs.length = s.marks.length := by
  simp only [stateOk, lensOk, Bool.and_eq_true, decide_eq_true_eq] at h
  omega
theorem follows_len {a b : MWorld} (h : followsOk a b = true) : a.objs.length ≤ b.objs.length := by
  simp only [followsOk, Bool.and_eq_true, decide_eq_true_eq] at h
  exact h.1.1.1
theorem reap_Turned_pc (p : BProg) (s : RState) (w : MWorld) (hp : p.few) (hs : s.few) (hw : w.few) (hsp : smallProg p = true) (hss : smallState s = true) (hsw : smallWorld w = true) :
    PC L F.reap_Turned [.agg [.fz (p.nodes.map BNode.enc), .fz (p.funs.map (.int .i64)), .int .i64 p.main, .fz (p.cons.map BCon.enc)], .agg [.fz (s.world.objs.map MObj.enc), .fz (s.world.tasks.map (.int .i64)), .fz (s.world.outs.map MOut.enc), .fz (s.world.ins.map (.int .i64)), .int .i64 s.world.used, .fz (s.ages.map (.int .i64)), .fz (s.marks.map (.int .i64)), .int .i64 s.cycle], .agg [.fz (w.objs.map MObj.enc), .fz (w.tasks.map (.int .i64)), .fz (w.outs.map MOut.enc), .fz (w.ins.map (.int .i64)), .int .i64 w.used]] (if stateOk p s = true ∧ given p w = true then
      (if followsOk s.world w = true then .tup [.agg [.fz (w.objs.map MObj.enc), .fz (w.tasks.map (.int .i64)), .fz (w.outs.map MOut.enc), .fz (w.ins.map (.int .i64)), .int .i64 w.used, .fz ((agesT s w).map (.int .i64)), .fz ((marksT s w).map (.int .i64)), .int .i64 s.cycle], .int .i64 (countT s w w.objs.length : Nat), .int .i64 0]
        else .tup [.agg [.fz [], .fz [], .fz [], .fz [], .int .i64 0, .fz [], .fz [], .int .i64 0], .int .i64 0, .int .i64 7])
      else .tup [.agg [.fz [], .fz [], .fz [], .fz [], .int .i64 0, .fz [], .fz [], .int .i64 0], .int .i64 0, .int .i64 2]) := by
  have hsw1 : smallWorld s.world = true := by
    simp only [smallState, Bool.and_eq_true] at hss
    exact hss.1.1
  have hck := reap_Check_pc p s hp hs hsp hsw1
  have hmc := mean_Check_pc p w hp hw hsp
  refine pc_of LF.reap_Turned rfl rfl ?_
  by_cases h1 : stateOk p s = true
  · rw [if_pos h1] at hck
    by_cases h2 : given p w = true
    · simp only [h2, if_true] at hmc
      rw [if_pos ⟨h1, h2⟩]
      obtain ⟨l1, l2⟩ := state_lens h1
      by_cases h3 : followsOk s.world w = true
      · rw [if_pos h3]
        have hf := reap_follows_pc s.world w hs.1
        rw [h3] at hf
        have hle := follows_len h3
        simp only [go_sem, qC, qG, qW, Nat.reduceEqDiff, Nat.reduceMul, Nat.reduceLeDiff, Nat.reduceAdd, Nat.reduceLT, Int.reduceEq, C.reap_Turned, hck.ret, hmc.ret, hf.ret]
        refine (own_win s hs hss).mono ?_
        rintro v en1 cnt1 ⟨g16, vA, vM, rfl, e16, mA, mM, hfr⟩
        have q3 := hfr 3 0 (by decide) (by decide) (by decide) (by decide)
        have q4 := hfr 4 0 (by decide) (by decide) (by decide) (by decide)
        have q5 := hfr 5 0 (by decide) (by decide) (by decide) (by decide)
        have q6 := hfr 6 0 (by decide) (by decide) (by decide) (by decide)
        simp only [go_sem, qC, qG, qW, Nat.reduceEqDiff, Nat.reduceMul, Nat.reduceLeDiff, Nat.reduceAdd, Nat.reduceLT, Int.reduceEq, q5, (reap_copied_pc w hw hsw).ret]
        refine (turned_win s w hs hw hsw l1 l2 (by omega) e16 mA mM).mono ?_
        rintro v en2 cnt2 ⟨rfl, vA', vM', e16', mA', mM', hfr'⟩
        have r6 := (hfr' 6 0 (by decide) (by decide) (by decide) (by decide) (by decide) (by decide) (by decide)).trans q6
        simp only [go_sem, qC, qG, qW, Nat.reduceEqDiff, Nat.reduceMul, Nat.reduceLeDiff, Nat.reduceAdd, Nat.reduceLT, Int.reduceEq, e16', r6]
        have e' : ∀ t g, ¬ t = 6 → (en2.set ⟨0, 6, 0⟩ (some (.box [.fz (w.objs.map MObj.enc), .fz (w.tasks.map (.int .i64)), .fz (w.outs.map MOut.enc), .fz (w.ins.map (.int .i64)), .int .i64 w.used, vA', vM', .int .i64 s.cycle] false))) ⟨0, t, g⟩ = en2 ⟨0, t, g⟩ := fun t g h => en_ne_t h
        obtain ⟨x1, ks1, a1, a2, _⟩ := (mA'.keep (en' := en2.set ⟨0, 6, 0⟩ (some (.box [.fz (w.objs.map MObj.enc), .fz (w.tasks.map (.int .i64)), .fz (w.outs.map MOut.enc), .fz (w.ins.map (.int .i64)), .int .i64 w.used, vA', vM', .int .i64 s.cycle] false))) fun t g ht => e' t g (by simp at ht; omega)).snap 5
        obtain ⟨x2, ks2, d1, d2, _⟩ := (mM'.keep (en' := en2.set ⟨0, 6, 0⟩ (some (.box [.fz (w.objs.map MObj.enc), .fz (w.tasks.map (.int .i64)), .fz (w.outs.map MOut.enc), .fz (w.ins.map (.int .i64)), .int .i64 w.used, vA', vM', .int .i64 s.cycle] false))) fun t g ht => e' t g (by simp at ht; omega)).snap 5
        simp only [go_sem, qC, qG, qW, Nat.reduceEqDiff, Nat.reduceMul, Nat.reduceLeDiff, Nat.reduceAdd, Nat.reduceLT, Int.reduceEq, a1, a2, d1, d2]
      · rw [if_neg h3]
        have hf := reap_follows_pc s.world w hs.1
        rw [Bool.not_eq_true] at h3
        rw [h3] at hf
        simp only [go_sem, qC, qG, qW, Nat.reduceEqDiff, Nat.reduceMul, Nat.reduceLeDiff, Nat.reduceAdd, Nat.reduceLT, Int.reduceEq, C.reap_Turned, hck.ret, hmc.ret, hf.ret]
    · simp only [h2] at hmc
      rw [if_neg (fun h => h2 h.2)]
      simp only [go_sem, qC, qG, qW, Nat.reduceEqDiff, Nat.reduceMul, Nat.reduceLeDiff, Nat.reduceAdd, Nat.reduceLT, Int.reduceEq, C.reap_Turned, hck.ret, hmc.ret]
  · rw [if_neg h1] at hck
    rw [if_neg (fun h => h1 h.1)]
    simp only [go_sem, qC, qG, qW, Nat.reduceEqDiff, Nat.reduceMul, Nat.reduceLeDiff, Nat.reduceAdd, Nat.reduceLT, Int.reduceEq, C.reap_Turned, hck.ret]
theorem R18_Turned_pc (s : RState) (w : MWorld) (hs : s.few) (hw : w.few) (hsm : smallWorld w = true) (hA : s.ages.length = s.marks.length) (hM : s.world.objs.length = s.marks.length) (hle : s.marks.length ≤ w.objs.length) :
    PC L F.R18_Turned [.agg [.fz (s.world.objs.map MObj.enc), .fz (s.world.tasks.map (.int .i64)), .fz (s.world.outs.map MOut.enc), .fz (s.world.ins.map (.int .i64)), .int .i64 s.world.used, .fz (s.ages.map (.int .i64)), .fz (s.marks.map (.int .i64)), .int .i64 s.cycle], .agg [.fz (w.objs.map MObj.enc), .fz (w.tasks.map (.int .i64)), .fz (w.outs.map MOut.enc), .fz (w.ins.map (.int .i64)), .int .i64 w.used]] (.tup [.agg [.fz (w.objs.map MObj.enc), .fz (w.tasks.map (.int .i64)), .fz (w.outs.map MOut.enc), .fz (w.ins.map (.int .i64)), .int .i64 w.used, .fz ((agesT s w).map (.int .i64)), .fz ((marksT s w).map (.int .i64)), .int .i64 s.cycle], .int .i64 (countT s w w.objs.length : Nat)]) := by
  obtain ⟨b1, b2, b3, b4⟩ := smallW_len hsm
  refine pc_of LF.R18_Turned rfl rfl ?_
  simp only [go_sem, qC, qG, qW, Nat.reduceEqDiff, Nat.reduceMul, Nat.reduceLeDiff, Nat.reduceAdd, Nat.reduceLT, Int.reduceEq, C.R18_Turned]
  refine wp_for w.objs.length (fun k st => ∃ fr en cnt vA vM, st = ⟨fr, en, cnt⟩ ∧ fr 2 = .ptr ⟨0, 2, 0⟩ 0 ∧ en ⟨0, 2, 0⟩ = some (.box [.fz (s.world.objs.map MObj.enc), .fz (s.world.tasks.map (.int .i64)), .fz (s.world.outs.map MOut.enc), .fz (s.world.ins.map (.int .i64)), .int .i64 s.world.used, .fz (s.ages.map (.int .i64)), .fz (s.marks.map (.int .i64)), .int .i64 s.cycle] false) ∧ fr 3 = .ptr ⟨0, 3, 0⟩ 0 ∧ en ⟨0, 3, 0⟩ = some (.box [.fz (w.objs.map MObj.enc), .fz (w.tasks.map (.int .i64)), .fz (w.outs.map MOut.enc), .fz (w.ins.map (.int .i64)), .int .i64 w.used] false) ∧ fr 4 = .ptr ⟨0, 4, 0⟩ 0 ∧ en ⟨0, 4, 0⟩ = some (.box [.cl [], .cl [], .cl [], .cl [], .int .i64 0, .cl [], .cl [], .int .i64 0] false) ∧ fr 6 = .ptr ⟨0, 6, 0⟩ 0 ∧ en ⟨0, 6, 0⟩ = some (.box [.fz (w.objs.map MObj.enc), .fz (w.tasks.map (.int .i64)), .fz (w.outs.map MOut.enc), .fz (w.ins.map (.int .i64)), .int .i64 w.used, vA, vM, .int .i64 s.cycle] false) ∧
    fr 7 = .int .i64 (countT s w k : Nat) ∧ fr 8 = .int .i64 k ∧ Mine en vA 1 (((List.range k).map (ageT s)).map (.int .i64)) [62] ∧ Mine en vM 1 (((List.range k).map (markT s w)).map (.int .i64)) [67]) 0 (Nat.zero_le _)
    ⟨_, _, _, .cl [], .cl [], rfl, by simp only [go_sem, Nat.reduceEqDiff, Nat.reduceMul, Nat.reduceLeDiff, Nat.reduceAdd, Nat.reduceLT, Int.reduceEq], by simp only [go_sem, Nat.reduceEqDiff, Nat.reduceMul, Nat.reduceLeDiff, Nat.reduceAdd, Nat.reduceLT, Int.reduceEq], by simp only [go_sem, Nat.reduceEqDiff, Nat.reduceMul, Nat.reduceLeDiff, Nat.reduceAdd, Nat.reduceLT, Int.reduceEq], by simp only [go_sem, Nat.reduceEqDiff, Nat.reduceMul, Nat.reduceLeDiff, Nat.reduceAdd, Nat.reduceLT, Int.reduceEq], by simp only [go_sem, Nat.reduceEqDiff, Nat.reduceMul, Nat.reduceLeDiff, Nat.reduceAdd, Nat.reduceLT, Int.reduceEq], by simp only [go_sem, Nat.reduceEqDiff, Nat.reduceMul, Nat.reduceLeDiff, Nat.reduceAdd, Nat.reduceLT, Int.reduceEq], by simp only [go_sem, Nat.reduceEqDiff, Nat.reduceMul, Nat.reduceLeDiff, Nat.reduceAdd, Nat.reduceLT, Int.reduceEq], by simp only [go_sem, Nat.reduceEqDiff, Nat.reduceMul, Nat.reduceLeDiff, Nat.reduceAdd, Nat.reduceLT, Int.reduceEq], by simp only [go_sem, Nat.reduceEqDiff, Nat.reduceMul, Nat.reduceLeDiff, Nat.reduceAdd, Nat.reduceLT, Int.reduceEq]; rfl, by simp only [go_sem, Nat.reduceEqDiff, Nat.reduceMul, Nat.reduceLeDiff, Nat.reduceAdd, Nat.reduceLT, Int.reduceEq], Mine.nil _ _, Mine.nil _ _⟩ ?_
  rintro k st hk ⟨fr, en, cnt, vA, vM, rfl, h2, e2, h3, e3, h4, e4, h6, e6, h7, h8, mA, mM⟩
  simp only [go_sem, qC, qG, qW, Nat.reduceEqDiff, Nat.reduceMul, Nat.reduceLeDiff, Nat.reduceAdd, Nat.reduceLT, Int.reduceEq, h2, e2, h3, e3, h4, e4, h6, e6, h7, h8]
  refine condK_split (fun hq => ?_) (fun hq => ?_)
  · have h' : k < w.objs.length := of_decide_eq_true hq
    have hcw : Few (countT s w k + 1) := by have := countT_le s w k; unfold Few; omega
    have hst := countT_step s w k
    refine wops_cut (fun st => (st.fr 2 = .ptr ⟨0, 2, 0⟩ 0) ∧ (st.en ⟨0, 2, 0⟩ = some (.box [.fz (s.world.objs.map MObj.enc), .fz (s.world.tasks.map (.int .i64)), .fz (s.world.outs.map MOut.enc), .fz (s.world.ins.map (.int .i64)), .int .i64 s.world.used, .fz (s.ages.map (.int .i64)), .fz (s.marks.map (.int .i64)), .int .i64 s.cycle] false)) ∧ (st.fr 3 = .ptr ⟨0, 3, 0⟩ 0) ∧ (st.en ⟨0, 3, 0⟩ = some (.box [.fz (w.objs.map MObj.enc), .fz (w.tasks.map (.int .i64)), .fz (w.outs.map MOut.enc), .fz (w.ins.map (.int .i64)), .int .i64 w.used] false)) ∧ (st.fr 4 = .ptr ⟨0, 4, 0⟩ 0) ∧ (st.en ⟨0, 4, 0⟩ = some (.box [.cl [], .cl [], .cl [], .cl [], .int .i64 0, .cl [], .cl [], .int .i64 0] false)) ∧ (st.fr 6 = .ptr ⟨0, 6, 0⟩ 0) ∧ (st.en ⟨0, 6, 0⟩ = some (.box [.fz (w.objs.map MObj.enc), .fz (w.tasks.map (.int .i64)), .fz (w.outs.map MOut.enc), .fz (w.ins.map (.int .i64)), .int .i64 w.used, vA, vM, .int .i64 s.cycle] false)) ∧ (st.fr 7 = .int .i64 (countT s w k : Nat)) ∧ (st.fr 8 = .int .i64 k) ∧ (st.fr 9 = .int .i64 0) ∧ (st.fr 10 = .int .i64 1) ∧ (Mine st.en vA 1 (((List.range k).map (ageT s)).map (.int .i64)) [62]) ∧ (Mine st.en vM 1 (((List.range k).map (markT s w)).map (.int .i64)) [67])) ?_ ?_
    · simp only [go_sem, qC, qG, qW, Nat.reduceEqDiff, Nat.reduceMul, Nat.reduceLeDiff, Nat.reduceAdd, Nat.reduceLT, Int.reduceEq, h2, e2, h3, e3, h4, e4, h6, e6, h7, h8]
      exact ⟨mA, mM⟩
    · rintro fr en cnt ⟨(h2 : fr 2 = .ptr ⟨0, 2, 0⟩ 0), (e2 : en ⟨0, 2, 0⟩ = some (.box [.fz (s.world.objs.map MObj.enc), .fz (s.world.tasks.map (.int .i64)), .fz (s.world.outs.map MOut.enc), .fz (s.world.ins.map (.int .i64)), .int .i64 s.world.used, .fz (s.ages.map (.int .i64)), .fz (s.marks.map (.int .i64)), .int .i64 s.cycle] false)), (h3 : fr 3 = .ptr ⟨0, 3, 0⟩ 0), (e3 : en ⟨0, 3, 0⟩ = some (.box [.fz (w.objs.map MObj.enc), .fz (w.tasks.map (.int .i64)), .fz (w.outs.map MOut.enc), .fz (w.ins.map (.int .i64)), .int .i64 w.used] false)), (h4 : fr 4 = .ptr ⟨0, 4, 0⟩ 0), (e4 : en ⟨0, 4, 0⟩ = some (.box [.cl [], .cl [], .cl [], .cl [], .int .i64 0, .cl [], .cl [], .int .i64 0] false)), (h6 : fr 6 = .ptr ⟨0, 6, 0⟩ 0), (e6 : en ⟨0, 6, 0⟩ = some (.box [.fz (w.objs.map MObj.enc), .fz (w.tasks.map (.int .i64)), .fz (w.outs.map MOut.enc), .fz (w.ins.map (.int .i64)), .int .i64 w.used, vA, vM, .int .i64 s.cycle] false)), (h7 : fr 7 = .int .i64 (countT s w k : Nat)), (h8 : fr 8 = .int .i64 k), (h9 : fr 9 = .int .i64 0), (h10 : fr 10 = .int .i64 1), (mA : Mine en vA 1 (((List.range k).map (ageT s)).map (.int .i64)) [62]), (mM : Mine en vM 1 (((List.range k).map (markT s w)).map (.int .i64)) [67])⟩
      refine wops_cut (fun st => (st.fr 2 = .ptr ⟨0, 2, 0⟩ 0) ∧ (st.en ⟨0, 2, 0⟩ = some (.box [.fz (s.world.objs.map MObj.enc), .fz (s.world.tasks.map (.int .i64)), .fz (s.world.outs.map MOut.enc), .fz (s.world.ins.map (.int .i64)), .int .i64 s.world.used, .fz (s.ages.map (.int .i64)), .fz (s.marks.map (.int .i64)), .int .i64 s.cycle] false)) ∧ (st.fr 3 = .ptr ⟨0, 3, 0⟩ 0) ∧ (st.en ⟨0, 3, 0⟩ = some (.box [.fz (w.objs.map MObj.enc), .fz (w.tasks.map (.int .i64)), .fz (w.outs.map MOut.enc), .fz (w.ins.map (.int .i64)), .int .i64 w.used] false)) ∧ (st.fr 4 = .ptr ⟨0, 4, 0⟩ 0) ∧ (st.en ⟨0, 4, 0⟩ = some (.box [.cl [], .cl [], .cl [], .cl [], .int .i64 0, .cl [], .cl [], .int .i64 0] false)) ∧ (st.fr 6 = .ptr ⟨0, 6, 0⟩ 0) ∧ (st.en ⟨0, 6, 0⟩ = some (.box [.fz (w.objs.map MObj.enc), .fz (w.tasks.map (.int .i64)), .fz (w.outs.map MOut.enc), .fz (w.ins.map (.int .i64)), .int .i64 w.used, vA, vM, .int .i64 s.cycle] false)) ∧ (st.fr 7 = .int .i64 (countT s w k : Nat)) ∧ (st.fr 8 = .int .i64 k) ∧ (st.fr 9 = .int .i64 0) ∧ (st.fr 10 = .int .i64 1) ∧ (st.fr 26 = .bool (decide (k < s.marks.length))) ∧ (Mine st.en vA 1 (((List.range k).map (ageT s)).map (.int .i64)) [62]) ∧ (Mine st.en vM 1 (((List.range k).map (markT s w)).map (.int .i64)) [67])) ?_ ?_
      · simp only [go_sem, qC, qG, qW, Nat.reduceEqDiff, Nat.reduceMul, Nat.reduceLeDiff, Nat.reduceAdd, Nat.reduceLT, Int.reduceEq, h2, e2, h3, e3, h4, e4, h6, e6, h7, h8, h9, h10]
        exact ⟨mA, mM⟩
      · rintro fr en cnt ⟨(h2 : fr 2 = .ptr ⟨0, 2, 0⟩ 0), (e2 : en ⟨0, 2, 0⟩ = some (.box [.fz (s.world.objs.map MObj.enc), .fz (s.world.tasks.map (.int .i64)), .fz (s.world.outs.map MOut.enc), .fz (s.world.ins.map (.int .i64)), .int .i64 s.world.used, .fz (s.ages.map (.int .i64)), .fz (s.marks.map (.int .i64)), .int .i64 s.cycle] false)), (h3 : fr 3 = .ptr ⟨0, 3, 0⟩ 0), (e3 : en ⟨0, 3, 0⟩ = some (.box [.fz (w.objs.map MObj.enc), .fz (w.tasks.map (.int .i64)), .fz (w.outs.map MOut.enc), .fz (w.ins.map (.int .i64)), .int .i64 w.used] false)), (h4 : fr 4 = .ptr ⟨0, 4, 0⟩ 0), (e4 : en ⟨0, 4, 0⟩ = some (.box [.cl [], .cl [], .cl [], .cl [], .int .i64 0, .cl [], .cl [], .int .i64 0] false)), (h6 : fr 6 = .ptr ⟨0, 6, 0⟩ 0), (e6 : en ⟨0, 6, 0⟩ = some (.box [.fz (w.objs.map MObj.enc), .fz (w.tasks.map (.int .i64)), .fz (w.outs.map MOut.enc), .fz (w.ins.map (.int .i64)), .int .i64 w.used, vA, vM, .int .i64 s.cycle] false)), (h7 : fr 7 = .int .i64 (countT s w k : Nat)), (h8 : fr 8 = .int .i64 k), (h9 : fr 9 = .int .i64 0), (h10 : fr 10 = .int .i64 1), (h26 : fr 26 = .bool (decide (k < s.marks.length))), (mA : Mine en vA 1 (((List.range k).map (ageT s)).map (.int .i64)) [62]), (mM : Mine en vM 1 (((List.range k).map (markT s w)).map (.int .i64)) [67])⟩
        refine wp_cutE (fun st => (st.fr 2 = .ptr ⟨0, 2, 0⟩ 0) ∧ (st.en ⟨0, 2, 0⟩ = some (.box [.fz (s.world.objs.map MObj.enc), .fz (s.world.tasks.map (.int .i64)), .fz (s.world.outs.map MOut.enc), .fz (s.world.ins.map (.int .i64)), .int .i64 s.world.used, .fz (s.ages.map (.int .i64)), .fz (s.marks.map (.int .i64)), .int .i64 s.cycle] false)) ∧ (st.fr 3 = .ptr ⟨0, 3, 0⟩ 0) ∧ (st.en ⟨0, 3, 0⟩ = some (.box [.fz (w.objs.map MObj.enc), .fz (w.tasks.map (.int .i64)), .fz (w.outs.map MOut.enc), .fz (w.ins.map (.int .i64)), .int .i64 w.used] false)) ∧ (st.fr 4 = .ptr ⟨0, 4, 0⟩ 0) ∧ (st.en ⟨0, 4, 0⟩ = some (.box [.cl [], .cl [], .cl [], .cl [], .int .i64 0, .cl [], .cl [], .int .i64 0] false)) ∧ (st.fr 6 = .ptr ⟨0, 6, 0⟩ 0) ∧ (st.en ⟨0, 6, 0⟩ = some (.box [.fz (w.objs.map MObj.enc), .fz (w.tasks.map (.int .i64)), .fz (w.outs.map MOut.enc), .fz (w.ins.map (.int .i64)), .int .i64 w.used, vA, vM, .int .i64 s.cycle] false)) ∧ (st.fr 7 = .int .i64 (countT s w (k + 1) : Nat)) ∧ (st.fr 8 = .int .i64 k) ∧ (st.fr 9 = .int .i64 (ageT s k)) ∧ (st.fr 10 = .int .i64 (markT s w k)) ∧ (Mine st.en vA 1 (((List.range k).map (ageT s)).map (.int .i64)) [62]) ∧ (Mine st.en vM 1 (((List.range k).map (markT s w)).map (.int .i64)) [67])) ?_ ?_
        · simp only [go_sem, qC, qG, qW, Nat.reduceEqDiff, Nat.reduceMul, Nat.reduceLeDiff, Nat.reduceAdd, Nat.reduceLT, Int.reduceEq, h2, e2, h3, e3, h4, e4, h6, e6, h7, h8, h9, h10, h26]
          refine condK_split (fun g => ?_) (fun g => ?_)
          · have hn : k < s.marks.length := by simpa using g
            have hka : k < s.ages.length := by omega
            have hkw : k < s.world.objs.length := by omega
            have hag : ageT s k = s.ages[k] := by simp [ageT, hn, ageAt_get hka]
            have ex : decide (s.world.objs[k] = w.objs[k]) = decide (s.world.obj k = w.obj k) := by rw [objAt_get hkw, objAt_get h']
            simp only [go_sem, qC, qG, qW, Nat.reduceEqDiff, Nat.reduceMul, Nat.reduceLeDiff, Nat.reduceAdd, Nat.reduceLT, Int.reduceEq, h2, e2, h3, e3, h4, e4, h6, e6, h7, h8, h9, h10, hn, hka]
            refine guardK_split (fun g1 => ?_) (fun g1 => ?_)
            · simp only [go_sem, qC, qG, qW, Nat.reduceEqDiff, Nat.reduceMul, Nat.reduceLeDiff, Nat.reduceAdd, Nat.reduceLT, Int.reduceEq, h2, e2, h3, e3, h4, e4, h6, e6, h7, h8, h9, h10, hn, hka, hkw, h', g1, (R06_SameObj_pc s.world.objs[k] w.objs[k] (hs.1.obj _ (List.getElem_mem hkw))).ret]
              refine condK_split (fun g2 => ?_) (fun g2 => ?_)
              · have hgr : greyed s w k = true := by
                  simp only [greyed, markAt_get hn, g1, ← ex, Bool.true_and]
                  exact g2
                have hmk : markT s w k = 1 := by simp [markT, hn, hgr]
                rw [if_pos (by simp [newT, hn, hgr])] at hst
                simp only [go_sem, qC, qG, qW, Nat.reduceEqDiff, Nat.reduceMul, Nat.reduceLeDiff, Nat.reduceAdd, Nat.reduceLT, Int.reduceEq, h2, e2, h3, e3, h4, e4, h6, e6, h7, h8, h9, h10, hag, hmk, hst, wrap_succ (Nat.lt_succ_self _) hcw]
                exact ⟨mA, mM⟩
              · have hgr : greyed s w k = false := by
                  simp only [greyed, markAt_get hn, g1, ← ex, Bool.true_and]
                  exact g2
                have hmk : markT s w k = s.marks[k] := by simp [markT, hn, hgr, markAt_get hn]
                rw [if_neg (by simp [newT, hn, hgr]), Nat.add_zero] at hst
                simp only [go_sem, qC, qG, qW, Nat.reduceEqDiff, Nat.reduceMul, Nat.reduceLeDiff, Nat.reduceAdd, Nat.reduceLT, Int.reduceEq, h2, e2, h3, e3, h4, e4, h6, e6, h7, h8, h9, h10, hag, hmk, hst]
                exact ⟨mA, mM⟩
            · simp only [go_sem, qC, qG, qW, Nat.reduceEqDiff, Nat.reduceMul, Nat.reduceLeDiff, Nat.reduceAdd, Nat.reduceLT, Int.reduceEq, h2, e2, h3, e3, h4, e4, h6, e6, h7, h8, h9, h10, hn, hka, hkw, h', g1, Bool.not_true]
              have hgr : greyed s w k = false := by simp only [greyed, markAt_get hn, g1, Bool.not_true, Bool.false_and]
              have hmk : markT s w k = s.marks[k] := by simp [markT, hn, hgr, markAt_get hn]
              rw [if_neg (by simp [newT, hn, hgr]), Nat.add_zero] at hst
              simp only [go_sem, qC, qG, qW, Nat.reduceEqDiff, Nat.reduceMul, Nat.reduceLeDiff, Nat.reduceAdd, Nat.reduceLT, Int.reduceEq, h2, e2, h3, e3, h4, e4, h6, e6, h7, h8, h9, h10, hag, hmk, hst]
              exact ⟨mA, mM⟩
          · have hn : ¬ k < s.marks.length := of_decide_eq_false g
            have hag : ageT s k = 0 := by simp [ageT, hn]
            have hmk : markT s w k = 1 := by simp [markT, hn]
            rw [if_pos (by simp [newT, hn])] at hst
            simp only [go_sem, qC, qG, qW, Nat.reduceEqDiff, Nat.reduceMul, Nat.reduceLeDiff, Nat.reduceAdd, Nat.reduceLT, Int.reduceEq, h2, e2, h3, e3, h4, e4, h6, e6, h7, h8, h9, h10, hag, hmk, hst, wrap_succ (Nat.lt_succ_self _) hcw]
            exact ⟨mA, mM⟩
        · rintro fr en cnt ⟨(h2 : fr 2 = .ptr ⟨0, 2, 0⟩ 0), (e2 : en ⟨0, 2, 0⟩ = some (.box [.fz (s.world.objs.map MObj.enc), .fz (s.world.tasks.map (.int .i64)), .fz (s.world.outs.map MOut.enc), .fz (s.world.ins.map (.int .i64)), .int .i64 s.world.used, .fz (s.ages.map (.int .i64)), .fz (s.marks.map (.int .i64)), .int .i64 s.cycle] false)), (h3 : fr 3 = .ptr ⟨0, 3, 0⟩ 0), (e3 : en ⟨0, 3, 0⟩ = some (.box [.fz (w.objs.map MObj.enc), .fz (w.tasks.map (.int .i64)), .fz (w.outs.map MOut.enc), .fz (w.ins.map (.int .i64)), .int .i64 w.used] false)), (h4 : fr 4 = .ptr ⟨0, 4, 0⟩ 0), (e4 : en ⟨0, 4, 0⟩ = some (.box [.cl [], .cl [], .cl [], .cl [], .int .i64 0, .cl [], .cl [], .int .i64 0] false)), (h6 : fr 6 = .ptr ⟨0, 6, 0⟩ 0), (e6 : en ⟨0, 6, 0⟩ = some (.box [.fz (w.objs.map MObj.enc), .fz (w.tasks.map (.int .i64)), .fz (w.outs.map MOut.enc), .fz (w.ins.map (.int .i64)), .int .i64 w.used, vA, vM, .int .i64 s.cycle] false)), (h7 : fr 7 = .int .i64 (countT s w (k + 1) : Nat)), (h8 : fr 8 = .int .i64 k), (h9 : fr 9 = .int .i64 (ageT s k)), (h10 : fr 10 = .int .i64 (markT s w k)), (mA : Mine en vA 1 (((List.range k).map (ageT s)).map (.int .i64)) [62]), (mM : Mine en vM 1 (((List.range k).map (markT s w)).map (.int .i64)) [67])⟩
          refine wp_foot ?_
          simp only [go_sem, qC, qG, qW, Nat.reduceEqDiff, Nat.reduceMul, Nat.reduceLeDiff, Nat.reduceAdd, Nat.reduceLT, Int.reduceEq, h2, e2, h3, e3, h4, e4, h6, e6, h7, h8, h9, h10, List.all_cons, List.getElem?_cons_zero, List.getElem?_cons_succ, Bool.true_or, Bool.or_true, Bool.false_eq_true, if_false]
          refine wf_append (D := [62]) (xs := ((List.range k).map (ageT s)).map (.int .i64)) (ys := [.int .i64 (ageT s k)]) (rs := []) ?_ ?_ ?_ rfl ?_ ?_
          · simp only [go_sem, qW, Nat.reduceEqDiff, Nat.reduceMul, Nat.reduceLeDiff, Nat.reduceAdd, Nat.reduceLT, Int.reduceEq]
            exact mA
          · simp only [go_sem, qW, Nat.reduceEqDiff, Nat.reduceMul, Nat.reduceLeDiff, Nat.reduceAdd, Nat.reduceLT, Int.reduceEq]
          · rfl
          · simp; omega
          · intro vA' en1 cnt1 r1 own1 hen1 hcnt1 hw1 hr1 hm1
            have k2 : en1 ⟨0, 2, 0⟩ = some (.box [.fz (s.world.objs.map MObj.enc), .fz (s.world.tasks.map (.int .i64)), .fz (s.world.outs.map MOut.enc), .fz (s.world.ins.map (.int .i64)), .int .i64 s.world.used, .fz (s.ages.map (.int .i64)), .fz (s.marks.map (.int .i64)), .int .i64 s.cycle] false) := by rw [hen1 0 2 0 (.inr ⟨by decide, by decide⟩)]; exact e2
            have k3 : en1 ⟨0, 3, 0⟩ = some (.box [.fz (w.objs.map MObj.enc), .fz (w.tasks.map (.int .i64)), .fz (w.outs.map MOut.enc), .fz (w.ins.map (.int .i64)), .int .i64 w.used] false) := by rw [hen1 0 3 0 (.inr ⟨by decide, by decide⟩)]; exact e3
            have k4 : en1 ⟨0, 4, 0⟩ = some (.box [.cl [], .cl [], .cl [], .cl [], .int .i64 0, .cl [], .cl [], .int .i64 0] false) := by rw [hen1 0 4 0 (.inr ⟨by decide, by decide⟩)]; exact e4
            have k6 : en1 ⟨0, 6, 0⟩ = some (.box [.fz (w.objs.map MObj.enc), .fz (w.tasks.map (.int .i64)), .fz (w.outs.map MOut.enc), .fz (w.ins.map (.int .i64)), .int .i64 w.used, vA, vM, .int .i64 s.cycle] false) := by rw [hen1 0 6 0 (.inr ⟨by decide, by decide⟩)]; exact e6
            obtain ⟨s1, s2⟩ := own1.shape
            simp only [go_sem, qC, qG, qW, Nat.reduceEqDiff, Nat.reduceMul, Nat.reduceLeDiff, Nat.reduceAdd, Nat.reduceLT, Int.reduceEq, h2, k2, h3, k3, h4, k4, h6, k6, h7, h8, h9, h10, s1, s2, List.all_cons, List.getElem?_cons_zero, List.getElem?_cons_succ, Bool.true_or, Bool.or_true, Bool.false_eq_true, if_false]
            refine wf_append (D := [67]) (xs := ((List.range k).map (markT s w)).map (.int .i64)) (ys := [.int .i64 (markT s w k)]) (rs := []) ?_ ?_ ?_ rfl ?_ ?_
            · simp only [go_sem, qW, Nat.reduceEqDiff, Nat.reduceMul, Nat.reduceLeDiff, Nat.reduceAdd, Nat.reduceLT, Int.reduceEq]
              exact mM.keep fun t g ht => by rw [hen1 0 t g (.inr (by simp at ht; subst ht; decide))]
            · simp only [go_sem, qW, Nat.reduceEqDiff, Nat.reduceMul, Nat.reduceLeDiff, Nat.reduceAdd, Nat.reduceLT, Int.reduceEq]
            · rfl
            · simp; omega
            · intro vM' en2 cnt2 r2 own2 hen2 hcnt2 hw2 hr2 hm2
              have j2 : en2 ⟨0, 2, 0⟩ = some (.box [.fz (s.world.objs.map MObj.enc), .fz (s.world.tasks.map (.int .i64)), .fz (s.world.outs.map MOut.enc), .fz (s.world.ins.map (.int .i64)), .int .i64 s.world.used, .fz (s.ages.map (.int .i64)), .fz (s.marks.map (.int .i64)), .int .i64 s.cycle] false) := by rw [hen2 0 2 0 (.inr ⟨by decide, by decide⟩)]; exact k2
              have j3 : en2 ⟨0, 3, 0⟩ = some (.box [.fz (w.objs.map MObj.enc), .fz (w.tasks.map (.int .i64)), .fz (w.outs.map MOut.enc), .fz (w.ins.map (.int .i64)), .int .i64 w.used] false) := by rw [hen2 0 3 0 (.inr ⟨by decide, by decide⟩)]; exact k3
              have j4 : en2 ⟨0, 4, 0⟩ = some (.box [.cl [], .cl [], .cl [], .cl [], .int .i64 0, .cl [], .cl [], .int .i64 0] false) := by rw [hen2 0 4 0 (.inr ⟨by decide, by decide⟩)]; exact k4
              have j6 : en2 ⟨0, 6, 0⟩ = some (.box [.fz (w.objs.map MObj.enc), .fz (w.tasks.map (.int .i64)), .fz (w.outs.map MOut.enc), .fz (w.ins.map (.int .i64)), .int .i64 w.used, vA, vM, .int .i64 s.cycle] false) := by rw [hen2 0 6 0 (.inr ⟨by decide, by decide⟩)]; exact k6
              obtain ⟨s3, s4⟩ := own2.shape
              have q1 := fun o n => apart_own hw1 (t' := 6) (g' := 0) ⟨by decide, by decide⟩ o n
              simp only [go_sem, qC, qG, qW, Nat.reduceEqDiff, Nat.reduceMul, Nat.reduceLeDiff, Nat.reduceAdd, Nat.reduceLT, Int.reduceEq, h2, j2, h3, j3, h4, j4, h6, j6, h7, h8, h9, h10, s1, s2, s3, s4, q1, hm1, hm2, all_tt, List.all_cons, List.getElem?_cons_zero, List.getElem?_cons_succ, Bool.true_or, Bool.or_true, Bool.false_eq_true, if_false]
              refine ⟨h', _, _, _, vA', vM', rfl, ?_⟩
              simp only [go_sem, qC, qG, qW, Nat.reduceEqDiff, Nat.reduceMul, Nat.reduceLeDiff, Nat.reduceAdd, Nat.reduceLT, Int.reduceEq, h2, j2, h3, j3, h4, j4, h6, j6, h7, h8, wrap_succ h' hw.objs]
              refine ⟨?_, ?_⟩
              · rw [List.map_append, List.map_append]
                refine (own1.keep fun t g ht => ?_).sub (by simp)
                have ht' : t = 62 := by simp at ht; omega
                subst ht'
                simp only [go_sem, qW, Nat.reduceEqDiff, Nat.reduceMul, Nat.reduceLeDiff, Nat.reduceAdd, Nat.reduceLT, Int.reduceEq, hen2 0 62 g (.inr ⟨by decide, by decide⟩)]
              · rw [List.map_append, List.map_append]
                refine (own2.keep fun t g ht => ?_).sub (by simp)
                have ht' : t = 67 := by simp at ht; omega
                subst ht'
                simp only [go_sem, qW, Nat.reduceEqDiff, Nat.reduceMul, Nat.reduceLeDiff, Nat.reduceAdd, Nat.reduceLT, Int.reduceEq]
  · have : k = w.objs.length := by simp at hq; omega
    subst this
    simp only [go_sem, qC, qG, qW, Nat.reduceEqDiff, Nat.reduceMul, Nat.reduceLeDiff, Nat.reduceAdd, Nat.reduceLT, Int.reduceEq, h2, e2, h3, e3, h4, e4, h6, e6, h7, h8]
    have e' : ∀ t g, ¬ t = 4 → (en.set ⟨0, 4, 0⟩ (some (.box [.fz (w.objs.map MObj.enc), .fz (w.tasks.map (.int .i64)), .fz (w.outs.map MOut.enc), .fz (w.ins.map (.int .i64)), .int .i64 w.used, vA, vM, .int .i64 s.cycle] false))) ⟨0, t, g⟩ = en ⟨0, t, g⟩ := fun t g h => en_ne_t h
    obtain ⟨x1, ks1, a1, a2, _⟩ := (mA.keep (en' := en.set ⟨0, 4, 0⟩ (some (.box [.fz (w.objs.map MObj.enc), .fz (w.tasks.map (.int .i64)), .fz (w.outs.map MOut.enc), .fz (w.ins.map (.int .i64)), .int .i64 w.used, vA, vM, .int .i64 s.cycle] false))) fun t g ht => e' t g (by simp at ht; omega)).snap 5
    obtain ⟨x2, ks2, d1, d2, _⟩ := (mM.keep (en' := en.set ⟨0, 4, 0⟩ (some (.box [.fz (w.objs.map MObj.enc), .fz (w.tasks.map (.int .i64)), .fz (w.outs.map MOut.enc), .fz (w.ins.map (.int .i64)), .int .i64 w.used, vA, vM, .int .i64 s.cycle] false))) fun t g ht => e' t g (by simp at ht; omega)).snap 5
    simp only [go_sem, qC, qG, qW, Nat.reduceEqDiff, Nat.reduceMul, Nat.reduceLeDiff, Nat.reduceAdd, Nat.reduceLT, Int.reduceEq, a1, a2, d1, d2]
    rfl
end Go.Proofs.YthpmfghgoabnhaaGreat
