/- A collector of one's own, and how it goes on to a world. -/
import Derived.Test.YthpmfghgoabnhaaGreatW26
set_option linter.all false
namespace Go.Proofs.YthpmfghgoabnhaaGreat
open Go.Abs Go.Proofs
def MineO (en : En) (v : Val) (size : Nat) (xs : List Val) (t : Nat) : Prop := (v = .cl [] ∧ xs = []) ∨ ∃ g, v = .bl ⟨0, t, g⟩ 0 xs.length ∧ en ⟨0, t, g⟩ = some (.blk size xs false)
theorem MineO.mine {en : En} {v : Val} {size : Nat} {xs : List Val} {t : Nat} (h : MineO en v size xs t) : Mine en v size xs [t] := by
  rcases h with h | ⟨g, h1, h2⟩
  · exact .inl h
  · exact .inr ⟨t, g, false, h1, h2, by simp⟩
theorem mineO_bl {en : En} {t g n size : Nat} {xs : List Val} (h : en ⟨0, t, g⟩ = some (.blk size xs false)) (hx : n = xs.length) : MineO en (.bl ⟨0, t, g⟩ 0 n) size xs t := .inr ⟨g, by rw [hx], h⟩
theorem own_win (s : RState) (hs : s.few) (hsm : smallState s = true) {en : En} {cnt : Nat → Nat → Nat} :
    WIn L (.fn F.reap_own [] []) [.agg [.fz (s.world.objs.map MObj.enc), .fz (s.world.tasks.map (.int .i64)), .fz (s.world.outs.map MOut.enc), .fz (s.world.ins.map (.int .i64)), .int .i64 s.world.used, .fz (s.ages.map (.int .i64)), .fz (s.marks.map (.int .i64)), .int .i64 s.cycle]] en cnt fun v en' cnt' => ∃ g16 vA vM, v = .ptr ⟨0, 16, g16⟩ 0 ∧ en' ⟨0, 16, g16⟩ = some (.box [.fz (s.world.objs.map MObj.enc), .fz (s.world.tasks.map (.int .i64)), .fz (s.world.outs.map MOut.enc), .fz (s.world.ins.map (.int .i64)), .int .i64 s.world.used, vA, vM, .int .i64 s.cycle] false) ∧
      MineO en' vA 1 (s.ages.map (.int .i64)) 8 ∧ MineO en' vM 1 (s.marks.map (.int .i64)) 11 ∧ (∀ t g, ¬ t = 1 → ¬ t = 8 → ¬ t = 11 → ¬ t = 16 → en' ⟨0, t, g⟩ = en ⟨0, t, g⟩) := by
  have hsw : smallWorld s.world = true ∧ (s.ages.length : Int) ≤ 130 ∧ (s.marks.length : Int) ≤ 130 := by
    simp only [smallState, Bool.and_eq_true, decide_eq_true_eq] at hsm
    exact ⟨hsm.1.1, hsm.1.2, hsm.2⟩
  have c1 := Clone_int_pc (s.ages.map (.int .i64)) (headOk_ints _) (by simp; omega)
  have c2 := Clone_int_pc (s.marks.map (.int .i64)) (headOk_ints _) (by simp; omega)
  obtain ⟨g1, hg1⟩ : ∃ g, g = cnt 0 1 := ⟨_, rfl⟩
  obtain ⟨g8, hg8⟩ : ∃ g, g = cnt 0 8 := ⟨_, rfl⟩
  obtain ⟨g11, hg11⟩ : ∃ g, g = cnt 0 11 := ⟨_, rfl⟩
  obtain ⟨g16, hg16⟩ : ∃ g, g = cnt 0 16 := ⟨_, rfl⟩
  refine win_of LF.reap_own rfl rfl ?_
  simp only [go_sem, qC, qG, qW, Nat.reduceEqDiff, Nat.reduceMul, Nat.reduceLeDiff, Nat.reduceAdd, Nat.reduceLT, C.reap_own, ← hg1]
  refine wp_foot ?_
  rcases clone_cases 1 (s.ages.map (Val.int .i64)) with ⟨t1, t2⟩ | ⟨t1, t2⟩ <;> rw [t2] at c1 <;>
  rcases clone_cases 1 (s.marks.map (Val.int .i64)) with ⟨o1, o2⟩ | ⟨o1, o2⟩ <;> rw [o2] at c2
  all_goals simp only [go_sem, qC, qG, qW, Nat.reduceEqDiff, Nat.reduceMul, Nat.reduceLeDiff, Nat.reduceAdd, Nat.reduceLT, List.all_cons, List.getElem?_cons_zero, List.getElem?_cons_succ, Bool.true_or, Bool.or_true, Bool.false_eq_true, if_false, Option.getD_some, (reap_copied_pc s.world hs.1 hsw.1).ret, c1.ret, c2.ret, ← hg8, ← hg11, ← hg16, List.length_map, one_cl, cells_cl, one_bl, cells_bl]
  all_goals refine ⟨g16, _, _, rfl, en_eq, ?_, ?_, ?_⟩
  all_goals first
    | exact .inl ⟨rfl, by assumption⟩
    | exact mineO_bl (by simp only [go_sem, Nat.reduceEqDiff, Nat.reduceMul, Nat.reduceLeDiff, Nat.reduceAdd, Nat.reduceLT]; try rfl) (by simp only [List.length_map])
    | (intro t g n1 n2 n3 n4; simp only [go_sem, qW, Nat.reduceEqDiff, Nat.reduceMul, Nat.reduceLeDiff, Nat.reduceAdd, Nat.reduceLT, n1, n2, n3, n4])
theorem apart_own {ws : List W} {d : Nat} {D : List Nat} (h : ∀ w ∈ ws, w.key.n = 0 ∧ (w.key.t = d ∨ w.key.t ∈ D) ∧ ∃ e, w = .ent w.key e) {t' g' : Nat} (ht : t' ≠ d ∧ t' ∉ D) (o n : Nat) : (ws.all fun w => apartWR w (.cells ⟨0, t', g'⟩ o n)) = true := by
  rw [List.all_eq_true]
  intro w hw
  obtain ⟨h1, h2, e, h3⟩ := h w hw
  rw [h3, apart_ew]
  refine decide_eq_true ?_
  intro he
  rw [he] at h2
  rcases h2 with h2 | h2
  · exact ht.1 h2
  · exact ht.2 h2
theorem all_tt {α : Type} {l : List α} : (l.all fun _ => true) = true := by simp
theorem turned_win (s : RState) (w : MWorld) (hs : s.few) (hw : w.few) (hsm : smallWorld w = true) (hA : s.ages.length = s.marks.length) (hM : s.world.objs.length = s.marks.length) (hle : s.marks.length ≤ w.objs.length) {en : En} {cnt : Nat → Nat → Nat} {gk : Nat} {vA vM : Val}
    (e16 : en ⟨0, 16, gk⟩ = some (.box [.fz (s.world.objs.map MObj.enc), .fz (s.world.tasks.map (.int .i64)), .fz (s.world.outs.map MOut.enc), .fz (s.world.ins.map (.int .i64)), .int .i64 s.world.used, vA, vM, .int .i64 s.cycle] false)) (mA : MineO en vA 1 (s.ages.map (.int .i64)) 8) (mM : MineO en vM 1 (s.marks.map (.int .i64)) 11) :
    WIn L (.fn F.reap_collector_turned [] []) [.ptr ⟨0, 16, gk⟩ 0, .agg [.fz (w.objs.map MObj.enc), .fz (w.tasks.map (.int .i64)), .fz (w.outs.map MOut.enc), .fz (w.ins.map (.int .i64)), .int .i64 w.used]] en cnt fun v en' cnt' => v = .int .i64 (countT s w w.objs.length) ∧ ∃ vA vM, en' ⟨0, 16, gk⟩ = some (.box [.fz (w.objs.map MObj.enc), .fz (w.tasks.map (.int .i64)), .fz (w.outs.map MOut.enc), .fz (w.ins.map (.int .i64)), .int .i64 w.used, vA, vM, .int .i64 s.cycle] false) ∧
      Mine en' vA 1 ((agesT s w).map (.int .i64)) [8, 32] ∧ Mine en' vM 1 ((marksT s w).map (.int .i64)) [11, 39] ∧ (∀ t g, ¬ t = 3 → ¬ t = 7 → ¬ t = 8 → ¬ t = 11 → ¬ t = 16 → ¬ t = 32 → ¬ t = 39 → en' ⟨0, t, g⟩ = en ⟨0, t, g⟩) := by
  obtain ⟨b1, b2, b3, b4⟩ := smallW_len hsm
  obtain ⟨en0, hen0⟩ : ∃ e, e = en := ⟨_, rfl⟩
  obtain ⟨g3, hg3⟩ : ∃ g, g = cnt 0 3 := ⟨_, rfl⟩
  have u0 : s.marks = upto (markT s w) (fun i => markAt s i) s.marks.length 0 := by
    rw [upto_zero]
    apply List.ext_getElem
    · simp
    · intro i h1 h2; simp [markAt_get h1]
  have v0 : s.ages = upto (ageT s) (fun i => ageAt s i) s.marks.length 0 := by
    rw [upto_zero]
    apply List.ext_getElem
    · simp [hA]
    · intro i h1 h2; simp [ageAt_get h1]
  refine win_of LF.reap_collector_turned rfl rfl ?_
  simp only [go_sem, qC, qG, qW, Nat.reduceEqDiff, Nat.reduceMul, Nat.reduceLeDiff, Nat.reduceAdd, Nat.reduceLT, C.reap_collector_turned, ← hg3]
  refine wp_for w.objs.length (fun k st => ∃ fr en cnt vA vM, st = ⟨fr, en, cnt⟩ ∧ fr 0 = .ptr ⟨0, 16, gk⟩ 0 ∧ fr 3 = .ptr ⟨0, 3, g3⟩ 0 ∧ en ⟨0, 3, g3⟩ = some (.box [.fz (w.objs.map MObj.enc), .fz (w.tasks.map (.int .i64)), .fz (w.outs.map MOut.enc), .fz (w.ins.map (.int .i64)), .int .i64 w.used] false) ∧ fr 5 = .int .i64 (countT s w k : Nat) ∧ fr 9 = .fz (w.objs.map MObj.enc) ∧ fr 10 = .int .i64 w.objs.length ∧ fr 11 = .int .i64 k ∧
    en ⟨0, 16, gk⟩ = some (.box [.fz (s.world.objs.map MObj.enc), .fz (s.world.tasks.map (.int .i64)), .fz (s.world.outs.map MOut.enc), .fz (s.world.ins.map (.int .i64)), .int .i64 s.world.used, vA, vM, .int .i64 s.cycle] false) ∧ Mine en vA 1 ((upto (ageT s) (fun i => ageAt s i) s.marks.length k).map (.int .i64)) [8, 32] ∧ Mine en vM 1 ((upto (markT s w) (fun i => markAt s i) s.marks.length k).map (.int .i64)) [11, 39] ∧
    (k < s.marks.length → ∃ g, vM = .bl ⟨0, 11, g⟩ 0 s.marks.length ∧ en ⟨0, 11, g⟩ = some (.blk 1 ((upto (markT s w) (fun i => markAt s i) s.marks.length k).map (.int .i64)) false)) ∧
    (∀ t g, ¬ t = 3 → ¬ t = 7 → ¬ t = 8 → ¬ t = 11 → ¬ t = 16 → ¬ t = 32 → ¬ t = 39 → en ⟨0, t, g⟩ = en0 ⟨0, t, g⟩)) 0 (Nat.zero_le _)
    ⟨_, _, _, vA, vM, rfl, by simp only [go_sem, Nat.reduceEqDiff, Nat.reduceMul, Nat.reduceLeDiff, Nat.reduceAdd, Nat.reduceLT], by simp only [go_sem, Nat.reduceEqDiff, Nat.reduceMul, Nat.reduceLeDiff, Nat.reduceAdd, Nat.reduceLT], by simp only [go_sem, Nat.reduceEqDiff, Nat.reduceMul, Nat.reduceLeDiff, Nat.reduceAdd, Nat.reduceLT], by simp only [go_sem, Nat.reduceEqDiff, Nat.reduceMul, Nat.reduceLeDiff, Nat.reduceAdd, Nat.reduceLT]; rfl, by simp only [go_sem, Nat.reduceEqDiff, Nat.reduceMul, Nat.reduceLeDiff, Nat.reduceAdd, Nat.reduceLT], by simp only [go_sem, Nat.reduceEqDiff, Nat.reduceMul, Nat.reduceLeDiff, Nat.reduceAdd, Nat.reduceLT], by simp only [go_sem, Nat.reduceEqDiff, Nat.reduceMul, Nat.reduceLeDiff, Nat.reduceAdd, Nat.reduceLT], by simp only [go_sem, Nat.reduceEqDiff, Nat.reduceMul, Nat.reduceLeDiff, Nat.reduceAdd, Nat.reduceLT, e16], ?_, ?_, ?_, ?_⟩ ?_
  · rw [← v0]; exact (mA.mine.keep fun t g ht => by simp at ht; subst ht; simp only [go_sem, qW, Nat.reduceEqDiff, Nat.reduceMul, Nat.reduceLeDiff, Nat.reduceAdd, Nat.reduceLT]).sub (by simp)
  · rw [← u0]; exact (mM.mine.keep fun t g ht => by simp at ht; subst ht; simp only [go_sem, qW, Nat.reduceEqDiff, Nat.reduceMul, Nat.reduceLeDiff, Nat.reduceAdd, Nat.reduceLT]).sub (by simp)
  · intro h0
    rw [← u0]
    rcases mM with ⟨_, h⟩ | ⟨g, h1, h2⟩
    · have : s.marks.length = 0 := by rw [← List.length_map (f := Val.int .i64), h]; rfl
      omega
    · exact ⟨g, by simpa using h1, by simp only [go_sem, Nat.reduceEqDiff, Nat.reduceMul, Nat.reduceLeDiff, Nat.reduceAdd, Nat.reduceLT, h2]⟩
  · intro t g n3 n7 n8 n11 n16 n32 n39
    rw [hen0]; simp only [go_sem, qW, Nat.reduceEqDiff, Nat.reduceMul, Nat.reduceLeDiff, Nat.reduceAdd, Nat.reduceLT, n3]
  clear mA mM e16
  rintro k st hk ⟨fr, en, cnt, vA, vM, rfl, h0, h3, e3, h5, h9, h10, h11, e16, mA, mM, hO, hfr⟩
  simp only [go_sem, qC, qG, qW, Nat.reduceEqDiff, Nat.reduceMul, Nat.reduceLeDiff, Nat.reduceAdd, Nat.reduceLT, h0, h3, e3, h5, h9, h10, h11, e16]
  refine condK_split (fun hq => ?_) (fun hq => ?_)
  · have h' : k < w.objs.length := of_decide_eq_true hq
    obtain ⟨g7, hg7⟩ : ∃ g, g = cnt 0 7 := ⟨_, rfl⟩
    have hlM := mM.len
    rw [List.length_map, upto_len] at hlM
    have hcw : Few (countT s w k + 1) := by have := countT_le s w k; unfold Few; omega
    simp only [go_sem, qC, qG, qW, Nat.reduceEqDiff, Nat.reduceMul, Nat.reduceLeDiff, Nat.reduceAdd, Nat.reduceLT, h', h0, h3, e3, h5, h9, h10, h11, e16, hlM, ← hg7]
    refine condK_split (fun hq2 => ?_) (fun hq2 => ?_)
    · have hn : s.marks.length ≤ k := by simp at hq2; omega
      have n1 : newT s w k = true := by simp [newT]; omega
      have hag : ageT s k = 0 := by simp [ageT]; omega
      have hmk : markT s w k = 1 := by simp [markT]; omega
      have hst := countT_step s w k
      rw [n1, if_pos rfl] at hst
      simp only [go_sem, qC, qG, qW, Nat.reduceEqDiff, Nat.reduceMul, Nat.reduceLeDiff, Nat.reduceAdd, Nat.reduceLT, h', h0, h3, e3, h5, h9, h10, h11, e16]
      refine wp_foot ?_
      simp only [go_sem, qC, qG, qW, Nat.reduceEqDiff, Nat.reduceMul, Nat.reduceLeDiff, Nat.reduceAdd, Nat.reduceLT, h', h0, h3, e3, h5, h9, h10, h11, e16, List.all_cons, List.getElem?_cons_zero, List.getElem?_cons_succ, Bool.true_or, Bool.or_true, Bool.false_eq_true, if_false]
      refine wf_append (D := [8, 32]) (xs := (upto (ageT s) (fun i => ageAt s i) s.marks.length k).map (.int .i64)) (ys := [.int .i64 0]) (rs := []) ?_ ?_ ?_ rfl ?_ ?_
      · simp only [go_sem, qW, Nat.reduceEqDiff, Nat.reduceMul, Nat.reduceLeDiff, Nat.reduceAdd, Nat.reduceLT]
        exact mA.keep fun t g ht => by simp at ht; rcases ht with rfl | rfl <;> simp only [go_sem, qW, Nat.reduceEqDiff, Nat.reduceMul, Nat.reduceLeDiff, Nat.reduceAdd, Nat.reduceLT]
      · simp only [go_sem, qW, Nat.reduceEqDiff, Nat.reduceMul, Nat.reduceLeDiff, Nat.reduceAdd, Nat.reduceLT]
      · rfl
      · simp [upto_len]; omega
      · intro vA' en1 cnt1 r1 own1 hen1 hcnt1 hw1 hr1 hm1
        have k16 : en1 ⟨0, 16, gk⟩ = some (.box [.fz (s.world.objs.map MObj.enc), .fz (s.world.tasks.map (.int .i64)), .fz (s.world.outs.map MOut.enc), .fz (s.world.ins.map (.int .i64)), .int .i64 s.world.used, vA, vM, .int .i64 s.cycle] false) := by rw [hen1 0 16 gk (.inr ⟨by decide, by decide⟩)]; simp only [go_sem, qW, Nat.reduceEqDiff, Nat.reduceMul, Nat.reduceLeDiff, Nat.reduceAdd, Nat.reduceLT, e16]
        have k3 : en1 ⟨0, 3, g3⟩ = some (.box [.fz (w.objs.map MObj.enc), .fz (w.tasks.map (.int .i64)), .fz (w.outs.map MOut.enc), .fz (w.ins.map (.int .i64)), .int .i64 w.used] false) := by rw [hen1 0 3 g3 (.inr ⟨by decide, by decide⟩)]; simp only [go_sem, qW, Nat.reduceEqDiff, Nat.reduceMul, Nat.reduceLeDiff, Nat.reduceAdd, Nat.reduceLT, e3]
        obtain ⟨s1, s2⟩ := own1.shape
        simp only [go_sem, qC, qG, qW, Nat.reduceEqDiff, Nat.reduceMul, Nat.reduceLeDiff, Nat.reduceAdd, Nat.reduceLT, h', h0, h3, k3, h5, h9, h10, h11, k16, s1, s2, List.all_cons, List.getElem?_cons_zero, List.getElem?_cons_succ, Bool.true_or, Bool.or_true, Bool.false_eq_true, if_false]
        refine wf_append (D := [11, 39]) (xs := (upto (markT s w) (fun i => markAt s i) s.marks.length k).map (.int .i64)) (ys := [.int .i64 1]) (rs := []) ?_ ?_ ?_ rfl ?_ ?_
        · simp only [go_sem, qW, Nat.reduceEqDiff, Nat.reduceMul, Nat.reduceLeDiff, Nat.reduceAdd, Nat.reduceLT]
          exact mM.keep fun t g ht => by rw [hen1 0 t g (.inr (by simp at ht; rcases ht with rfl | rfl <;> decide))]; simp at ht; rcases ht with rfl | rfl <;> simp only [go_sem, qW, Nat.reduceEqDiff, Nat.reduceMul, Nat.reduceLeDiff, Nat.reduceAdd, Nat.reduceLT]
        · simp only [go_sem, qW, Nat.reduceEqDiff, Nat.reduceMul, Nat.reduceLeDiff, Nat.reduceAdd, Nat.reduceLT]
        · rfl
        · simp [upto_len]; omega
        · intro vM' en2 cnt2 r2 own2 hen2 hcnt2 hw2 hr2 hm2
          have j16 : en2 ⟨0, 16, gk⟩ = some (.box [.fz (s.world.objs.map MObj.enc), .fz (s.world.tasks.map (.int .i64)), .fz (s.world.outs.map MOut.enc), .fz (s.world.ins.map (.int .i64)), .int .i64 s.world.used, vA, vM, .int .i64 s.cycle] false) := by rw [hen2 0 16 gk (.inr ⟨by decide, by decide⟩)]; simp only [go_sem, qW, Nat.reduceEqDiff, Nat.reduceMul, Nat.reduceLeDiff, Nat.reduceAdd, Nat.reduceLT, k16]
          have j3 : en2 ⟨0, 3, g3⟩ = some (.box [.fz (w.objs.map MObj.enc), .fz (w.tasks.map (.int .i64)), .fz (w.outs.map MOut.enc), .fz (w.ins.map (.int .i64)), .int .i64 w.used] false) := by rw [hen2 0 3 g3 (.inr ⟨by decide, by decide⟩)]; simp only [go_sem, qW, Nat.reduceEqDiff, Nat.reduceMul, Nat.reduceLeDiff, Nat.reduceAdd, Nat.reduceLT, k3]
          obtain ⟨s3, s4⟩ := own2.shape
          have q1 := fun o n => apart_own hw1 (t' := 16) (g' := gk) ⟨by decide, by decide⟩ o n
          simp only [go_sem, qC, qG, qW, Nat.reduceEqDiff, Nat.reduceMul, Nat.reduceLeDiff, Nat.reduceAdd, Nat.reduceLT, h', h0, h3, j3, h5, h9, h10, h11, j16, s1, s2, s3, s4, q1, hm1, hm2, all_tt, List.all_cons, List.getElem?_cons_zero, List.getElem?_cons_succ, Bool.true_or, Bool.or_true, Bool.false_eq_true, if_false]
          refine ⟨_, _, _, vA', vM', rfl, ?_⟩
          simp only [go_sem, qC, qG, qW, Nat.reduceEqDiff, Nat.reduceMul, Nat.reduceLeDiff, Nat.reduceAdd, Nat.reduceLT, h', h0, h3, j3, h5, h9, h10, h11, j16, s1, s2, s3, s4, wrap_succ h' hw.objs, wrap_succ (Nat.lt_succ_self _) hcw, hst]
          refine ⟨?_, ?_, fun h => absurd h (by omega), ?_⟩
          · rw [upto_app hn, hag, List.map_append]
            refine (own1.keep fun t g ht => ?_).sub (by simp)
            have ht' : t = 32 ∨ t = 8 := by simp at ht; omega
            rcases ht' with rfl | rfl
            · simp only [go_sem, qW, Nat.reduceEqDiff, Nat.reduceMul, Nat.reduceLeDiff, Nat.reduceAdd, Nat.reduceLT, hen2 0 32 g (.inr ⟨by decide, by decide⟩)]
            · simp only [go_sem, qW, Nat.reduceEqDiff, Nat.reduceMul, Nat.reduceLeDiff, Nat.reduceAdd, Nat.reduceLT, hen2 0 8 g (.inr ⟨by decide, by decide⟩)]
          · rw [upto_app hn, hmk, List.map_append]
            refine (own2.keep fun t g ht => ?_).sub (by simp)
            have ht' : t = 39 ∨ t = 11 := by simp at ht; omega
            rcases ht' with rfl | rfl <;> simp only [go_sem, qW, Nat.reduceEqDiff, Nat.reduceMul, Nat.reduceLeDiff, Nat.reduceAdd, Nat.reduceLT]
          · intro t g n3 n7 n8 n11 n16 n32 n39
            rw [← hfr t g n3 n7 n8 n11 n16 n32 n39]
            simp only [go_sem, qW, Nat.reduceEqDiff, Nat.reduceMul, Nat.reduceLeDiff, Nat.reduceAdd, Nat.reduceLT, n16]
            rw [hen2 0 t g (.inr ⟨n39, by simp [n11, n39]⟩), hen1 0 t g (.inr ⟨n32, by simp [n8, n32]⟩)]
            simp only [go_sem, qW, Nat.reduceEqDiff, Nat.reduceMul, Nat.reduceLeDiff, Nat.reduceAdd, Nat.reduceLT, n7]
    · have hn : k < s.marks.length := by simp at hq2; omega
      obtain ⟨g, rfl, eM⟩ := hO hn
      have hkw : k < s.world.objs.length := by omega
      have hget : ((upto (markT s w) (fun i => markAt s i) s.marks.length k).map (Val.int .i64))[k]? = some (.int .i64 (markAt s k)) := by simp [upto_get hn]
      have hc1 : (0 : Int) ≤ (k : Int) := by omega
      have hc2 : (k : Int) < (s.marks.length : Int) := by omega
      simp only [go_sem, qC, qG, qW, Nat.reduceEqDiff, Nat.reduceMul, Nat.reduceLeDiff, Nat.reduceAdd, Nat.reduceLT, h', hkw, h0, h3, e3, h5, h9, h10, h11, e16, eM, hget, hc1, hc2, true_and, and_true, eq_self, if_true, Nat.zero_add, Int.toNat_natCast]
      have keepA : ∀ (e e' : Option Ent), Mine ((en.set ⟨0, 7, g7⟩ e).set ⟨0, 7, g7⟩ e') vA 1 ((upto (ageT s) (fun i => ageAt s i) s.marks.length (k + 1)).map (.int .i64)) [8, 32] := by
        intro e e'
        rw [upto_skip hn (by simp [ageT, hn])]
        exact mA.keep fun t g ht => by simp at ht; rcases ht with rfl | rfl <;> simp only [go_sem, qW, Nat.reduceEqDiff, Nat.reduceMul, Nat.reduceLeDiff, Nat.reduceAdd, Nat.reduceLT]
      have frame : ∀ (e e' : Option Ent) (t g : Nat), ¬ t = 3 → ¬ t = 7 → ¬ t = 8 → ¬ t = 11 → ¬ t = 16 → ¬ t = 32 → ¬ t = 39 → ((en.set ⟨0, 7, g7⟩ e).set ⟨0, 7, g7⟩ e') ⟨0, t, g⟩ = en0 ⟨0, t, g⟩ := by
        intro e e' t g n3 n7 n8 n11 n16 n32 n39
        rw [← hfr t g n3 n7 n8 n11 n16 n32 n39]
        simp only [go_sem, qW, Nat.reduceEqDiff, Nat.reduceMul, Nat.reduceLeDiff, Nat.reduceAdd, Nat.reduceLT, n7]
      have eo : decide (w.objs[k] = s.world.objs[k]) = decide (s.world.obj k = w.obj k) := by
        rw [objAt_get hkw, objAt_get h']; exact decide_eq_decide.2 eq_comm
      have skip : greyed s w k = false → markT s w k = markAt s k ∧ countT s w (k + 1) = countT s w k := fun h => by
        refine ⟨by simp [markT, hn, h], ?_⟩
        rw [countT_step, if_neg (by simp [newT, hn, h]), Nat.add_zero]
      refine guardK_split (fun g1 => ?_) (fun g1 => ?_)
      · simp only [go_sem, qC, qG, qW, Nat.reduceEqDiff, Nat.reduceMul, Nat.reduceLeDiff, Nat.reduceAdd, Nat.reduceLT, g1, h', hkw, h0, h3, e3, h5, h9, h10, h11, e16, (sameObj_pc w.objs[k] s.world.objs[k] (hw.obj _ (List.getElem_mem h'))).ret]
        refine condK_split (fun g2 => ?_) (fun g2 => ?_)
        · have hgr : greyed s w k = true := by
            simp only [greyed, g1, ← eo, Bool.true_and]
            exact g2
          have hmk : markT s w k = 1 := by simp [markT, hn, hgr]
          have hst : countT s w (k + 1) = countT s w k + 1 := by rw [countT_step, if_pos (by simp [newT, hn, hgr])]
          have hset : ((upto (markT s w) (fun i => markAt s i) s.marks.length k).map (Val.int .i64)).set k (.int .i64 1) = (upto (markT s w) (fun i => markAt s i) s.marks.length (k + 1)).map (.int .i64) := by
            rw [upto_set hn, hmk, List.map_set]
          simp only [go_sem, qC, qG, qW, Nat.reduceEqDiff, Nat.reduceMul, Nat.reduceLeDiff, Nat.reduceAdd, Nat.reduceLT, h', hkw, h0, h3, e3, h5, h9, h10, h11, e16, eM, hget, hc1, hc2, true_and, and_true, eq_self, if_true, Nat.zero_add, Int.toNat_natCast]
          refine ⟨_, _, _, vA, .bl ⟨0, 11, g⟩ 0 s.marks.length, rfl, ?_⟩
          simp only [go_sem, qC, qG, qW, Nat.reduceEqDiff, Nat.reduceMul, Nat.reduceLeDiff, Nat.reduceAdd, Nat.reduceLT, h', hkw, h0, h3, e3, h5, h9, h10, h11, e16, hset, wrap_succ h' hw.objs, wrap_succ (Nat.lt_succ_self _) hcw, hst]
          refine ⟨(keepA (some (.box [.int .i64 0, .int .i64 0, .cl [], .cl []] false)) (some (.box [.int .i64 w.objs[k].form, .int .i64 w.objs[k].n, .fz (w.objs[k].vals.map MVal.enc), .fz (w.objs[k].frames.map MFrame.enc)] false))).keep fun t g' ht => ?_, (mine_bl en_eq (by simp [upto_len]; omega)).sub (by simp), fun _ => ⟨g, rfl, en_eq⟩, fun t g' n3 n7 n8 n11 n16 n32 n39 => ?_⟩
          · simp at ht; rcases ht with rfl | rfl <;> simp only [go_sem, qW, Nat.reduceEqDiff, Nat.reduceMul, Nat.reduceLeDiff, Nat.reduceAdd, Nat.reduceLT]
          · rw [← frame (some (.box [.int .i64 0, .int .i64 0, .cl [], .cl []] false)) (some (.box [.int .i64 w.objs[k].form, .int .i64 w.objs[k].n, .fz (w.objs[k].vals.map MVal.enc), .fz (w.objs[k].frames.map MFrame.enc)] false)) t g' n3 n7 n8 n11 n16 n32 n39]
            exact en_ne_t n11
        · have hgr : greyed s w k = false := by
            simp only [greyed, g1, ← eo, Bool.true_and]
            exact g2
          obtain ⟨q1, q2⟩ := skip hgr
          simp only [go_sem, qC, qG, qW, Nat.reduceEqDiff, Nat.reduceMul, Nat.reduceLeDiff, Nat.reduceAdd, Nat.reduceLT, h', hkw, h0, h3, e3, h5, h9, h10, h11, e16, wrap_succ h' hw.objs, q2]
          refine ⟨_, _, _, vA, .bl ⟨0, 11, g⟩ 0 s.marks.length, rfl, ?_⟩
          simp only [go_sem, qC, qG, qW, Nat.reduceEqDiff, Nat.reduceMul, Nat.reduceLeDiff, Nat.reduceAdd, Nat.reduceLT, h', hkw, h0, h3, e3, h5, h9, h10, h11, e16, wrap_succ h' hw.objs, q2]
          refine ⟨keepA _ _, ?_, fun _ => ⟨g, rfl, ?_⟩, frame _ _⟩
          · rw [upto_skip hn q1]
            exact mM.keep fun t g ht => by simp at ht; rcases ht with rfl | rfl <;> simp only [go_sem, qW, Nat.reduceEqDiff, Nat.reduceMul, Nat.reduceLeDiff, Nat.reduceAdd, Nat.reduceLT]
          · rw [upto_skip hn q1]; simp only [go_sem, qW, Nat.reduceEqDiff, Nat.reduceMul, Nat.reduceLeDiff, Nat.reduceAdd, Nat.reduceLT, eM]
      · simp only [go_sem, qC, qG, qW, Nat.reduceEqDiff, Nat.reduceMul, Nat.reduceLeDiff, Nat.reduceAdd, Nat.reduceLT, g1, h', hkw, h0, h3, e3, h5, h9, h10, h11, e16, Bool.not_true]
        have hgr : greyed s w k = false := by simp only [greyed, g1, Bool.not_true, Bool.false_and]
        obtain ⟨q1, q2⟩ := skip hgr
        refine ⟨_, _, _, vA, .bl ⟨0, 11, g⟩ 0 s.marks.length, rfl, ?_⟩
        simp only [go_sem, qC, qG, qW, Nat.reduceEqDiff, Nat.reduceMul, Nat.reduceLeDiff, Nat.reduceAdd, Nat.reduceLT, h', hkw, h0, h3, e3, h5, h9, h10, h11, e16, wrap_succ h' hw.objs, q2]
        refine ⟨keepA _ _, ?_, fun _ => ⟨g, rfl, ?_⟩, frame _ _⟩
        · rw [upto_skip hn q1]
          exact mM.keep fun t g ht => by simp at ht; rcases ht with rfl | rfl <;> simp only [go_sem, qW, Nat.reduceEqDiff, Nat.reduceMul, Nat.reduceLeDiff, Nat.reduceAdd, Nat.reduceLT]
        · rw [upto_skip hn q1]; simp only [go_sem, qW, Nat.reduceEqDiff, Nat.reduceMul, Nat.reduceLeDiff, Nat.reduceAdd, Nat.reduceLT, eM]
  · have : k = w.objs.length := by simp at hq; omega
    subst this
    rw [upto_full hle] at mA mM
    simp only [go_sem, qC, qG, qW, Nat.reduceEqDiff, Nat.reduceMul, Nat.reduceLeDiff, Nat.reduceAdd, Nat.reduceLT, h0, h3, e3, h5, h9, h10, h11, e16]
    refine ⟨vA, vM, rfl, ?_, ?_, ?_⟩
    · exact mA.keep fun t g ht => by simp at ht; rcases ht with rfl | rfl <;> simp only [go_sem, qW, Nat.reduceEqDiff, Nat.reduceMul, Nat.reduceLeDiff, Nat.reduceAdd, Nat.reduceLT]
    · exact mM.keep fun t g ht => by simp at ht; rcases ht with rfl | rfl <;> simp only [go_sem, qW, Nat.reduceEqDiff, Nat.reduceMul, Nat.reduceLeDiff, Nat.reduceAdd, Nat.reduceLT]
    · intro t g n3 n7 n8 n11 n16 n32 n39
      rw [← hen0, ← hfr t g n3 n7 n8 n11 n16 n32 n39]
      simp only [go_sem, qW, Nat.reduceEqDiff, Nat.reduceMul, Nat.reduceLeDiff, Nat.reduceAdd, Nat.reduceLT, n16]
end Go.Proofs.YthpmfghgoabnhaaGreat
