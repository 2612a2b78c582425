/- Worlds with some objects alone: the document's answer. -/
import Derived.Test.YthpmfghgoabnhaaGreatW32
set_option linter.all false
namespace Go.Proofs.YthpmfghgoabnhaaGreat
open Go.Abs Go.Proofs
theorem aloneO_step {w : MWorld} {keep : List Int} {k : Nat} (h : k < keep.length) : ((keep.take (k + 1)).map fun n => movedO keep (w.obj n)) = ((keep.take k).map fun n => movedO keep (w.obj n)) ++ [movedO keep (w.obj keep[k])] := by rw [take_step h, List.map_append]; rfl
theorem small_frames {o : MObj} (h : smallObj o = true) : o.frames.length ≤ 50 ∧ o.vals.length ≤ 40 ∧ ∀ f ∈ o.frames, f.env.length ≤ 40 ∧ f.vals.length ≤ 40 := by
  obtain ⟨b1, b2, b3⟩ := small_obj h
  exact ⟨by omega, by omega, fun f hf => by have := b3 f hf; omega⟩
theorem obj_mem {w : MWorld} {i : Int} (h : inR i 0 ((w.objs.length : Int) - 1) = true) : w.obj i ∈ w.objs := by
  simp only [inR, decide_eq_true_eq] at h
  obtain ⟨j, rfl⟩ := Int.eq_ofNat_of_zero_le h.1
  have hj : j < w.objs.length := by omega
  rw [objAt_get hj]; exact List.getElem_mem _
theorem movedF_enc (keep : List Int) (f : MFrame) : (movedF keep f).enc = .agg [.int .i64 f.node, .fz ((movedL keep f.env).map MVal.enc), .fz ((movedL keep f.vals).map MVal.enc)] := rfl
theorem movedO_enc (keep : List Int) (o : MObj) : (movedO keep o).enc = .agg [.int .i64 o.form, .int .i64 o.n, .fz ((movedL keep o.vals).map MVal.enc), .fz ((o.frames.map (movedF keep)).map MFrame.enc)] := rfl
theorem R18_Compact_pc (w : MWorld) (keep : List Int) (hw : w.few) (hsm : smallWorld w = true) (hk : keep.length ≤ 140) (hin : ∀ n ∈ keep, inR n 0 ((w.objs.length : Int) - 1) = true) :
    PC L F.R18_Compact [.agg [.fz (w.objs.map MObj.enc), .fz (w.tasks.map (.int .i64)), .fz (w.outs.map MOut.enc), .fz (w.ins.map (.int .i64)), .int .i64 w.used], .fz (keep.map (.int .i64))] (.agg [.fz ((compactW w keep).objs.map MObj.enc), .fz ((compactW w keep).tasks.map (.int .i64)), .fz ((compactW w keep).outs.map MOut.enc), .fz ((compactW w keep).ins.map (.int .i64)), .int .i64 (compactW w keep).used]) := by
  obtain ⟨b1, b2, b3, b4⟩ := smallW_len hsm
  have hfk : Few keep.length := by unfold Few; omega
  refine pc_of LF.R18_Compact rfl rfl ?_
  simp only [go_sem, qC, qG, qW, C.R18_Compact]
  refine wp_for keep.length (fun k st => ∃ fr en cnt v, st = ⟨fr, en, cnt⟩ ∧ fr 1 = .fz (keep.map (.int .i64)) ∧ fr 2 = .ptr ⟨0, 2, 0⟩ 0 ∧ en ⟨0, 2, 0⟩ = some (.box [.fz (w.objs.map MObj.enc), .fz (w.tasks.map (.int .i64)), .fz (w.outs.map MOut.enc), .fz (w.ins.map (.int .i64)), .int .i64 w.used] false) ∧ fr 4 = .ptr ⟨0, 4, 0⟩ 0 ∧ en ⟨0, 4, 0⟩ = some (.box [.cl [], .cl [], .cl [], .cl [], .int .i64 0] false) ∧ fr 5 = .ptr ⟨0, 5, 0⟩ 0 ∧ en ⟨0, 5, 0⟩ = some (.box [v, .cl [], .fz (w.outs.map MOut.enc), .fz (w.ins.map (.int .i64)), .int .i64 w.used] false) ∧ fr 6 = .int .i64 k ∧
    Mine en v 4 (((keep.take k).map fun n => movedO keep (w.obj n)).map MObj.enc) [74]) 0 (Nat.zero_le _) ⟨_, _, _, .cl [], rfl, by simp only [go_sem, qW], by simp only [go_sem, qW], by simp only [go_sem, qW], by simp only [go_sem, qW], by simp only [go_sem, qW], by simp only [go_sem, qW], by simp only [go_sem, qW], by simp only [go_sem, qW], Mine.nil _ _⟩ ?_
  rintro k st hk' ⟨fr, en, cnt, v, rfl, h1, h2, e2, h4, e4, h5, e5, h6, hv⟩
  simp only [go_sem, qC, qG, qW, h1, h2, e2, h4, e4, h5, e5, h6]
  refine condK_split (fun hq => ?_) (fun hq => ?_)
  · have h' : k < keep.length := of_decide_eq_true hq
    have hi := hin _ (List.getElem_mem h')
    obtain ⟨o, ho⟩ : ∃ o, o = w.obj keep[k] := ⟨_, rfl⟩
    have hso : smallObj o = true := by rw [ho]; exact smallW_obj hsm _ (obj_mem hi)
    obtain ⟨c1, c2, c3⟩ := small_frames hso
    have hff : Few o.frames.length := by unfold Few; omega
    obtain ⟨g7, hg7⟩ : ∃ g, g = cnt 0 7 := ⟨_, rfl⟩
    obtain ⟨g8, hg8⟩ : ∃ g, g = cnt 0 8 := ⟨_, rfl⟩
    simp only [go_sem, qC, qG, qW, h', h1, h2, e2, h4, e4, h5, e5, h6]
    refine wp_foot ?_
    simp only [go_sem, qC, qG, qW, h', h1, h2, e2, h4, e4, h5, e5, h6, ia_obj hi, ← ho, ← hg7, List.all_cons, List.getElem?_cons_zero, List.getElem?_cons_succ, Bool.true_or, Bool.or_true, Bool.false_eq_true, if_false]
    refine wp_foot ?_
    simp only [go_sem, qC, qG, qW, h', h1, h2, e2, h4, e4, h5, e5, h6, ← hg8, (R18_moved_pc o.vals keep (by omega) hfk).ret, List.all_cons, List.getElem?_cons_zero, List.getElem?_cons_succ, Bool.true_or, Bool.or_true, Bool.false_eq_true, if_false]
    refine wp_for o.frames.length (fun j st => ∃ fr en cnt vf, st = ⟨fr, en, cnt⟩ ∧ fr 1 = .fz (keep.map (.int .i64)) ∧ fr 2 = .ptr ⟨0, 2, 0⟩ 0 ∧ en ⟨0, 2, 0⟩ = some (.box [.fz (w.objs.map MObj.enc), .fz (w.tasks.map (.int .i64)), .fz (w.outs.map MOut.enc), .fz (w.ins.map (.int .i64)), .int .i64 w.used] false) ∧ fr 4 = .ptr ⟨0, 4, 0⟩ 0 ∧ en ⟨0, 4, 0⟩ = some (.box [.cl [], .cl [], .cl [], .cl [], .int .i64 0] false) ∧ fr 5 = .ptr ⟨0, 5, 0⟩ 0 ∧ en ⟨0, 5, 0⟩ = some (.box [v, .cl [], .fz (w.outs.map MOut.enc), .fz (w.ins.map (.int .i64)), .int .i64 w.used] false) ∧ fr 6 = .int .i64 k ∧
      fr 7 = .ptr ⟨0, 7, g7⟩ 0 ∧ en ⟨0, 7, g7⟩ = some (.box [.int .i64 o.form, .int .i64 o.n, .fz (o.vals.map MVal.enc), .fz (o.frames.map MFrame.enc)] false) ∧ fr 8 = .ptr ⟨0, 8, g8⟩ 0 ∧ en ⟨0, 8, g8⟩ = some (.box [.int .i64 o.form, .int .i64 o.n, .fz ((movedL keep o.vals).map MVal.enc), vf] false) ∧ fr 9 = .int .i64 j ∧ Mine en vf 3 (((o.frames.take j).map (movedF keep)).map MFrame.enc) [68] ∧ Mine en v 4 (((keep.take k).map fun n => movedO keep (w.obj n)).map MObj.enc) [74]) 0 (Nat.zero_le _)
      ⟨_, _, _, .cl [], rfl, by simp only [go_sem, h1], by simp only [go_sem, h2], by simp only [go_sem, e2], by simp only [go_sem, h4], by simp only [go_sem, e4], by simp only [go_sem, h5], by simp only [go_sem, e5], by simp only [go_sem, h6], by simp only [go_sem, qW], by simp only [go_sem, qW], by simp only [go_sem, qW], by simp only [go_sem, qW], by simp only [go_sem, qW], Mine.nil _ _, hv.keep fun t g ht => by simp at ht; subst ht; simp only [go_sem, qW]⟩ ?_
    clear hv e2 e4 e5 h1 h2 h4 h5 h6
    rintro j st hj' ⟨fr, en, cnt, vf, rfl, h1, h2, e2, h4, e4, h5, e5, h6, h7, e7, h8, e8, h9, mf, hv⟩
    simp only [go_sem, qC, qG, qW, h1, h2, e2, h4, e4, h5, e5, h6, h7, e7, h8, e8, h9]
    refine condK_split (fun hq2 => ?_) (fun hq2 => ?_)
    · have h2' : j < o.frames.length := of_decide_eq_true hq2
      have hfm := c3 _ (List.getElem_mem h2')
      simp only [go_sem, qC, qG, qW, h2', h1, h2, e2, h4, e4, h5, e5, h6, h7, e7, h8, e8, h9]
      refine wp_foot ?_
      simp only [go_sem, qC, qG, qW, h2', h1, h2, e2, h4, e4, h5, e5, h6, h7, e7, h8, e8, h9, (R18_moved_pc o.frames[j].env keep (by omega) hfk).ret, (R18_moved_pc o.frames[j].vals keep (by omega) hfk).ret, List.all_cons, List.getElem?_cons_zero, List.getElem?_cons_succ, Bool.true_or, Bool.or_true, Bool.false_eq_true, if_false]
      refine wf_append (D := [68]) (xs := ((o.frames.take j).map (movedF keep)).map MFrame.enc) (ys := [MFrame.enc (movedF keep o.frames[j])]) (rs := []) ?_ ?_ ?_ rfl ?_ ?_
      · simp only [go_sem, qW]
        exact mf.keep fun t g ht => by simp at ht; subst ht; simp only [go_sem, qW]
      · rw [movedF_enc]; simp only [go_sem, qW]
      · rfl
      · simp; omega
      · intro vf' en' cnt' r hown hen hcnt _ _ _
        have k2 : en' ⟨0, 2, 0⟩ = some (.box [.fz (w.objs.map MObj.enc), .fz (w.tasks.map (.int .i64)), .fz (w.outs.map MOut.enc), .fz (w.ins.map (.int .i64)), .int .i64 w.used] false) := by rw [hen 0 2 0 (.inr ⟨by decide, by simp⟩)]; simp only [go_sem, qW, e2]
        have k4 : en' ⟨0, 4, 0⟩ = some (.box [.cl [], .cl [], .cl [], .cl [], .int .i64 0] false) := by rw [hen 0 4 0 (.inr ⟨by decide, by simp⟩)]; simp only [go_sem, qW, e4]
        have k5 : en' ⟨0, 5, 0⟩ = some (.box [v, .cl [], .fz (w.outs.map MOut.enc), .fz (w.ins.map (.int .i64)), .int .i64 w.used] false) := by rw [hen 0 5 0 (.inr ⟨by decide, by simp⟩)]; simp only [go_sem, qW, e5]
        have k7 : en' ⟨0, 7, g7⟩ = some (.box [.int .i64 o.form, .int .i64 o.n, .fz (o.vals.map MVal.enc), .fz (o.frames.map MFrame.enc)] false) := by rw [hen 0 7 g7 (.inr ⟨by decide, by simp⟩)]; simp only [go_sem, qW, e7]
        have k8 : en' ⟨0, 8, g8⟩ = some (.box [.int .i64 o.form, .int .i64 o.n, .fz ((movedL keep o.vals).map MVal.enc), vf] false) := by rw [hen 0 8 g8 (.inr ⟨by decide, by simp⟩)]; simp only [go_sem, qW, e8]
        obtain ⟨s1, s2⟩ := hown.shape
        simp only [go_sem, qC, qG, qW, h1, h2, k2, h4, k4, h5, k5, h6, h7, k7, h8, k8, h9, s1, s2, List.all_cons, List.getElem?_cons_zero, List.getElem?_cons_succ, Bool.true_or, Bool.or_true, Bool.false_eq_true, if_false]
        refine ⟨_, _, _, vf', rfl, ?_⟩
        simp only [go_sem, qC, qG, qW, h1, h2, k2, h4, k4, h5, k5, h6, h7, k7, h8, k8, h9, wrap_succ h2' hff]
        refine ⟨?_, ?_⟩
        · rw [take_step h2', List.map_append, List.map_append]
          refine Mine.sub (D := [68, 68]) (Mine.keep (en := en') hown ?_) (by simp)
          intro t g ht; simp at ht; subst ht; simp only [go_sem, qW]
        · refine hv.keep fun t g ht => ?_
          simp at ht; subst ht
          simp only [go_sem, qW, hen 0 74 g (.inr ⟨by decide, by simp⟩)]
    · have : j = o.frames.length := by simp at hq2; omega
      subst this
      rw [List.take_length] at mf
      rcases mf with ⟨rfl, mx⟩ | ⟨t, gf, f, rfl, ef, ht⟩
      · simp only [go_sem, qC, qG, qW, h1, h2, e2, h4, e4, h5, e5, h6, h7, e7, h8, e8, h9]
        have henc : MObj.enc (movedO keep (w.obj keep[k])) = .agg [.int .i64 o.form, .int .i64 o.n, .fz ((movedL keep o.vals).map MVal.enc), .fz []] := by rw [← ho, movedO_enc]; rw [mx]
        refine w_append (D := [74]) (xs := ((keep.take k).map fun n => movedO keep (w.obj n)).map MObj.enc) (ys := [MObj.enc (movedO keep (w.obj keep[k]))]) (rs := []) ?_ ?_ ?_ ?_ ?_
        · simp only [go_sem, qW]
          exact hv
        · rw [henc]; simp only [go_sem, qW]
        · rfl
        · simp; omega
        · intro v' en' cnt' hown hen hcnt
          have k2 : en' ⟨0, 2, 0⟩ = some (.box [.fz (w.objs.map MObj.enc), .fz (w.tasks.map (.int .i64)), .fz (w.outs.map MOut.enc), .fz (w.ins.map (.int .i64)), .int .i64 w.used] false) := by rw [hen 0 2 0 (.inr ⟨by decide, by simp⟩)]; simp only [go_sem, qW, e2]
          have k4 : en' ⟨0, 4, 0⟩ = some (.box [.cl [], .cl [], .cl [], .cl [], .int .i64 0] false) := by rw [hen 0 4 0 (.inr ⟨by decide, by simp⟩)]; simp only [go_sem, qW, e4]
          have k5 : en' ⟨0, 5, 0⟩ = some (.box [v, .cl [], .fz (w.outs.map MOut.enc), .fz (w.ins.map (.int .i64)), .int .i64 w.used] false) := by rw [hen 0 5 0 (.inr ⟨by decide, by simp⟩)]; simp only [go_sem, qW, e5]
          obtain ⟨s1, s2⟩ := hown.shape
          simp only [go_sem, qC, qG, qW, h1, h2, k2, h4, k4, h5, k5, h6, s1, s2]
          refine ⟨_, _, _, v', rfl, ?_⟩
          simp only [go_sem, qC, qG, qW, h1, h2, k2, h4, k4, h5, k5, h6, wrap_succ h' hfk]
          rw [aloneO_step h', List.map_append]
          refine Mine.sub (D := [74, 74]) (Mine.keep (en := en') hown ?_) (by simp)
          intro t g ht; simp at ht; subst ht; simp only [go_sem, qW]
      · have ht' : t = 68 := by simpa using ht
        subst ht'
        simp only [go_sem, qC, qG, qW, h1, h2, e2, h4, e4, h5, e5, h6, h7, e7, h8, e8, h9, ef, List.length_map, Nat.le_refl, if_true]
        have henc : MObj.enc (movedO keep (w.obj keep[k])) = .agg [.int .i64 o.form, .int .i64 o.n, .fz ((movedL keep o.vals).map MVal.enc), .fz ((o.frames.map (movedF keep)).map MFrame.enc)] := by rw [← ho, movedO_enc]
        have htk : ((o.frames.map (movedF keep)).map MFrame.enc).take o.frames.length = (o.frames.map (movedF keep)).map MFrame.enc := List.take_of_length_le (by simp)
        refine w_append (D := [74]) (xs := ((keep.take k).map fun n => movedO keep (w.obj n)).map MObj.enc) (ys := [MObj.enc (movedO keep (w.obj keep[k]))]) (rs := []) ?_ ?_ ?_ ?_ ?_
        · simp only [go_sem, qW]
          exact hv.keep fun t g ht => by simp at ht; subst ht; simp only [go_sem, qW]
        · rw [henc]; simp only [go_sem, qW, htk]
        · rfl
        · simp; omega
        · intro v' en' cnt' hown hen hcnt
          have k2 : en' ⟨0, 2, 0⟩ = some (.box [.fz (w.objs.map MObj.enc), .fz (w.tasks.map (.int .i64)), .fz (w.outs.map MOut.enc), .fz (w.ins.map (.int .i64)), .int .i64 w.used] false) := by rw [hen 0 2 0 (.inr ⟨by decide, by simp⟩)]; simp only [go_sem, qW, e2]
          have k4 : en' ⟨0, 4, 0⟩ = some (.box [.cl [], .cl [], .cl [], .cl [], .int .i64 0] false) := by rw [hen 0 4 0 (.inr ⟨by decide, by simp⟩)]; simp only [go_sem, qW, e4]
          have k5 : en' ⟨0, 5, 0⟩ = some (.box [v, .cl [], .fz (w.outs.map MOut.enc), .fz (w.ins.map (.int .i64)), .int .i64 w.used] false) := by rw [hen 0 5 0 (.inr ⟨by decide, by simp⟩)]; simp only [go_sem, qW, e5]
          obtain ⟨s1, s2⟩ := hown.shape
          simp only [go_sem, qC, qG, qW, h1, h2, k2, h4, k4, h5, k5, h6, s1, s2]
          refine ⟨_, _, _, v', rfl, ?_⟩
          simp only [go_sem, qC, qG, qW, h1, h2, k2, h4, k4, h5, k5, h6, wrap_succ h' hfk]
          rw [aloneO_step h', List.map_append]
          refine Mine.sub (D := [74, 74]) (Mine.keep (en := en') hown ?_) (by simp)
          intro t g ht; simp at ht; subst ht; simp only [go_sem, qW]
  · have : k = keep.length := by simp at hq; omega
    subst this
    rw [List.take_length] at hv
    simp only [go_sem, qC, qG, qW, h1, h2, e2, h4, e4, h5, e5, h6]
    refine wp_for w.tasks.length (fun j st => ∃ fr en cnt vt, st = ⟨fr, en, cnt⟩ ∧ fr 1 = .fz (keep.map (.int .i64)) ∧ fr 2 = .ptr ⟨0, 2, 0⟩ 0 ∧ en ⟨0, 2, 0⟩ = some (.box [.fz (w.objs.map MObj.enc), .fz (w.tasks.map (.int .i64)), .fz (w.outs.map MOut.enc), .fz (w.ins.map (.int .i64)), .int .i64 w.used] false) ∧ fr 4 = .ptr ⟨0, 4, 0⟩ 0 ∧ en ⟨0, 4, 0⟩ = some (.box [.cl [], .cl [], .cl [], .cl [], .int .i64 0] false) ∧ fr 5 = .ptr ⟨0, 5, 0⟩ 0 ∧ en ⟨0, 5, 0⟩ = some (.box [v, vt, .fz (w.outs.map MOut.enc), .fz (w.ins.map (.int .i64)), .int .i64 w.used] false) ∧ fr 11 = .int .i64 j ∧
      Mine en v 4 ((keep.map fun n => movedO keep (w.obj n)).map MObj.enc) [74] ∧ Mine en vt 1 (((w.tasks.take j).map fun t => (keep.idxOf t : Int)).map (.int .i64)) [93]) 0 (Nat.zero_le _)
      ⟨_, _, _, .cl [], rfl, by simp only [go_sem, h1], by simp only [go_sem, h2], by simp only [go_sem, e2], by simp only [go_sem, h4], by simp only [go_sem, e4], by simp only [go_sem, h5], by simp only [go_sem, e5], by simp only [go_sem, qW], hv, Mine.nil _ _⟩ ?_
    clear hv e2 e4 e5 h1 h2 h4 h5 h6
    rintro j st hj' ⟨fr, en, cnt, vt, rfl, h1, h2, e2, h4, e4, h5, e5, h11, hv, mt⟩
    simp only [go_sem, qC, qG, qW, h1, h2, e2, h4, e4, h5, e5, h11]
    refine condK_split (fun hq2 => ?_) (fun hq2 => ?_)
    · have h2' : j < w.tasks.length := of_decide_eq_true hq2
      simp only [go_sem, qC, qG, qW, h2', h1, h2, e2, h4, e4, h5, e5, h11]
      refine wp_foot ?_
      simp only [go_sem, qC, qG, qW, h2', h1, h2, e2, h4, e4, h5, e5, h11, (R18_index_pc keep w.tasks[j] hfk).ret, List.all_cons, List.getElem?_cons_zero, List.getElem?_cons_succ, Bool.true_or, Bool.or_true, Bool.false_eq_true, if_false]
      refine wf_append (D := [93]) (xs := ((w.tasks.take j).map fun t => (keep.idxOf t : Int)).map (.int .i64)) (ys := [.int .i64 (keep.idxOf w.tasks[j] : Nat)]) (rs := []) ?_ ?_ ?_ rfl ?_ ?_
      · simp only [go_sem, qW]
        exact mt
      · simp only [go_sem, qW]
      · rfl
      · simp; omega
      · intro vt' en' cnt' r hown hen hcnt _ _ _
        have k2 : en' ⟨0, 2, 0⟩ = some (.box [.fz (w.objs.map MObj.enc), .fz (w.tasks.map (.int .i64)), .fz (w.outs.map MOut.enc), .fz (w.ins.map (.int .i64)), .int .i64 w.used] false) := by rw [hen 0 2 0 (.inr ⟨by decide, by simp⟩)]; simp only [go_sem, qW, e2]
        have k4 : en' ⟨0, 4, 0⟩ = some (.box [.cl [], .cl [], .cl [], .cl [], .int .i64 0] false) := by rw [hen 0 4 0 (.inr ⟨by decide, by simp⟩)]; simp only [go_sem, qW, e4]
        have k5 : en' ⟨0, 5, 0⟩ = some (.box [v, vt, .fz (w.outs.map MOut.enc), .fz (w.ins.map (.int .i64)), .int .i64 w.used] false) := by rw [hen 0 5 0 (.inr ⟨by decide, by simp⟩)]; simp only [go_sem, qW, e5]
        obtain ⟨s1, s2⟩ := hown.shape
        simp only [go_sem, qC, qG, qW, h1, h2, k2, h4, k4, h5, k5, h11, s1, s2, List.all_cons, List.getElem?_cons_zero, List.getElem?_cons_succ, Bool.true_or, Bool.or_true, Bool.false_eq_true, if_false]
        refine ⟨_, _, _, vt', rfl, ?_⟩
        simp only [go_sem, qC, qG, qW, h1, h2, k2, h4, k4, h5, k5, h11, wrap_succ h2' hw.tasks]
        refine ⟨?_, ?_⟩
        · refine hv.keep fun t g ht => ?_
          simp at ht; subst ht
          simp only [go_sem, qW, hen 0 74 g (.inr ⟨by decide, by simp⟩)]
        · rw [take_step h2', List.map_append, List.map_append]
          refine Mine.sub (D := [93, 93]) (Mine.keep (en := en') hown ?_) (by simp)
          intro t g ht; simp at ht; subst ht; simp only [go_sem, qW]
    · have : j = w.tasks.length := by simp at hq2; omega
      subst this
      rw [List.take_length] at mt
      simp only [go_sem, qC, qG, qW, h1, h2, e2, h4, e4, h5, e5, h11]
      have e' : ∀ t g, ¬ t = 4 → (en.set ⟨0, 4, 0⟩ (some (.box [v, vt, .fz (w.outs.map MOut.enc), .fz (w.ins.map (.int .i64)), .int .i64 w.used] false))) ⟨0, t, g⟩ = en ⟨0, t, g⟩ := fun t g h => en_ne_t h
      obtain ⟨x1, ks1, a1, a2, _⟩ := (hv.keep (en' := en.set ⟨0, 4, 0⟩ (some (.box [v, vt, .fz (w.outs.map MOut.enc), .fz (w.ins.map (.int .i64)), .int .i64 w.used] false))) fun t g ht => e' t g (by simp at ht; omega)).snap 6
      obtain ⟨x2, ks2, d1, d2, _⟩ := (mt.keep (en' := en.set ⟨0, 4, 0⟩ (some (.box [v, vt, .fz (w.outs.map MOut.enc), .fz (w.ins.map (.int .i64)), .int .i64 w.used] false))) fun t g ht => e' t g (by simp at ht; omega)).snap 6
      simp only [go_sem, qC, qG, qW, a1, a2, d1, d2]
      rfl
end Go.Proofs.YthpmfghgoabnhaaGreat
