/- Copies of objects. -/
import Derived.Test.YthpmfghgoabnhaaGreatW19
set_option linter.all false
namespace Go.Proofs.YthpmfghgoabnhaaGreat
open Go.Abs Go.Proofs
theorem apart_fv {k k' : Key} : apartWR (.frz k) (.val k') = true := rfl
theorem apart_fc {k k' : Key} {o n : Nat} : apartWR (.frz k) (.cells k' o n) = true := rfl
theorem apart_ff {k k' : Key} : apartWW (.frz k) (.frz k') = true := rfl
theorem apart_fe {k k' : Key} {e : Option Ent} : apartWW (.frz k) (.ent k' e) = decide (k ≠ k') := rfl
theorem apart_fw {k k' : Key} {o : Nat} {vs : List Val} : apartWW (.frz k) (.cells k' o vs) = decide (k ≠ k') := rfl
theorem apart_fl {k k' : Key} : apartWR (.frz k) (.flag k') = decide (k ≠ k') := rfl
theorem apart_cfz {k k' : Key} {o : Nat} {vs : List Val} : apartWW (.cells k o vs) (.frz k') = decide (k ≠ k') := rfl
theorem flat_fz0 {xs : List Val} : (Val.fz xs).flat = false := (rfl)
attribute [go_sem] apart_fv apart_fc apart_ff apart_fe apart_fw apart_fl apart_cfz flat_fz0 flat_fz apply_frz frz_blk frz_box
theorem reap_renumbered_pc (o : MObj) (hs : smallObj o = true) : PC L F.reap_renumbered [.agg [.int .i64 o.form, .int .i64 o.n, .fz (o.vals.map MVal.enc), .fz (o.frames.map MFrame.enc)], .nilm] (.agg [.int .i64 o.form, .int .i64 o.n, .fz (o.vals.map MVal.enc), .fz (o.frames.map MFrame.enc)]) := by
  obtain ⟨b1, b2, b3⟩ := small_obj hs
  have hf : Few o.frames.length := by unfold Few; omega
  refine pc_of LF.reap_renumbered rfl rfl ?_
  simp only [go_sem, qC, qG, qW, C.reap_renumbered, box_any (v := .nilm) rfl rfl]
  refine wp_foot ?_
  simp only [go_sem, qC, qG, qW, List.all_cons, List.getElem?_cons_zero, List.getElem?_cons_succ, Bool.true_or, Bool.or_true, Bool.false_eq_true, if_false, (renumbered_c1_pc o.vals (by omega)).ret]
  refine wp_for o.frames.length (fun k st => ∃ fr en cnt v, st = ⟨fr, en, cnt⟩ ∧ fr 4 = .ptr ⟨0, 4, 0⟩ 0 ∧ en ⟨0, 4, 0⟩ = some (.box [.int .i64 0, .int .i64 0, .cl [], .cl []] false) ∧ en ⟨0, 3, 0⟩ = some (.box [.nilm] true) ∧ fr 5 = .fn F.reap_renumbered_c1 [] [.ptr ⟨0, 3, 0⟩ 0] ∧ fr 6 = .ptr ⟨0, 6, 0⟩ 0 ∧ en ⟨0, 6, 0⟩ = some (.box [.int .i64 o.form, .int .i64 o.n, .fz (o.vals.map MVal.enc), v] false) ∧ fr 20 = .fz (o.frames.map MFrame.enc) ∧ fr 21 = .int .i64 o.frames.length ∧ fr 22 = .int .i64 k ∧ Mine en v 3 ((o.frames.take k).map MFrame.enc) [40]) 0 (Nat.zero_le _) ⟨_, _, _, .cl [], rfl, by simp only [go_sem, qW], by simp only [go_sem, qW], by simp only [go_sem, qW], by simp only [go_sem, qW], by simp only [go_sem, qW], by simp only [go_sem, qW], by simp only [go_sem, qW], by simp only [go_sem, qW], by simp only [go_sem, qW], Mine.nil _ _⟩ ?_
  rintro k st hk ⟨fr, en, cnt, v, rfl, h4, e4, e3, h5, h6, e6, h20, h21, h22, hv⟩
  simp only [go_sem, qC, qG, qW, h4, e4, e3, h5, h6, e6, h20, h21, h22]
  refine condK_split (fun hq => ?_) (fun hq => ?_)
  · have h' : k < o.frames.length := of_decide_eq_true hq
    have hb := b3 _ (List.getElem_mem h')
    simp only [go_sem, qC, qG, qW, h', h4, e4, e3, h5, h6, e6, h20, h21, h22]
    refine wp_foot ?_
    simp only [go_sem, qC, qG, qW, h', h4, e4, e3, h5, h6, e6, h20, h21, h22, List.all_cons, List.getElem?_cons_zero, List.getElem?_cons_succ, Bool.true_or, Bool.or_true, Bool.false_eq_true, if_false, (renumbered_c1_pc _ (show o.frames[k].env.length ≤ 16777216 by omega)).ret, (renumbered_c1_pc _ (show o.frames[k].vals.length ≤ 16777216 by omega)).ret]
    refine wf_append (D := [40]) (xs := (o.frames.take k).map MFrame.enc) (ys := [MFrame.enc o.frames[k]]) (rs := []) ?_ ?_ ?_ rfl ?_ ?_
    · simp only [go_sem, qW]
      exact hv.keep fun t g ht => by simp at ht; subst ht; simp only [go_sem, qW]
    · simp only [go_sem, qW]
    · rfl
    · simp; omega
    · intro v' en' cnt' r hown hen hcnt _ _ _
      have k3 : en' ⟨0, 3, 0⟩ = some (.box [.nilm] true) := by rw [hen 0 3 0 (.inr ⟨by decide, by simp⟩)]; simp only [go_sem, qW, e3]
      have k4 : en' ⟨0, 4, 0⟩ = some (.box [.int .i64 0, .int .i64 0, .cl [], .cl []] false) := by rw [hen 0 4 0 (.inr ⟨by decide, by simp⟩)]; simp only [go_sem, qW, e4]
      have k6 : en' ⟨0, 6, 0⟩ = some (.box [.int .i64 o.form, .int .i64 o.n, .fz (o.vals.map MVal.enc), v] false) := by rw [hen 0 6 0 (.inr ⟨by decide, by simp⟩)]; simp only [go_sem, qW, e6]
      obtain ⟨s1, s2⟩ := hown.shape
      simp only [go_sem, qC, qG, qW, h4, k4, k3, h5, h6, k6, h20, h21, h22, s1, s2, List.all_cons, List.getElem?_cons_zero, List.getElem?_cons_succ, Bool.true_or, Bool.or_true, Bool.false_eq_true, if_false]
      refine ⟨_, _, _, v', rfl, ?_⟩
      simp only [go_sem, qC, qG, qW, h4, k4, k3, h5, h6, k6, h20, h21, h22, wrap_succ h' hf]
      rw [take_step h', List.map_append]
      refine Mine.sub (D := [40, 40]) (Mine.keep (en := en') hown ?_) (by simp)
      intro t g ht; simp at ht; subst ht; simp only [go_sem, qW]
  · have : k = o.frames.length := by simp at hq; omega
    subst this
    rw [List.take_length] at hv
    simp only [go_sem, qC, qG, qW, h4, e4, e3, h5, h6, e6, h20, h21, h22]
    obtain ⟨r, ks, s1, s2, _⟩ := (hv.keep (en' := en.set ⟨0, 4, 0⟩ (some (.box [.int .i64 o.form, .int .i64 o.n, .fz (o.vals.map MVal.enc), v] false))) fun t g ht => by simp at ht; subst ht; simp only [go_sem, qW]).snap 6
    simp only [go_sem, qC, qG, qW, s1, s2]
theorem one_cl {xs : List Val} : (Val.cl xs).one = true := (rfl)
theorem cells_cl {xs : List Val} : (Val.cl xs).cells = [.cl xs] := (rfl)
theorem one_bl {k : Key} {a b : Nat} : (Val.bl k a b).one = true := (rfl)
theorem cells_bl {k : Key} {a b : Nat} : (Val.bl k a b).cells = [.bl k a b] := (rfl)
theorem flat_mo {a b : IntKind} {i j : Int} {xs : List Val} {cs : List Val} : (Val.agg (.int a i :: .int b j :: .fz xs :: cs)).flat = false := (rfl)
theorem mine_bl {en : En} {t g n size : Nat} {xs : List Val} {f : Bool} (h : en ⟨0, t, g⟩ = some (.blk size xs f)) (hx : n = xs.length) : Mine en (.bl ⟨0, t, g⟩ 0 n) size xs [t] := .inr ⟨t, g, f, by rw [hx], h, by simp⟩
theorem clone_cases (size : Nat) (xs : List Val) : (xs = [] ∧ cloneV size xs = .cl []) ∨ (xs ≠ [] ∧ cloneV size xs = .own size xs) := by
  cases xs with
  | nil => exact .inl ⟨rfl, rfl⟩
  | cons x xs => exact .inr ⟨by simp, rfl⟩
theorem take_map_len {α : Type} {f : α → Val} {l : List α} : (l.map f).take l.length = l.map f := List.take_of_length_le (by simp)
theorem smallW_len {w : MWorld} (h : smallWorld w = true) : w.objs.length ≤ 130 ∧ w.tasks.length ≤ 130 ∧ w.outs.length ≤ 110 ∧ w.ins.length ≤ 60 := by
  simp only [smallWorld, Bool.and_eq_true, decide_eq_true_eq] at h
  omega
theorem reap_copied_pc (w : MWorld) (hw : w.few) (hs : smallWorld w = true) : PC L F.reap_copied [.agg [.fz (w.objs.map MObj.enc), .fz (w.tasks.map (.int .i64)), .fz (w.outs.map MOut.enc), .fz (w.ins.map (.int .i64)), .int .i64 w.used]] (.agg [.fz (w.objs.map MObj.enc), .fz (w.tasks.map (.int .i64)), .fz (w.outs.map MOut.enc), .fz (w.ins.map (.int .i64)), .int .i64 w.used]) := by
  obtain ⟨b1, b2, b3, b4⟩ := smallW_len hs
  have c1 := Clone_int_pc (w.tasks.map (.int .i64)) (headOk_ints _) (by simp; omega)
  have c2 := Clone_out_pc (w.outs.map MOut.enc) (headOk_outs _) (by simp; omega)
  have c3 := Clone_int_pc (w.ins.map (.int .i64)) (headOk_ints _) (by simp; omega)
  refine pc_of LF.reap_copied rfl rfl ?_
  simp only [go_sem, qC, qG, qW, C.reap_copied]
  refine wp_cutE (fun st => st.fr 2 = .ptr ⟨0, 2, 0⟩ 0 ∧ st.en ⟨0, 2, 0⟩ = some (.box [.cl [], .cl [], .cl [], .cl [], .int .i64 0] false) ∧ st.fr 1 = .ptr ⟨0, 1, 0⟩ 0 ∧ st.en ⟨0, 1, 0⟩ = some (.box [.fz (w.objs.map MObj.enc), .fz (w.tasks.map (.int .i64)), .fz (w.outs.map MOut.enc), .fz (w.ins.map (.int .i64)), .int .i64 w.used] false) ∧ st.fr 3 = .ptr ⟨0, 3, 0⟩ 0 ∧
    ∃ vT vO vI, st.en ⟨0, 3, 0⟩ = some (.box [.cl [], vT, vO, vI, .int .i64 w.used] false) ∧ Mine st.en vT 1 (w.tasks.map (.int .i64)) [8] ∧ Mine st.en vO 2 (w.outs.map MOut.enc) [11] ∧ Mine st.en vI 1 (w.ins.map (.int .i64)) [14]) ?_ ?_
  · refine wp_foot ?_
    rcases clone_cases 1 (w.tasks.map (Val.int .i64)) with ⟨t1, t2⟩ | ⟨t1, t2⟩ <;> rw [t2] at c1 <;>
    rcases clone_cases 2 (w.outs.map MOut.enc) with ⟨o1, o2⟩ | ⟨o1, o2⟩ <;> rw [o2] at c2 <;>
    rcases clone_cases 1 (w.ins.map (Val.int .i64)) with ⟨i1, i2⟩ | ⟨i1, i2⟩ <;> rw [i2] at c3
    all_goals simp only [go_sem, qC, qG, qW, List.all_cons, List.getElem?_cons_zero, List.getElem?_cons_succ, Bool.true_or, Bool.or_true, Bool.false_eq_true, if_false, Option.getD_some, c1.ret, c2.ret, c3.ret, List.length_map, Nat.le_refl, if_true, take_map_len, one_cl, cells_cl, one_bl, cells_bl]
    all_goals refine ⟨_, _, _, rfl, ?_, ?_, ?_⟩
    all_goals first
      | exact .inl ⟨rfl, by assumption⟩
      | exact mine_bl (by simp only [go_sem, qW]; try rfl) (by simp only [List.length_map])
  · rintro fr en cnt ⟨h2, e2, h1, e1, h3, vT, vO, vI, e3, mT, mO, mI⟩
    dsimp only at h2 e2 h1 e1 h3 e3 mT mO mI
    simp only [go_sem, qC, qG, qW, h2, e2, h1, e1, h3, e3]
    refine wp_for w.objs.length (fun k st => ∃ fr en cnt v, st = ⟨fr, en, cnt⟩ ∧ fr 2 = .ptr ⟨0, 2, 0⟩ 0 ∧ en ⟨0, 2, 0⟩ = some (.box [.cl [], .cl [], .cl [], .cl [], .int .i64 0] false) ∧ fr 3 = .ptr ⟨0, 3, 0⟩ 0 ∧ en ⟨0, 3, 0⟩ = some (.box [v, vT, vO, vI, .int .i64 w.used] false) ∧ fr 19 = .fz (w.objs.map MObj.enc) ∧ fr 20 = .int .i64 w.objs.length ∧ fr 21 = .int .i64 k ∧
      Mine en vT 1 (w.tasks.map (.int .i64)) [8] ∧ Mine en vO 2 (w.outs.map MOut.enc) [11] ∧ Mine en vI 1 (w.ins.map (.int .i64)) [14] ∧ Mine en v 4 ((w.objs.take k).map MObj.enc) [30]) 0 (Nat.zero_le _) ⟨_, _, _, .cl [], rfl, by simp only [go_sem, h2], by simp only [go_sem, e2], by simp only [go_sem, h3], by simp only [go_sem, e3], by simp only [go_sem, qW], by simp only [go_sem, qW], by simp only [go_sem, qW], mT, mO, mI, Mine.nil _ _⟩ ?_
    rintro k st hk ⟨fr, en, cnt, v, rfl, h2, e2, h3, e3, h19, h20, h21, mT, mO, mI, hv⟩
    simp only [go_sem, qC, qG, qW, h2, e2, h3, e3, h19, h20, h21]
    refine condK_split (fun hq => ?_) (fun hq => ?_)
    · have h' : k < w.objs.length := of_decide_eq_true hq
      have hso := smallW_obj hs _ (List.getElem_mem h')
      simp only [go_sem, qC, qG, qW, h', h2, e2, h3, e3, h19, h20, h21]
      refine wp_foot ?_
      simp only [go_sem, qC, qG, qW, h', h2, e2, h3, e3, h19, h20, h21, List.all_cons, List.getElem?_cons_zero, List.getElem?_cons_succ, Bool.true_or, Bool.or_true, Bool.false_eq_true, if_false, flat_mo, (reap_renumbered_pc _ hso).ret]
      refine wf_append (D := [30]) (xs := (w.objs.take k).map MObj.enc) (ys := [MObj.enc w.objs[k]]) (rs := []) ?_ ?_ ?_ rfl ?_ ?_
      · simp only [go_sem, qW]
        exact hv.keep fun t g ht => by simp at ht; subst ht; simp only [go_sem, qW]
      · simp only [go_sem, qW]
      · rfl
      · simp; omega
      · intro v' en' cnt' r hown hen hcnt _ _ _
        have k2 : en' ⟨0, 2, 0⟩ = some (.box [.cl [], .cl [], .cl [], .cl [], .int .i64 0] false) := by rw [hen 0 2 0 (.inr ⟨by decide, by simp⟩)]; simp only [go_sem, qW, e2]
        have k3 : en' ⟨0, 3, 0⟩ = some (.box [v, vT, vO, vI, .int .i64 w.used] false) := by rw [hen 0 3 0 (.inr ⟨by decide, by simp⟩)]; simp only [go_sem, qW, e3]
        obtain ⟨s1, s2⟩ := hown.shape
        simp only [go_sem, qC, qG, qW, h2, k2, h3, k3, h19, h20, h21, s1, s2, List.all_cons, List.getElem?_cons_zero, List.getElem?_cons_succ, Bool.true_or, Bool.or_true, Bool.false_eq_true, if_false]
        refine ⟨_, _, _, v', rfl, ?_⟩
        simp only [go_sem, qC, qG, qW, h2, k2, h3, k3, h19, h20, h21, wrap_succ h' hw.objs]
        refine ⟨mT.keep ?_, mO.keep ?_, mI.keep ?_, ?_⟩
        · intro t g ht; simp at ht; subst ht
          rw [en_ne (by simp), hen 0 8 g (.inr ⟨by decide, by simp⟩)]; simp only [go_sem, qW]
        · intro t g ht; simp at ht; subst ht
          rw [en_ne (by simp), hen 0 11 g (.inr ⟨by decide, by simp⟩)]; simp only [go_sem, qW]
        · intro t g ht; simp at ht; subst ht
          rw [en_ne (by simp), hen 0 14 g (.inr ⟨by decide, by simp⟩)]; simp only [go_sem, qW]
        · rw [take_step h', List.map_append]
          refine Mine.sub (D := [30, 30]) (Mine.keep (en := en') hown ?_) (by simp)
          intro t g ht; simp at ht; subst ht; simp only [go_sem, qW]
    · have : k = w.objs.length := by simp at hq; omega
      subst this
      rw [List.take_length] at hv
      simp only [go_sem, qC, qG, qW, h2, e2, h3, e3, h19, h20, h21, mT.shape.1, mT.shape.2, mO.shape.1, mO.shape.2, mI.shape.1, mI.shape.2, hv.shape.1, hv.shape.2]
      obtain ⟨r1, ks1, s1, s1', _⟩ := (hv.keep (en' := en.set ⟨0, 2, 0⟩ (some (.box [v, vT, vO, vI, .int .i64 w.used] false))) fun t g ht => by simp at ht; subst ht; simp only [go_sem, qW]).snap 6
      obtain ⟨r2, ks2, s2, s2', _⟩ := (mT.keep (en' := en.set ⟨0, 2, 0⟩ (some (.box [v, vT, vO, vI, .int .i64 w.used] false))) fun t g ht => by simp at ht; subst ht; simp only [go_sem, qW]).snap 6
      obtain ⟨r3, ks3, s3, s3', _⟩ := (mO.keep (en' := en.set ⟨0, 2, 0⟩ (some (.box [v, vT, vO, vI, .int .i64 w.used] false))) fun t g ht => by simp at ht; subst ht; simp only [go_sem, qW]).snap 6
      obtain ⟨r4, ks4, s4, s4', _⟩ := (mI.keep (en' := en.set ⟨0, 2, 0⟩ (some (.box [v, vT, vO, vI, .int .i64 w.used] false))) fun t g ht => by simp at ht; subst ht; simp only [go_sem, qW]).snap 6
      simp only [go_sem, qC, qG, qW, s1, s2, s3, s4, s1', s2', s3', s4']
end Go.Proofs.YthpmfghgoabnhaaGreat
