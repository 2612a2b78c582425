/- reap.Check: which states are as defined. -/
import Derived.Test.YthpmfghgoabnhaaGreatW15
import Derived.Test.YthpmfghgoabnhaaGreatW11
set_option linter.all false
namespace Go.Proofs.YthpmfghgoabnhaaGreat
open Go.Abs Go.Proofs
theorem reap_isTask_pc (o : MObj) : PC L F.reap_isTask [.agg [.int .i64 o.form, .int .i64 o.n, .fz (o.vals.map MVal.enc), .fz (o.frames.map MFrame.enc)]] (.bool (isTask o)) := by
  refine pc_of LF.reap_isTask rfl rfl ?_
  simp only [go_sem, qC, qG, qW, C.reap_isTask]
  simp [isTask]
theorem reap_full_pc (s : RState) : PC L F.reap_collector_full [.fp [.fz (s.world.objs.map MObj.enc), .fz (s.world.tasks.map (.int .i64)), .fz (s.world.outs.map MOut.enc), .fz (s.world.ins.map (.int .i64)), .int .i64 s.world.used, .fz (s.ages.map (.int .i64)), .fz (s.marks.map (.int .i64)), .int .i64 s.cycle] 0] (.bool (decide (s.cycle = 3))) := by
  refine pc_of LF.reap_collector_full rfl rfl ?_
  simp only [go_sem, qC, qG, qW, C.reap_collector_full]
theorem reap_old_pc (s : RState) (k : Nat) (hk : k < s.ages.length) : PC L F.reap_collector_old [.fp [.fz (s.world.objs.map MObj.enc), .fz (s.world.tasks.map (.int .i64)), .fz (s.world.outs.map MOut.enc), .fz (s.world.ins.map (.int .i64)), .int .i64 s.world.used, .fz (s.ages.map (.int .i64)), .fz (s.marks.map (.int .i64)), .int .i64 s.cycle] 0, .int .i64 k] (.bool (decide (s.ages[k] = 2))) := by
  refine pc_of LF.reap_collector_old rfl rfl ?_
  simp only [go_sem, qC, qG, qW, C.reap_collector_old, hk]
def RI (s : RState) (k : Nat) (fr0 : Nat → Val) (gk : Nat) (r : List Int) (en : En) (cnt : Nat → Nat → Nat) : Prop :=
  en ⟨1, 0, gk⟩ = some (.loop fr0 [142] (LCode.ops [o 7 (.mv (.t 142))]) (LCode.block 5 (.seq (.ops [o 143 (.load false 1 (.t 1)), o 144 (.nilck (.t 143)), o 145 (.fa 0 (.t 144)), o 146 (.fa 6 (.t 145)), o 147 (.load false 1 (.t 146)), o 148 (.mv (.t 7)), o 149 (.ia 1 (.t 147) (.t 148)), o 150 (.load false 1 (.t 149)), o 151 (.bin .eql .num (.t 150) (.c (.int .i64 0)))]) (.cond (.t 151) (.seq (.ops [on (.store 1 (.t 2) (.c (.bool false)))]) .ret) .skip))) .ready) ∧ en ⟨0, 1, 0⟩ = some (.box [.fp [.fz (s.world.objs.map MObj.enc), .fz (s.world.tasks.map (.int .i64)), .fz (s.world.outs.map MOut.enc), .fz (s.world.ins.map (.int .i64)), .int .i64 s.world.used, .fz (s.ages.map (.int .i64)), .fz (s.marks.map (.int .i64)), .int .i64 s.cycle] 0] false) ∧ en ⟨0, 2, 0⟩ = some (.box [.bool false] false) ∧ (∀ x ∈ refsOf (s.world.obj k), refBad s k x = true → x ∈ r) ∧ (∀ x ∈ r, x ∈ refsOf (s.world.obj k)) ∧ 1 ≤ cnt 0 2
def RG (s : RState) (k : Nat) (fr0 : Nat → Val) (gk : Nat) (en : En) (cnt : Nat → Nat → Nat) : Prop :=
  en ⟨1, 0, gk⟩ = some (.loop fr0 [142] (LCode.ops [o 7 (.mv (.t 142))]) (LCode.block 5 (.seq (.ops [o 143 (.load false 1 (.t 1)), o 144 (.nilck (.t 143)), o 145 (.fa 0 (.t 144)), o 146 (.fa 6 (.t 145)), o 147 (.load false 1 (.t 146)), o 148 (.mv (.t 7)), o 149 (.ia 1 (.t 147) (.t 148)), o 150 (.load false 1 (.t 149)), o 151 (.bin .eql .num (.t 150) (.c (.int .i64 0)))]) (.cond (.t 151) (.seq (.ops [on (.store 1 (.t 2) (.c (.bool false)))]) .ret) .skip))) (.done .ret)) ∧ en ⟨0, 2, 0⟩ = some (.box [.bool false] false) ∧ ∃ x ∈ refsOf (s.world.obj k), refBad s k x = true
theorem right_rounds (s : RState) (k : Nat) {fr0 : Nat → Val} {gk : Nat} {c0 : Nat → Nat} (hm2 : markAt s k = 2) (q1 : fr0 1 = .ptr ⟨0, 1, 0⟩ 0) (q2 : fr0 2 = .ptr ⟨0, 2, 0⟩ 0) (q5 : fr0 5 = .int .i64 k)
    (hino : ∀ x ∈ refsOf (s.world.obj k), inR x 0 ((s.marks.length : Int) - 1) = true) (hc : 1 ≤ c0 2) : Rounds ⟨1, 0, gk⟩ c0 (RI s k fr0 gk) (RG s k fr0 gk) := by
  refine ⟨?_, ?_⟩
  · rintro r en cnt en' cnt' ⟨i1, i2, i3, i4, i5, i6⟩ hout hcnt hge
    have hge2 := hge 2 (by decide)
    exact ⟨(hout 1 0 gk (.inl (by omega))).trans i1, (hout 0 1 0 (.inr (.inl (by decide)))).trans i2, (hout 0 2 0 (.inr (.inr (by omega)))).trans i3, i4, i5, by omega⟩
  · rintro x rest en cnt ⟨i1, i2, i3, i4, i5, i6⟩
    have hxr := i5 x (by simp)
    have hxi := hino x hxr
    refine win_yld (fr := fr0) (ps := [142]) (a := (LCode.ops [o 7 (.mv (.t 142))])) (b := (LCode.block 5 (.seq (.ops [o 143 (.load false 1 (.t 1)), o 144 (.nilck (.t 143)), o 145 (.fa 0 (.t 144)), o 146 (.fa 6 (.t 145)), o 147 (.load false 1 (.t 146)), o 148 (.mv (.t 7)), o 149 (.ia 1 (.t 147) (.t 148)), o 150 (.load false 1 (.t 149)), o 151 (.bin .eql .num (.t 150) (.c (.int .i64 0)))]) (.cond (.t 151) (.seq (.ops [on (.store 1 (.t 2) (.c (.bool false)))]) .ret) .skip)))) i1 rfl ?_
    simp only [go_sem, qC, qG, qW, q1, q2, q5, i1, i2, i3, ia_int hxi]
    refine condK_split (fun hb => ?_) (fun hb => ?_)
    · have hbad : refBad s k x = true := by simp only [refBad, hm2, decide_true, Bool.true_and]; exact hb
      simp only [go_sem, qC, qG, qW, q1, q2, q5, i1, i2, i3]
      refine ⟨fun t g ht hg => ?_, fun _ _ => trivial, .inr ⟨rfl, ?_, ?_, x, hxr, hbad⟩⟩
      · have n1 : (⟨0, t, g⟩ : Key) ≠ ⟨1, 0, gk⟩ := by intro he; injection he with h1 _ _; omega
        have n2 : (⟨0, t, g⟩ : Key) ≠ ⟨0, 2, 0⟩ := by intro he; injection he with _ h2 h3; subst h2; omega
        rw [en_ne n1, en_ne n2, en_ne n1]
      · try simp only [go_sem, qW]
        try rfl
      · simp only [go_sem, qW, i3]
    · have hbad : refBad s k x = false := by simp only [refBad, hm2, decide_true, Bool.true_and]; exact hb
      simp only [go_sem, qC, qG, qW, q1, q2, q5, i1, i2, i3]
      refine ⟨fun t g ht hg => ?_, fun _ _ => trivial, .inl ⟨?_, ?_, ?_, fun y hy hz => ?_, fun y hy => i5 y (by simp [hy]), i6⟩⟩
      · have n1 : (⟨0, t, g⟩ : Key) ≠ ⟨1, 0, gk⟩ := by intro he; injection he with h1 _ _; omega
        rw [en_ne n1, en_ne n1]
      · try simp only [go_sem, qW]
        try rfl
      · simp only [go_sem, qW, i2]
      · simp only [go_sem, qW, i3]
      · rcases List.mem_cons.1 (i4 y hy hz) with rfl | h
        · rw [hbad] at hz; cases hz
        · exact h
theorem reap_right_pc (s : RState) (hs : s.few) (hsm : smallWorld s.world = true) (hin : ∀ o ∈ s.world.objs, ∀ x ∈ refsL o, inR x 0 (s.world.objs.length - 1) = true) : PC L F.reap_collector_right [.fp [.fz (s.world.objs.map MObj.enc), .fz (s.world.tasks.map (.int .i64)), .fz (s.world.outs.map MOut.enc), .fz (s.world.ins.map (.int .i64)), .int .i64 s.world.used, .fz (s.ages.map (.int .i64)), .fz (s.marks.map (.int .i64)), .int .i64 s.cycle] 0] (.bool (lensOk s && rowsOk s)) := by
  refine pc_of LF.reap_collector_right rfl rfl ?_
  simp only [go_sem, qC, qG, qW, C.reap_collector_right]
  refine guardK_split (fun g1 => ?_) (fun g1 => ?_)
  · have k2 : s.ages.length = s.world.objs.length := by simp at g1; omega
    simp only [go_sem, qC, qG, qW, g1]
    refine guardK_split (fun g2 => ?_) (fun g2 => ?_)
    · have k3 : s.marks.length = s.world.objs.length := by simp at g2; omega
      simp only [go_sem, qC, qG, qW, g1, g2]
      refine guardK_split (fun g3 => ?_) (fun g3 => ?_)
      · simp only [go_sem, qC, qG, qW, g1, g2, g3]
        refine condK_split (fun g4 => ?_) (fun g4 => ?_)
        · simp only [go_sem, qC, qG, qW]
          simp at g3 g4
          simp [lensOk, inR]; intros; omega
        · have k4 : lensOk s = true := by
            simp at g3 g4
            simp [lensOk, inR, k2, k3]; omega
          rw [k4, Bool.true_and]
          simp only [go_sem, qC, qG, qW]
          refine wp_for (s.world.objs.length) (fun k st => ∃ fr en cnt, st = ⟨fr, en, cnt⟩ ∧ (fr 1 = .ptr ⟨0, 1, 0⟩ 0) ∧ (en ⟨0, 1, 0⟩ = some (.box [.fp [.fz (s.world.objs.map MObj.enc), .fz (s.world.tasks.map (.int .i64)), .fz (s.world.outs.map MOut.enc), .fz (s.world.ins.map (.int .i64)), .int .i64 s.world.used, .fz (s.ages.map (.int .i64)), .fz (s.marks.map (.int .i64)), .int .i64 s.cycle] 0] false)) ∧ (fr 2 = .ptr ⟨0, 2, 0⟩ 0) ∧ (en ⟨0, 2, 0⟩ = some (.box [.bool false] false)) ∧ (fr 49 = .int .i64 s.world.objs.length) ∧ (fr 50 = .int .i64 k) ∧ (1 ≤ cnt 0 2) ∧ (∀ i, i < k → rangeOk s i = true)) 0 (Nat.zero_le _) ⟨_, _, _, rfl, (by first | (simp only [go_sem, qW]; (try rfl); done) | rfl | simp), (by first | (simp only [go_sem, qW]; (try rfl); done) | rfl | simp), (by first | (simp only [go_sem, qW]; (try rfl); done) | rfl | simp), (by first | (simp only [go_sem, qW]; (try rfl); done) | rfl | simp), (by first | (simp only [go_sem, qW]; (try rfl); done) | rfl | simp), (by first | (simp only [go_sem, qW]; (try rfl); done) | rfl | simp), (by first | (simp only [go_sem, qW]; (try rfl); done) | rfl | simp), (by first | (simp only [go_sem, qW]; (try rfl); done) | rfl | simp)⟩ ?_
          rintro k st hk ⟨fr, en, cnt, rfl, h1, e1, h2, e2, h49, h50, hc2, hI⟩
          simp only [go_sem, qC, qG, qW, h1, e1, h2, e2, h49, h50, hc2]
          refine condK_split (fun hq => ?_) (fun hq => ?_)
          · have h' : k < s.world.objs.length := of_decide_eq_true hq
            have ha : k < s.ages.length := by omega
            have hm : k < s.marks.length := by omega
            have bad : rangeOk s k = false → Val.bool false = Val.bool (rowsOk s) := fun h => by
              have : rowsOk s = false := by
                unfold rowsOk
                rw [List.all_eq_false]
                exact ⟨k, by simpa using h', by simp [h]⟩
              rw [this]
            have eR : rangeOk s k = (inR s.ages[k] 0 2 && inR s.marks[k] 0 2) := by simp only [rangeOk, ageAt_get ha, markAt_get hm]
            simp only [go_sem, qC, qG, qW, h', ha, hm, h1, e1, h2, e2, h49, h50, hc2]
            refine guardK_split (fun g5 => ?_) (fun g5 => ?_)
            · simp only [go_sem, qC, qG, qW, g5, h', ha, hm, h1, e1, h2, e2, h49, h50, hc2]
              refine guardK_split (fun g6 => ?_) (fun g6 => ?_)
              · simp only [go_sem, qC, qG, qW, g5, g6, h', ha, hm, h1, e1, h2, e2, h49, h50, hc2]
                refine guardK_split (fun g7 => ?_) (fun g7 => ?_)
                · simp only [go_sem, qC, qG, qW, g5, g6, g7, h', ha, hm, h1, e1, h2, e2, h49, h50, hc2]
                  refine condK_split (fun g8 => ?_) (fun g8 => ?_)
                  · simp only [go_sem, qC, qG, qW, h', ha, hm, h1, e1, h2, e2, h49, h50, hc2]
                    refine bad ?_
                    simp at g5 g6 g7 g8
                    rw [eR]; simp [inR]; intros; omega
                  · simp only [go_sem, qC, qG, qW, h', ha, hm, h1, e1, h2, e2, h49, h50, hc2]
                    refine ⟨_, _, _, rfl, ?_⟩
                    simp only [go_sem, qW, h1, e1, h2, e2, h49, h50, hc2, wrap_succ h' hs.1.objs]
                    intro i hi
                    by_cases hik : i < k
                    · exact hI i hik
                    · have : i = k := by omega
                      subst this
                      simp at g5 g6 g7 g8
                      rw [eR]; simp [inR]; omega
                · simp only [go_sem, qC, qG, qW, g5, g6, g7, h', ha, hm, h1, e1, h2, e2, h49, h50, hc2]
                  refine bad ?_
                  simp at g7
                  rw [eR]; simp [inR]; intros; omega
              · simp only [go_sem, qC, qG, qW, g5, g6, h', ha, hm, h1, e1, h2, e2, h49, h50, hc2]
                refine bad ?_
                simp at g6
                rw [eR]; simp [inR]; intros; omega
            · simp only [go_sem, qC, qG, qW, g5, h', ha, hm, h1, e1, h2, e2, h49, h50, hc2]
              refine bad ?_
              simp at g5
              rw [eR]; simp [inR]; intros; omega
          · have : k = s.world.objs.length := by simp at hq; omega
            subst this
            have eAll : rowsOk s = (List.range s.world.objs.length).all (rowOk s) := by
              unfold rowsOk
              rw [Bool.eq_iff_iff, List.all_eq_true, List.all_eq_true]
              exact ⟨fun h i hi => (Bool.and_eq_true _ _ ▸ h i hi).2, fun h i hi => by rw [hI i (by simpa using hi), h i hi]; rfl⟩
            rw [eAll]
            simp only [go_sem, qC, qG, qW, h1, e1, h2, e2, h49, h50, hc2]
            refine wp_for (s.world.objs.length) (fun k st => ∃ fr en cnt, st = ⟨fr, en, cnt⟩ ∧ (fr 1 = .ptr ⟨0, 1, 0⟩ 0) ∧ (en ⟨0, 1, 0⟩ = some (.box [.fp [.fz (s.world.objs.map MObj.enc), .fz (s.world.tasks.map (.int .i64)), .fz (s.world.outs.map MOut.enc), .fz (s.world.ins.map (.int .i64)), .int .i64 s.world.used, .fz (s.ages.map (.int .i64)), .fz (s.marks.map (.int .i64)), .int .i64 s.cycle] 0] false)) ∧ (fr 2 = .ptr ⟨0, 2, 0⟩ 0) ∧ (en ⟨0, 2, 0⟩ = some (.box [.bool false] false)) ∧ (fr 101 = .fz (s.world.objs.map MObj.enc)) ∧ (fr 102 = .int .i64 s.world.objs.length) ∧ (fr 103 = .int .i64 k) ∧ (1 ≤ cnt 0 2) ∧ (∀ i, i < k → rowOk s i = true)) 0 (Nat.zero_le _) ⟨_, _, _, rfl, (by first | (simp only [go_sem, h1, e1, h2, e2, h49, h50, hc2]; (try rfl); done) | rfl | simp), (by first | (simp only [go_sem, h1, e1, h2, e2, h49, h50, hc2]; (try rfl); done) | rfl | simp), (by first | (simp only [go_sem, h1, e1, h2, e2, h49, h50, hc2]; (try rfl); done) | rfl | simp), (by first | (simp only [go_sem, h1, e1, h2, e2, h49, h50, hc2]; (try rfl); done) | rfl | simp), (by first | (simp only [go_sem, h1, e1, h2, e2, h49, h50, hc2]; (try rfl); done) | rfl | simp), (by first | (simp only [go_sem, h1, e1, h2, e2, h49, h50, hc2]; (try rfl); done) | rfl | simp), (by first | (simp only [go_sem, h1, e1, h2, e2, h49, h50, hc2]; (try rfl); done) | rfl | simp), (by first | (simp only [go_sem, h1, e1, h2, e2, h49, h50, hc2]; (try rfl); done) | rfl | simp), (by first | (simp only [go_sem, h1, e1, h2, e2, h49, h50, hc2]; (try rfl); done) | rfl | simp)⟩ ?_
            rintro k st hk ⟨fr, en, cnt, rfl, h1, e1, h2, e2, h101, h102, h103, hc2, hR⟩
            simp only [go_sem, qC, qG, qW, h1, e1, h2, e2, h101, h102, h103, hc2]
            refine condK_split (fun hq => ?_) (fun hq => ?_)
            · have h' : k < s.world.objs.length := of_decide_eq_true hq
              have ha : k < s.ages.length := by omega
              have hm : k < s.marks.length := by omega
              have bad : rowOk s k = false → Val.bool false = Val.bool ((List.range s.world.objs.length).all (rowOk s)) := fun h => by
                have : (List.range s.world.objs.length).all (rowOk s) = false := by
                  rw [List.all_eq_false]
                  exact ⟨k, by simpa using h', by simp [h]⟩
                rw [this]
              have hso := smallW_obj hsm _ (List.getElem_mem h')
              have next : rowOk s k = true → ∀ i, i < k + 1 → rowOk s i = true := fun h i hi => by
                by_cases hik : i < k
                · exact hR i hik
                · have : i = k := by omega
                  subst this; exact h
              obtain ⟨g6, hg6⟩ : ∃ g, g = cnt 0 6 := ⟨_, rfl⟩
              refine wops_cut (fun st => (st.fr 1 = .ptr ⟨0, 1, 0⟩ 0) ∧ (st.en ⟨0, 1, 0⟩ = some (.box [.fp [.fz (s.world.objs.map MObj.enc), .fz (s.world.tasks.map (.int .i64)), .fz (s.world.outs.map MOut.enc), .fz (s.world.ins.map (.int .i64)), .int .i64 s.world.used, .fz (s.ages.map (.int .i64)), .fz (s.marks.map (.int .i64)), .int .i64 s.cycle] 0] false)) ∧ (st.fr 2 = .ptr ⟨0, 2, 0⟩ 0) ∧ (st.en ⟨0, 2, 0⟩ = some (.box [.bool false] false)) ∧ (st.fr 6 = .ptr ⟨0, 6, g6⟩ 0) ∧ (st.en ⟨0, 6, g6⟩ = some (.box [.int .i64 s.world.objs[k].form, .int .i64 s.world.objs[k].n, .fz (s.world.objs[k].vals.map MVal.enc), .fz (s.world.objs[k].frames.map MFrame.enc)] false)) ∧ (st.fr 5 = .int .i64 k) ∧ (st.fr 101 = .fz (s.world.objs.map MObj.enc)) ∧ (st.fr 102 = .int .i64 s.world.objs.length) ∧ (st.fr 103 = .int .i64 k) ∧ (1 ≤ st.cnt 0 2) ∧ (st.cnt 0 6 = g6 + 1)) ?_ ?_
              · simp only [go_sem, qC, qG, qW, h', h1, e1, h2, e2, h101, h102, h103, hc2, ← hg6]
              · rintro fr en cnt ⟨(h1 : fr 1 = .ptr ⟨0, 1, 0⟩ 0), (e1 : en ⟨0, 1, 0⟩ = some (.box [.fp [.fz (s.world.objs.map MObj.enc), .fz (s.world.tasks.map (.int .i64)), .fz (s.world.outs.map MOut.enc), .fz (s.world.ins.map (.int .i64)), .int .i64 s.world.used, .fz (s.ages.map (.int .i64)), .fz (s.marks.map (.int .i64)), .int .i64 s.cycle] 0] false)), (h2 : fr 2 = .ptr ⟨0, 2, 0⟩ 0), (e2 : en ⟨0, 2, 0⟩ = some (.box [.bool false] false)), (h6 : fr 6 = .ptr ⟨0, 6, g6⟩ 0), (e6 : en ⟨0, 6, g6⟩ = some (.box [.int .i64 s.world.objs[k].form, .int .i64 s.world.objs[k].n, .fz (s.world.objs[k].vals.map MVal.enc), .fz (s.world.objs[k].frames.map MFrame.enc)] false)), (h5 : fr 5 = .int .i64 k), (h101 : fr 101 = .fz (s.world.objs.map MObj.enc)), (h102 : fr 102 = .int .i64 s.world.objs.length), (h103 : fr 103 = .int .i64 k), (hc2 : 1 ≤ cnt 0 2), (hc6 : cnt 0 6 = g6 + 1)⟩
                refine wops_cut (fun st => (st.fr 1 = .ptr ⟨0, 1, 0⟩ 0) ∧ (st.en ⟨0, 1, 0⟩ = some (.box [.fp [.fz (s.world.objs.map MObj.enc), .fz (s.world.tasks.map (.int .i64)), .fz (s.world.outs.map MOut.enc), .fz (s.world.ins.map (.int .i64)), .int .i64 s.world.used, .fz (s.ages.map (.int .i64)), .fz (s.marks.map (.int .i64)), .int .i64 s.cycle] 0] false)) ∧ (st.fr 2 = .ptr ⟨0, 2, 0⟩ 0) ∧ (st.en ⟨0, 2, 0⟩ = some (.box [.bool false] false)) ∧ (st.fr 6 = .ptr ⟨0, 6, g6⟩ 0) ∧ (st.en ⟨0, 6, g6⟩ = some (.box [.int .i64 s.world.objs[k].form, .int .i64 s.world.objs[k].n, .fz (s.world.objs[k].vals.map MVal.enc), .fz (s.world.objs[k].frames.map MFrame.enc)] false)) ∧ (st.fr 5 = .int .i64 k) ∧ (st.fr 101 = .fz (s.world.objs.map MObj.enc)) ∧ (st.fr 102 = .int .i64 s.world.objs.length) ∧ (st.fr 103 = .int .i64 k) ∧ (1 ≤ st.cnt 0 2) ∧ (st.cnt 0 6 = g6 + 1) ∧ (st.fr 130 = .bool (whiteBad s k))) ?_ ?_
                · simp only [go_sem, qC, qG, qW, h', ha, hm, h1, e1, h2, e2, h6, e6, h5, h101, h102, h103, hc6]
                  refine guardK_split (fun g7 => ?_) (fun g7 => ?_)
                  · have hm0 : s.marks[k] = 0 := by simpa using g7
                    simp only [go_sem, qC, qG, qW, g7, h', ha, hm, h1, e1, h2, e2, h6, e6, h5, h101, h102, h103, hc6, (reap_isTask_pc _).ret]
                    refine guardK_split (fun g8 => ?_) (fun g8 => ?_)
                    · simp only [go_sem, qC, qG, qW, g7, g8, h', ha, hm, h1, e1, h2, e2, h6, e6, h5, h101, h102, h103, hc6, (reap_old_pc _ _ ha).ret]
                      refine guardK_split (fun g9 => ?_) (fun g9 => ?_)
                      · have ha2 : s.ages[k] = 2 := by simpa using g9
                        simp only [go_sem, qC, qG, qW, g7, g8, g9, h', ha, hm, h1, e1, h2, e2, h6, e6, h5, h101, h102, h103, hc6, (reap_full_pc _).ret]
                        simp [whiteBad, objAt_get h', ageAt_get ha, markAt_get hm, hm0, ha2, g8, hc2]
                      · simp only [go_sem, qC, qG, qW, g7, g8, g9, h', ha, hm, h1, e1, h2, e2, h6, e6, h5, h101, h102, h103, hc6]
                        simp at g9
                        simp [whiteBad, objAt_get h', ageAt_get ha, markAt_get hm, hm0, g8, g9, hc2]
                    · simp only [go_sem, qC, qG, qW, g7, g8, h', ha, hm, h1, e1, h2, e2, h6, e6, h5, h101, h102, h103, hc6]
                      simp [whiteBad, objAt_get h', markAt_get hm, hm0, g8, hc2]
                  · simp only [go_sem, qC, qG, qW, g7, h', ha, hm, h1, e1, h2, e2, h6, e6, h5, h101, h102, h103, hc6]
                    simp at g7
                    simp [whiteBad, markAt_get hm, g7, hc2]
                · rintro fr en cnt ⟨(h1 : fr 1 = .ptr ⟨0, 1, 0⟩ 0), (e1 : en ⟨0, 1, 0⟩ = some (.box [.fp [.fz (s.world.objs.map MObj.enc), .fz (s.world.tasks.map (.int .i64)), .fz (s.world.outs.map MOut.enc), .fz (s.world.ins.map (.int .i64)), .int .i64 s.world.used, .fz (s.ages.map (.int .i64)), .fz (s.marks.map (.int .i64)), .int .i64 s.cycle] 0] false)), (h2 : fr 2 = .ptr ⟨0, 2, 0⟩ 0), (e2 : en ⟨0, 2, 0⟩ = some (.box [.bool false] false)), (h6 : fr 6 = .ptr ⟨0, 6, g6⟩ 0), (e6 : en ⟨0, 6, g6⟩ = some (.box [.int .i64 s.world.objs[k].form, .int .i64 s.world.objs[k].n, .fz (s.world.objs[k].vals.map MVal.enc), .fz (s.world.objs[k].frames.map MFrame.enc)] false)), (h5 : fr 5 = .int .i64 k), (h101 : fr 101 = .fz (s.world.objs.map MObj.enc)), (h102 : fr 102 = .int .i64 s.world.objs.length), (h103 : fr 103 = .int .i64 k), (hc2 : 1 ≤ cnt 0 2), (hc6 : cnt 0 6 = g6 + 1), (h130 : fr 130 = .bool (whiteBad s k))⟩
                  simp only [go_sem, qC, qG, qW, h1, e1, h2, e2, h6, e6, h5, h101, h102, h103, hc2, hc6, h130]
                  refine condK_split (fun hW => ?_) (fun hW => ?_)
                  · simp only [go_sem, qC, qG, qW, h1, e1, h2, e2, h6, e6, h5, h101, h102, h103, hc2, hc6, h130]
                    exact bad (by simp [rowOk, hW])
                  simp only [go_sem, qC, qG, qW, h1, e1, h2, e2, h6, e6, h5, h101, h102, h103, hc2, hc6, h130, h', hm]
                  refine condK_split (fun hM => ?_) (fun hM => ?_)
                  · simp only [go_sem, qC, qG, qW, h1, e1, h2, e2, h6, e6, h5, h101, h102, h103, hc2, hc6, h130]
                    refine ⟨_, _, _, rfl, ?_⟩
                    simp only [go_sem, qW, h1, e1, h2, e2, h6, e6, h5, h101, h102, h103, hc2, hc6, h130, wrap_succ h' hs.1.objs]
                    have hM' : ¬ markAt s k = 2 := by rw [markAt_get hm]; simpa using hM
                    exact next (by simp [rowOk, hW, refBad, hM'])
                  · have hm2 : markAt s k = 2 := by rw [markAt_get hm]; simpa using hM
                    simp only [go_sem, qC, qG, qW, h1, e1, h2, e2, h6, e6, h5, h101, h102, h103, hc2, hc6, h130, h', hm, (reap_refs_pc _).ret]
                    refine wp_range (f := F.reap_refs_c1) (x := []) (y := [.fp [.int .i64 s.world.objs[k].form, .int .i64 s.world.objs[k].n, .fz (s.world.objs[k].vals.map MVal.enc), .fz (s.world.objs[k].frames.map MFrame.enc)] 0]) (by simp only [go_sem, qW]) ?_
                    intro fr0 key hfr0 hkey
                    have q1 : fr0 1 = .ptr ⟨0, 1, 0⟩ 0 := by rw [hfr0]; simp only [go_sem, qW, h1, e1, h2, e2, h6, e6, h5, h101, h102, h103, hc2, hc6, h130]
                    have q2 : fr0 2 = .ptr ⟨0, 2, 0⟩ 0 := by rw [hfr0]; simp only [go_sem, qW, h1, e1, h2, e2, h6, e6, h5, h101, h102, h103, hc2, hc6, h130]
                    have q5 : fr0 5 = .int .i64 k := by rw [hfr0]; simp only [go_sem, qW, h1, e1, h2, e2, h6, e6, h5, h101, h102, h103, hc2, hc6, h130]
                    obtain ⟨gk, rfl⟩ : ∃ gk, key = ⟨1, 0, gk⟩ := ⟨_, hkey⟩
                    have hino := hin _ (List.getElem_mem h')
                    rw [← k3] at hino
                    rw [← objAt_get h'] at hino ⊢
                    obtain ⟨c0, hc0⟩ : ∃ c0, c0 = setCnt cnt 1 0 (cnt 1 0 + 1) 0 := ⟨_, rfl⟩
                    have hcc : 1 ≤ c0 2 := by rw [hc0]; simpa [setCnt] using hc2
                    have hr := right_rounds s k (gk := gk) (c0 := c0) hm2 q1 q2 q5 (fun x hx => hino x ((refs_mem _ _).2 hx)) hcc
                    rw [hc0] at hr
                    refine (refs_win (s.world.obj k) (small_few (by rw [objAt_get h']; exact hso)) hr ⟨by simp only [go_sem, qW], by simp only [go_sem, e1], by simp only [go_sem, e2], fun x hx _ => hx, fun x hx => hx, by simpa [setCnt] using hc2⟩).mono ?_
                    rintro v en' cnt' (⟨i1, i2, i3, i4, i5, i6⟩ | ⟨i1, i3, x, hx, hb⟩)
                    · have hrow : rowOk s k = true := by
                        have : (refsL (s.world.obj k)).all (fun r => !refBad s k r) = true := by
                          rw [List.all_eq_true]
                          intro x hx
                          have : refBad s k x = false := by
                            rw [← Bool.not_eq_true]
                            intro hb
                            exact absurd (i4 x ((refs_mem _ _).1 hx) hb) (by simp)
                          rw [this]; rfl
                        rw [rowOk, hW, this]; rfl
                      simp only [go_sem, qC, qG, qW, i1, i2, i3, h1, e1, h2, e2, h6, e6, h5, h101, h102, h103, hc2, hc6, h130]
                      refine ⟨_, _, _, rfl, ?_⟩
                      simp only [go_sem, qC, qG, qW, i2, i3, h1, h2, h101, h102, h103, wrap_succ h' hs.1.objs]
                      exact ⟨i6, next hrow⟩
                    · have hrow : rowOk s k = false := by
                        have : (refsL (s.world.obj k)).all (fun r => !refBad s k r) = false := by
                          rw [List.all_eq_false]
                          exact ⟨x, (refs_mem _ _).2 hx, by simp [hb]⟩
                        rw [rowOk, hW, this]; rfl
                      simp only [go_sem, qC, qG, qW, i1, i3, h2]
                      exact bad hrow
            · have : k = s.world.objs.length := by simp at hq; omega
              subst this
              simp only [go_sem, qC, qG, qW, h1, e1, h2, e2, h101, h102, h103, hc2]
              rw [List.all_eq_true.2 fun i hi => hR i (by simpa using hi)]
      · simp only [go_sem, qC, qG, qW, g1, g2, g3]
        simp at g3
        simp [lensOk, inR]; intros; omega
    · simp only [go_sem, qC, qG, qW, g1, g2]
      simp at g2
      simp [lensOk]; intros; omega
  · simp only [go_sem, qC, qG, qW, g1]
    simp at g1
    simp [lensOk]; intros; omega
theorem reap_Check_pc (p : BProg) (s : RState) (hp : p.few) (hs : s.few) (hsp : smallProg p = true) (hsm : smallWorld s.world = true) : PC L F.reap_Check [.agg [.fz (p.nodes.map BNode.enc), .fz (p.funs.map (.int .i64)), .int .i64 p.main, .fz (p.cons.map BCon.enc)], .agg [.fz (s.world.objs.map MObj.enc), .fz (s.world.tasks.map (.int .i64)), .fz (s.world.outs.map MOut.enc), .fz (s.world.ins.map (.int .i64)), .int .i64 s.world.used, .fz (s.ages.map (.int .i64)), .fz (s.marks.map (.int .i64)), .int .i64 s.cycle]] (.int .i64 (if stateOk p s then 0 else 2)) := by
  refine pc_of LF.reap_Check rfl rfl ?_
  simp only [go_sem, qC, qG, qW, C.reap_Check, (mean_Check_pc p s.world hp hs.1 hsp).ret]
  by_cases hg : given p s.world = true
  · simp only [hg, if_true]
    simp only [go_sem, qC, qG, qW, (reap_right_pc s hs hsm (given_in hg)).ret]
    refine condK_split (fun h => ?_) (fun h => ?_)
    · simp only [go_sem, qC, qG, qW]
      have : (lensOk s && rowsOk s) = false := by rw [Bool.not_eq_true'] at h; exact h
      rw [stateOk, hg, Bool.true_and, this]; rfl
    · simp only [go_sem, qC, qG, qW]
      have : (lensOk s && rowsOk s) = true := by rw [Bool.not_eq_false'] at h; exact h
      rw [stateOk, hg, Bool.true_and, this]; rfl
  · simp only [hg]
    simp only [go_sem, qC, qG, qW]
    simp only [Bool.not_eq_true] at hg
    rw [stateOk, hg]; rfl
end Go.Proofs.YthpmfghgoabnhaaGreat
