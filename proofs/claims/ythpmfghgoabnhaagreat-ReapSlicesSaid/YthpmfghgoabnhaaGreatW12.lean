/- Contracts: comparisons, and small functions of the document's answer. -/
import Derived.Test.YthpmfghgoabnhaaGreatW3
import Derived.Test.YthpmfghgoabnhaaGreatW5
import Derived.Test.YthpmfghgoabnhaaGreatHxE
set_option linter.all false
namespace Go.Proofs.YthpmfghgoabnhaaGreat
open Go.Abs Go.Proofs
theorem eq_step {α : Type} {a b : List α} {k : Nat} (ha : k < a.length) (hb : k < b.length) (h : a.take k = b.take k) (he : a[k] = b[k]) : a.take (k + 1) = b.take (k + 1) := by
  rw [take_step ha, take_step hb, h, he]
theorem eq_full {α : Type} {a b : List α} (hl : a.length = b.length) (h : a.take a.length = b.take a.length) : a = b := by
  rw [List.take_length, hl, List.take_length] at h; exact h
theorem ne_at {α : Type} {a b : List α} {k : Nat} (ha : k < a.length) (hb : k < b.length) (h : ¬ a[k] = b[k]) : ¬ a = b := by
  rintro rfl; exact h rfl
theorem R06_SameInts_pc (a b : List Int) (ha : Few a.length) : PC L F.R06_SameInts [.fz (a.map (.int .i64)), .fz (b.map (.int .i64))] (.bool (decide (a = b))) := by
  refine pc_of LF.R06_SameInts rfl rfl ?_
  simp only [go_sem, qC, qG, qW, C.R06_SameInts]
  refine condK_split (fun h => ?_) (fun h => ?_)
  · simp only [go_sem, qC, qG, qW]
    simp at h
    have : ¬ a = b := by rintro rfl; exact h rfl
    simp [this]
  · have hl : a.length = b.length := by simp at h; exact h
    simp only [go_sem, qC, qG, qW]
    refine wp_for (a.length) (fun k st => ∃ fr en cnt, st = ⟨fr, en, cnt⟩ ∧ (fr 0 = .fz (a.map (.int .i64))) ∧ (fr 1 = .fz (b.map (.int .i64))) ∧ (fr 5 = .int .i64 k) ∧ (a.take k = b.take k)) 0 (Nat.zero_le _) ⟨_, _, _, rfl, (by first | (simp only [go_sem, qW]; (try rfl); done) | rfl | simp), (by first | (simp only [go_sem, qW]; (try rfl); done) | rfl | simp), (by first | (simp only [go_sem, qW]; (try rfl); done) | rfl | simp), (by first | (simp only [go_sem, qW]; (try rfl); done) | rfl | simp)⟩ ?_
    rintro k st hk ⟨fr, en, cnt, rfl, h0, h1, h5, hI⟩
    simp only [go_sem, qC, qG, qW, h0, h1, h5]
    refine condK_split (fun hq => ?_) (fun hq => ?_)
    · have h' : k < a.length := of_decide_eq_true hq
      have h'' : k < b.length := by omega
      simp only [go_sem, qC, qG, qW, h', h'', h0, h1, h5]
      refine condK_split (fun hb => ?_) (fun hb => ?_)
      · simp only [go_sem, qC, qG, qW]
        simp at hb
        simp [ne_at h' h'' hb]
      · simp only [go_sem, qC, qG, qW, h', h0, h1, h5]
        simp at hb
        refine ⟨_, _, _, rfl, ?_⟩
        simp only [go_sem, qW, h0, h1, h5, wrap_succ h' ha]
        exact eq_step h' h'' hI hb
    · have : k = a.length := by simp at hq; omega
      subst this
      simp only [go_sem, qC, qG, qW]
      simp [eq_full hl hI]
theorem MVal.eq_iff {a b : MVal} : (decide (a.kind = b.kind) && decide (a.n = b.n)) = decide (a = b) := by
  cases a; cases b; simp
theorem MOut.eq_iff {a b : MOut} : (decide (a.port = b.port) && decide (a.n = b.n)) = decide (a = b) := by
  cases a; cases b; simp
theorem R06_SameVals_pc (a b : List MVal) (ha : Few a.length) : PC L F.R06_SameVals [.fz (a.map MVal.enc), .fz (b.map MVal.enc)] (.bool (decide (a = b))) := by
  refine pc_of LF.R06_SameVals rfl rfl ?_
  simp only [go_sem, qC, qG, qW, C.R06_SameVals]
  refine condK_split (fun h => ?_) (fun h => ?_)
  · simp only [go_sem, qC, qG, qW]
    simp at h
    have : ¬ a = b := by rintro rfl; exact h rfl
    simp [this]
  · have hl : a.length = b.length := by simp at h; exact h
    simp only [go_sem, qC, qG, qW]
    refine wp_for (a.length) (fun k st => ∃ fr en cnt, st = ⟨fr, en, cnt⟩ ∧ (fr 0 = .fz (a.map MVal.enc)) ∧ (fr 1 = .fz (b.map MVal.enc)) ∧ (fr 5 = .int .i64 k) ∧ (a.take k = b.take k)) 0 (Nat.zero_le _) ⟨_, _, _, rfl, (by first | (simp only [go_sem, qW]; (try rfl); done) | rfl | simp), (by first | (simp only [go_sem, qW]; (try rfl); done) | rfl | simp), (by first | (simp only [go_sem, qW]; (try rfl); done) | rfl | simp), (by first | (simp only [go_sem, qW]; (try rfl); done) | rfl | simp)⟩ ?_
    rintro k st hk ⟨fr, en, cnt, rfl, h0, h1, h5, hI⟩
    simp only [go_sem, qC, qG, qW, h0, h1, h5]
    refine condK_split (fun hq => ?_) (fun hq => ?_)
    · have h' : k < a.length := of_decide_eq_true hq
      have h'' : k < b.length := by omega
      simp only [go_sem, qC, qG, qW, h', h'', h0, h1, h5, MVal.eq_iff]
      refine condK_split (fun hb => ?_) (fun hb => ?_)
      · simp only [go_sem, qC, qG, qW]
        simp at hb
        simp [ne_at h' h'' hb]
      · simp only [go_sem, qC, qG, qW, h', h0, h1, h5]
        simp at hb
        refine ⟨_, _, _, rfl, ?_⟩
        simp only [go_sem, qW, h0, h1, h5, wrap_succ h' ha]
        exact eq_step h' h'' hI hb
    · have : k = a.length := by simp at hq; omega
      subst this
      simp only [go_sem, qC, qG, qW]
      simp [eq_full hl hI]
theorem R06_SameOuts_pc (a b : List MOut) (ha : Few a.length) : PC L F.R06_SameOuts [.fz (a.map MOut.enc), .fz (b.map MOut.enc)] (.bool (decide (a = b))) := by
  refine pc_of LF.R06_SameOuts rfl rfl ?_
  simp only [go_sem, qC, qG, qW, C.R06_SameOuts]
  refine condK_split (fun h => ?_) (fun h => ?_)
  · simp only [go_sem, qC, qG, qW]
    simp at h
    have : ¬ a = b := by rintro rfl; exact h rfl
    simp [this]
  · have hl : a.length = b.length := by simp at h; exact h
    simp only [go_sem, qC, qG, qW]
    refine wp_for (a.length) (fun k st => ∃ fr en cnt, st = ⟨fr, en, cnt⟩ ∧ (fr 0 = .fz (a.map MOut.enc)) ∧ (fr 1 = .fz (b.map MOut.enc)) ∧ (fr 5 = .int .i64 k) ∧ (a.take k = b.take k)) 0 (Nat.zero_le _) ⟨_, _, _, rfl, (by first | (simp only [go_sem, qW]; (try rfl); done) | rfl | simp), (by first | (simp only [go_sem, qW]; (try rfl); done) | rfl | simp), (by first | (simp only [go_sem, qW]; (try rfl); done) | rfl | simp), (by first | (simp only [go_sem, qW]; (try rfl); done) | rfl | simp)⟩ ?_
    rintro k st hk ⟨fr, en, cnt, rfl, h0, h1, h5, hI⟩
    simp only [go_sem, qC, qG, qW, h0, h1, h5]
    refine condK_split (fun hq => ?_) (fun hq => ?_)
    · have h' : k < a.length := of_decide_eq_true hq
      have h'' : k < b.length := by omega
      simp only [go_sem, qC, qG, qW, h', h'', h0, h1, h5, MOut.eq_iff]
      refine condK_split (fun hb => ?_) (fun hb => ?_)
      · simp only [go_sem, qC, qG, qW]
        simp at hb
        simp [ne_at h' h'' hb]
      · simp only [go_sem, qC, qG, qW, h', h0, h1, h5]
        simp at hb
        refine ⟨_, _, _, rfl, ?_⟩
        simp only [go_sem, qW, h0, h1, h5, wrap_succ h' ha]
        exact eq_step h' h'' hI hb
    · have : k = a.length := by simp at hq; omega
      subst this
      simp only [go_sem, qC, qG, qW]
      simp [eq_full hl hI]
theorem R06_SameObj_pc (a b : MObj) (ha : a.few) : PC L F.R06_SameObj [.agg [.int .i64 a.form, .int .i64 a.n, .fz (a.vals.map MVal.enc), .fz (a.frames.map MFrame.enc)], .agg [.int .i64 b.form, .int .i64 b.n, .fz (b.vals.map MVal.enc), .fz (b.frames.map MFrame.enc)]] (.bool (decide (a = b))) := by
  have ne : (¬ a.form = b.form ∨ ¬ a.n = b.n ∨ ¬ a.vals = b.vals ∨ ¬ a.frames = b.frames) → Val.bool false = Val.bool (decide (a = b)) := by
    intro h
    have : ¬ a = b := by rintro rfl; simp at h
    simp [this]
  refine pc_of LF.R06_SameObj rfl rfl ?_
  simp only [go_sem, qC, qG, qW, C.R06_SameObj]
  refine guardK_split (fun g1 => ?_) (fun g1 => ?_)
  · simp only [go_sem, qC, qG, qW, g1]
    refine guardK_split (fun g2 => ?_) (fun g2 => ?_)
    · simp only [go_sem, qC, qG, qW, g1, g2, (R06_SameVals_pc _ _ ha.1).ret]
      refine guardK_split (fun g3 => ?_) (fun g3 => ?_)
      · simp only [go_sem, qC, qG, qW, g1, g2, g3]
        refine condK_split (fun g4 => ?_) (fun g4 => ?_)
        · simp only [go_sem, qC, qG, qW]
          simp at g4
          exact ne (.inr (.inr (.inr (by intro e; rw [e] at g4; exact g4 rfl))))
        · have hl : a.frames.length = b.frames.length := by simp at g4; exact g4
          simp only [go_sem, qC, qG, qW]
          refine wp_for (a.frames.length) (fun k st => ∃ fr en cnt, st = ⟨fr, en, cnt⟩ ∧ (fr 2 = .ptr ⟨0, 2, 0⟩ 0) ∧ (en ⟨0, 2, 0⟩ = some (.box [.int .i64 a.form, .int .i64 a.n, .fz (a.vals.map MVal.enc), .fz (a.frames.map MFrame.enc)] false)) ∧ (fr 3 = .ptr ⟨0, 3, 0⟩ 0) ∧ (en ⟨0, 3, 0⟩ = some (.box [.int .i64 b.form, .int .i64 b.n, .fz (b.vals.map MVal.enc), .fz (b.frames.map MFrame.enc)] false)) ∧ (fr 5 = .int .i64 k) ∧ (a.frames.take k = b.frames.take k)) 0 (Nat.zero_le _) ⟨_, _, _, rfl, (by first | (simp only [go_sem, qW]; (try rfl); done) | rfl | simp), (by first | (simp only [go_sem, qW]; (try rfl); done) | rfl | simp), (by first | (simp only [go_sem, qW]; (try rfl); done) | rfl | simp), (by first | (simp only [go_sem, qW]; (try rfl); done) | rfl | simp), (by first | (simp only [go_sem, qW]; (try rfl); done) | rfl | simp), (by first | (simp only [go_sem, qW]; (try rfl); done) | rfl | simp)⟩ ?_
          rintro k st hk ⟨fr, en, cnt, rfl, h2, e2, h3, e3, h5, hI⟩
          simp only [go_sem, qC, qG, qW, h2, e2, h3, e3, h5]
          refine condK_split (fun hq => ?_) (fun hq => ?_)
          · have h' : k < a.frames.length := of_decide_eq_true hq
            have h'' : k < b.frames.length := by omega
            have hx := ha.2.2 a.frames[k] (List.getElem_mem _)
            simp only [go_sem, qC, qG, qW]
            refine wp_foot ?_
            simp only [go_sem, qC, qG, qW, h', h'', h2, e2, h3, e3, h5, List.all_cons, List.getElem?_cons_zero, List.getElem?_cons_succ, Bool.true_or, Bool.or_true]
            have fin : ¬ a.frames[k] = b.frames[k] → Val.bool false = Val.bool (decide (a = b)) := fun h => ne (.inr (.inr (.inr (ne_at h' h'' h))))
            refine guardK_split (fun g5 => ?_) (fun g5 => ?_)
            · simp only [go_sem, qC, qG, qW, g5, (R06_SameVals_pc _ _ hx.1).ret]
              refine guardK_split (fun g6 => ?_) (fun g6 => ?_)
              · simp only [go_sem, qC, qG, qW, g6, (R06_SameVals_pc _ _ hx.2).ret]
                refine condK_split (fun g7 => ?_) (fun g7 => ?_)
                · simp only [go_sem, qC, qG, qW]
                  simp at g7
                  exact fin fun e => g7 (by rw [e])
                · simp only [go_sem, qC, qG, qW, h', h2, e2, h3, e3, h5]
                  simp at g5 g6 g7
                  refine ⟨_, _, _, rfl, ?_⟩
                  simp only [go_sem, qW, h2, e2, h3, e3, h5, wrap_succ h' ha.2.1]
                  refine eq_step h' h'' hI ?_
                  generalize a.frames[k] = x at *
                  generalize b.frames[k] = y at *
                  cases x; cases y; simp only at g5 g6 g7; subst g5 g6 g7; rfl
              · simp only [go_sem, qC, qG, qW, g6, Bool.not_false]
                simp at g6
                exact fin fun e => g6 (by rw [e])
            · simp only [go_sem, qC, qG, qW, g5, Bool.not_false]
              simp at g5
              exact fin fun e => g5 (by rw [e])
          · have : k = a.frames.length := by simp at hq; omega
            subst this
            simp only [go_sem, qC, qG, qW]
            simp at g1 g2 g3
            have : a = b := by
              have hf := eq_full hl hI
              cases a; cases b; simp only at g1 g2 g3 hf; subst g1 g2 g3 hf; rfl
            simp [this]
      · simp only [go_sem, qC, qG, qW, g3, Bool.not_false]
        simp at g3
        exact ne (.inr (.inr (.inl g3)))
    · simp only [go_sem, qC, qG, qW, g2, Bool.not_false]
      simp at g2
      exact ne (.inr (.inl g2))
  · simp only [go_sem, qC, qG, qW, g1, Bool.not_false]
    simp at g1
    exact ne (.inl g1)
theorem R06_Same_pc (a b : MWorld) (ha : a.few) : PC L F.R06_Same [.agg [.fz (a.objs.map MObj.enc), .fz (a.tasks.map (.int .i64)), .fz (a.outs.map MOut.enc), .fz (a.ins.map (.int .i64)), .int .i64 a.used], .agg [.fz (b.objs.map MObj.enc), .fz (b.tasks.map (.int .i64)), .fz (b.outs.map MOut.enc), .fz (b.ins.map (.int .i64)), .int .i64 b.used]] (.bool (decide (a = b))) := by
  have ne : (¬ a.objs = b.objs ∨ ¬ a.tasks = b.tasks ∨ ¬ a.outs = b.outs ∨ ¬ a.ins = b.ins ∨ ¬ a.used = b.used) → Val.bool false = Val.bool (decide (a = b)) := by
    intro h
    have : ¬ a = b := by rintro rfl; simp at h
    simp [this]
  refine pc_of LF.R06_Same rfl rfl ?_
  simp only [go_sem, qC, qG, qW, C.R06_Same]
  refine guardK_split (fun g1 => ?_) (fun g1 => ?_)
  · simp only [go_sem, qC, qG, qW, g1, (R06_SameInts_pc _ _ ha.tasks).ret]
    refine guardK_split (fun g2 => ?_) (fun g2 => ?_)
    · simp only [go_sem, qC, qG, qW, g2, (R06_SameOuts_pc _ _ ha.outs).ret]
      refine guardK_split (fun g3 => ?_) (fun g3 => ?_)
      · simp only [go_sem, qC, qG, qW, g3, (R06_SameInts_pc _ _ ha.ins).ret]
        refine guardK_split (fun g4 => ?_) (fun g4 => ?_)
        · simp only [go_sem, qC, qG, qW, g4]
          refine condK_split (fun g5 => ?_) (fun g5 => ?_)
          · simp only [go_sem, qC, qG, qW]
            simp at g5
            exact ne (.inr (.inr (.inr (.inr g5))))
          · have hl : a.objs.length = b.objs.length := by simp at g1; exact g1
            simp only [go_sem, qC, qG, qW]
            refine wp_for (a.objs.length) (fun k st => ∃ fr en cnt, st = ⟨fr, en, cnt⟩ ∧ (fr 2 = .ptr ⟨0, 2, 0⟩ 0) ∧ (en ⟨0, 2, 0⟩ = some (.box a.cells false)) ∧ (fr 3 = .ptr ⟨0, 3, 0⟩ 0) ∧ (en ⟨0, 3, 0⟩ = some (.box b.cells false)) ∧ (fr 5 = .int .i64 k) ∧ (a.objs.take k = b.objs.take k)) 0 (Nat.zero_le _) ⟨_, _, _, rfl, (by first | (simp only [go_sem, qW]; (try rfl); done) | rfl | simp), (by first | (simp only [go_sem, qW]; (try rfl); done) | rfl | simp), (by first | (simp only [go_sem, qW]; (try rfl); done) | rfl | simp), (by first | (simp only [go_sem, qW]; (try rfl); done) | rfl | simp), (by first | (simp only [go_sem, qW]; (try rfl); done) | rfl | simp), (by first | (simp only [go_sem, qW]; (try rfl); done) | rfl | simp)⟩ ?_
            rintro k st hk ⟨fr, en, cnt, rfl, h2, e2, h3, e3, h5, hI⟩
            simp only [go_sem, qC, qG, qW, h2, e2, h3, e3, h5]
            refine condK_split (fun hq => ?_) (fun hq => ?_)
            · have h' : k < a.objs.length := of_decide_eq_true hq
              have h'' : k < b.objs.length := by omega
              simp only [go_sem, qC, qG, qW, h', h'', h2, e2, h3, e3, h5, (R06_SameObj_pc _ _ (ha.obj _ (List.getElem_mem h'))).ret]
              refine condK_split (fun g6 => ?_) (fun g6 => ?_)
              · simp only [go_sem, qC, qG, qW]
                simp at g6
                exact ne (.inl (ne_at h' h'' g6))
              · simp only [go_sem, qC, qG, qW, h', h2, e2, h3, e3, h5]
                simp at g6
                refine ⟨_, _, _, rfl, ?_⟩
                simp only [go_sem, qW, h2, e2, h3, e3, h5, wrap_succ h' ha.objs]
                exact eq_step h' h'' hI g6
            · have : k = a.objs.length := by simp at hq; omega
              subst this
              simp only [go_sem, qC, qG, qW]
              simp at g2 g3 g4 g5
              have : a = b := by
                have hf := eq_full hl hI
                cases a; cases b; simp only at g2 g3 g4 g5 hf; subst g2 g3 g4 g5 hf; rfl
              simp [this]
        · simp only [go_sem, qC, qG, qW, g4, Bool.not_false]
          simp at g4
          exact ne (.inr (.inr (.inr (.inl g4))))
      · simp only [go_sem, qC, qG, qW, g3, Bool.not_false]
        simp at g3
        exact ne (.inr (.inr (.inl g3)))
    · simp only [go_sem, qC, qG, qW, g2, Bool.not_false]
      simp at g2
      exact ne (.inr (.inl g2))
  · simp only [go_sem, qC, qG, qW, g1, Bool.not_false]
    simp at g1
    exact ne (.inl fun e => g1 (by rw [e]))
theorem state_eq_iff {a b : RState} : (decide (a.world = b.world) && decide (a.ages = b.ages) && decide (a.marks = b.marks) && decide (a.cycle = b.cycle)) = decide (a = b) := by
  cases a; cases b; simp [Bool.and_assoc]
theorem R18_Same_pc (a b : RState) (ha : a.few) : PC L F.R18_Same [.agg [.fz (a.world.objs.map MObj.enc), .fz (a.world.tasks.map (.int .i64)), .fz (a.world.outs.map MOut.enc), .fz (a.world.ins.map (.int .i64)), .int .i64 a.world.used, .fz (a.ages.map (.int .i64)), .fz (a.marks.map (.int .i64)), .int .i64 a.cycle], .agg [.fz (b.world.objs.map MObj.enc), .fz (b.world.tasks.map (.int .i64)), .fz (b.world.outs.map MOut.enc), .fz (b.world.ins.map (.int .i64)), .int .i64 b.world.used, .fz (b.ages.map (.int .i64)), .fz (b.marks.map (.int .i64)), .int .i64 b.cycle]] (.bool (decide (a = b))) := by
  rw [← state_eq_iff]
  refine pc_of LF.R18_Same rfl rfl ?_
  simp only [go_sem, qC, qG, qW, C.R18_Same, (R06_Same_pc a.world b.world ha.1).ret]
  refine guardK_split (fun g1 => ?_) (fun g1 => ?_)
  · simp only [go_sem, qC, qG, qW, g1, (R06_SameInts_pc _ _ ha.2.1).ret]
    refine guardK_split (fun g2 => ?_) (fun g2 => ?_)
    · simp only [go_sem, qC, qG, qW, g2, (R06_SameInts_pc _ _ ha.2.2).ret]
      refine guardK_split (fun g3 => ?_) (fun g3 => ?_) <;> simp only [go_sem, qC, qG, qW, g1, g2, g3, Bool.not_true, Bool.true_and, Bool.false_and]
    · simp only [go_sem, qC, qG, qW, g1, g2, Bool.not_true, Bool.true_and, Bool.false_and]
  · simp only [go_sem, qC, qG, qW, g1, Bool.not_true, Bool.true_and, Bool.false_and]
theorem W18_blank_pc (s : RState) (hs : s.few) : PC L F.W18_blank [.agg [.fz (s.world.objs.map MObj.enc), .fz (s.world.tasks.map (.int .i64)), .fz (s.world.outs.map MOut.enc), .fz (s.world.ins.map (.int .i64)), .int .i64 s.world.used, .fz (s.ages.map (.int .i64)), .fz (s.marks.map (.int .i64)), .int .i64 s.cycle]] (.bool (decide (s = blankS))) := by
  have h := R18_Same_pc s blankS hs
  refine pc_of LF.W18_blank rfl rfl ?_
  simp only [go_sem, qC, qG, qW, C.W18_blank, fill_nil]
  have h2 : PC L F.R18_Same [.agg [.fz (s.world.objs.map MObj.enc), .fz (s.world.tasks.map (.int .i64)), .fz (s.world.outs.map MOut.enc), .fz (s.world.ins.map (.int .i64)), .int .i64 s.world.used, .fz (s.ages.map (.int .i64)), .fz (s.marks.map (.int .i64)), .int .i64 s.cycle], .agg [.fz [], .fz [], .fz [], .fz [], .int .i64 0, .fz [], .fz [], .int .i64 0]] (.bool (decide (s = blankS))) := h
  simp only [go_sem, qC, qG, qW, h2.ret]
theorem R18_in_pc' (n lo hi : Int) : PC L F.R18_in [.int .i64 n, .int .i64 lo, .int .i64 hi] (.bool (inR n lo hi)) := by
  refine pc_of LF.R18_in rfl rfl ?_
  simp only [go_sem, qW, C.R18_in]
  refine guard_split (fun h => ?_) (fun h => ?_) <;> simp only [go_sem, qW, h] <;> simp at h <;> simp [h, inR]
  omega
theorem R18_listed_pc (l : List Int) (n : Int) (hl : Few l.length) : PC L F.R18_listed [.fz (l.map (.int .i64)), .int .i64 n] (.bool (l.any fun x => decide (x = n))) := by
  refine pc_of LF.R18_listed rfl rfl ?_
  simp only [go_sem, qC, qG, qW, C.R18_listed]
  refine wp_for (l.length) (fun k st => ∃ fr en cnt, st = ⟨fr, en, cnt⟩ ∧ (fr 0 = .fz (l.map (.int .i64))) ∧ (fr 1 = .int .i64 n) ∧ (fr 5 = .int .i64 k) ∧ ((l.drop k).any (fun x => decide (x = n)) = l.any fun x => decide (x = n))) 0 (Nat.zero_le _) ⟨_, _, _, rfl, (by first | (simp only [go_sem, qW]; (try rfl); done) | rfl | simp), (by first | (simp only [go_sem, qW]; (try rfl); done) | rfl | simp), (by first | (simp only [go_sem, qW]; (try rfl); done) | rfl | simp), (by first | (simp only [go_sem, qW]; (try rfl); done) | rfl | simp)⟩ ?_
  rintro k st hk ⟨fr, en, cnt, rfl, h0, h1, h5, hI⟩
  simp only [go_sem, qC, qG, qW, h0, h1, h5]
  refine condK_split (fun h => ?_) (fun h => ?_)
  · have h' : k < l.length := of_decide_eq_true h
    rw [any_step h'] at hI
    simp only [go_sem, qC, qG, qW, h', h0, h1, h5]
    refine condK_split (fun h2 => ?_) (fun h2 => ?_)
    · simp only [go_sem, qC, qG, qW]
      rw [← hI, h2]; rfl
    · simp only [go_sem, qC, qG, qW, h', h0, h1, h5]
      refine ⟨_, _, _, rfl, ?_⟩
      simp only [go_sem, qW, h0, h1, h5, wrap_succ h' hl]
      rw [← hI, h2]; simp
  · have : k = l.length := by simp at h; omega
    subst this
    simp only [go_sem, qC, qG, qW]
    rw [← hI]; simp
theorem R18_task_pc (w : MWorld) (i : Nat) (hi : i < w.objs.length) : PC L F.R18_task [.agg [.fz (w.objs.map MObj.enc), .fz (w.tasks.map (.int .i64)), .fz (w.outs.map MOut.enc), .fz (w.ins.map (.int .i64)), .int .i64 w.used], .int .i64 i] (.bool (isTask (w.obj i))) := by
  have hin : inR (i : Int) 0 (w.objs.length - 1) = true := by simp [inR]; omega
  refine pc_of LF.R18_task rfl rfl ?_
  simp only [go_sem, qC, qG, qW, C.R18_task, ia_obj, hin]
  simp [isTask]
theorem R18_full_pc (c : Int) : PC L F.R18_full [.int .i64 c] (.bool (decide (c = 3))) := by
  refine pc_of LF.R18_full rfl rfl ?_
  simp only [go_sem, qC, qG, qW, C.R18_full]
theorem R18_World_pc (p : BProg) (w : MWorld) (hp : p.few) (hw : w.few) (hc : p.cons.length ≤ 1000) : PC L F.R18_World [.agg [.fz (p.nodes.map BNode.enc), .fz (p.funs.map (.int .i64)), .int .i64 p.main, .fz (p.cons.map BCon.enc)], .agg [.fz (w.objs.map MObj.enc), .fz (w.tasks.map (.int .i64)), .fz (w.outs.map MOut.enc), .fz (w.ins.map (.int .i64)), .int .i64 w.used]] (.bool (given p w)) := by
  refine pc_of LF.R18_World rfl rfl ?_
  simp only [go_sem, qC, qG, qW, C.R18_World, (R05_Formed_pc p hp hc).ret]
  refine guardK_split (fun h => ?_) (fun h => ?_) <;> simp only [go_sem, qC, qG, qW, h, (R06_World_pc p w hp hw).ret] <;> simp [given, h]
theorem R18_SmallState_pc (s : RState) (hs : s.few) : PC L F.R18_SmallState [.agg [.fz (s.world.objs.map MObj.enc), .fz (s.world.tasks.map (.int .i64)), .fz (s.world.outs.map MOut.enc), .fz (s.world.ins.map (.int .i64)), .int .i64 s.world.used, .fz (s.ages.map (.int .i64)), .fz (s.marks.map (.int .i64)), .int .i64 s.cycle]] (.bool (smallState s)) := by
  refine pc_of LF.R18_SmallState rfl rfl ?_
  simp only [go_sem, qC, qG, qW, C.R18_SmallState, (R06_SmallWorld_pc s.world hs.1).ret]
  refine guardK_split (fun g1 => ?_) (fun g1 => ?_)
  · simp only [go_sem, qC, qG, qW, g1]
    refine guardK_split (fun g2 => ?_) (fun g2 => ?_) <;> simp only [go_sem, qC, qG, qW, g2, Bool.not_true] <;> simp only [smallState, g1, g2, Bool.not_true, Bool.true_and, Bool.false_and]
  · simp only [go_sem, qC, qG, qW, g1, Bool.not_true]
    simp only [smallState, g1, Bool.not_true, Bool.false_and]
end Go.Proofs.YthpmfghgoabnhaaGreat
