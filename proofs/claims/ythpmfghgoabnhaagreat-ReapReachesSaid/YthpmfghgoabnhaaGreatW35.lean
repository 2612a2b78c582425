/- Which objects can be left alone, and numbers: the document's answer. -/
import Derived.Test.YthpmfghgoabnhaaGreatW34
set_option linter.all false
namespace Go.Proofs.YthpmfghgoabnhaaGreat
open Go.Abs Go.Proofs
def memB (keep : List Int) (x : Int) : Bool := keep.any fun y => decide (y = x)
theorem memB_iff {keep : List Int} {x : Int} : memB keep x = true ↔ x ∈ keep := by
  unfold memB; rw [List.any_eq_true]
  exact ⟨fun ⟨y, h, e⟩ => by rw [← of_decide_eq_true e]; exact h, fun h => ⟨x, h, by simp⟩⟩
def numAt (keep : List Int) (i : Nat) : Int := keep.getD i 0
theorem numAt_get {keep : List Int} {i : Nat} (h : i < keep.length) : numAt keep i = keep[i] := by simp [numAt, List.getD_eq_getElem?_getD, h]
def riseAt (n : Nat) (keep : List Int) (i : Nat) : Bool := inR (numAt keep i) 0 ((n : Int) - 1) && (decide (i = 0) || decide (numAt keep (i - 1) < numAt keep i))
def risingOk (n : Nat) (keep : List Int) : Bool := (List.range keep.length).all (riseAt n keep)
theorem rising_all {n : Nat} {keep : List Int} : risingOk n keep = true ↔ ∀ i, i < keep.length → riseAt n keep i = true := by
  unfold risingOk; rw [List.all_eq_true]
  exact ⟨fun h i hi => h i (by simpa using hi), fun h i hi => h i (by simpa using hi)⟩
theorem rising_pair {n : Nat} {keep : List Int} (h : risingOk n keep = true) : keep.Pairwise (· < ·) := by
  rw [rising_all] at h
  rw [List.pairwise_iff_getElem]
  intro i j hi hj hij
  obtain ⟨d, rfl⟩ : ∃ d, j = i + 1 + d := ⟨j - i - 1, by omega⟩
  induction d with
  | zero =>
    have := h (i + 1) hj
    simp only [riseAt, Bool.and_eq_true, Bool.or_eq_true, decide_eq_true_eq] at this
    rcases this.2 with h2 | h2
    · omega
    · rw [Nat.add_sub_cancel, numAt_get hi, numAt_get hj] at h2; exact h2
  | succ d ih =>
    have h1 := ih (by omega) (by omega)
    have := h (i + 1 + (d + 1)) hj
    simp only [riseAt, Bool.and_eq_true, Bool.or_eq_true, decide_eq_true_eq] at this
    rcases this.2 with h2 | h2
    · omega
    · rw [numAt_get hj, numAt_get (by omega)] at h2
      have e : i + 1 + (d + 1) - 1 = i + 1 + d := by omega
      simp only [e] at h2
      omega
theorem rising_in {n : Nat} {keep : List Int} (h : risingOk n keep = true) : ∀ x ∈ keep, inR x 0 ((n : Int) - 1) = true := by
  intro x hx
  obtain ⟨i, hi, rfl⟩ := List.mem_iff_getElem.1 hx
  have := (rising_all.1 h) i hi
  simp only [riseAt, Bool.and_eq_true] at this
  rw [← numAt_get hi]; exact this.1
theorem R18_Rising_pc (w : MWorld) (keep : List Int) (hw : w.few) (hfk : Few keep.length) : PC L F.R18_Rising [.agg [.fz (w.objs.map MObj.enc), .fz (w.tasks.map (.int .i64)), .fz (w.outs.map MOut.enc), .fz (w.ins.map (.int .i64)), .int .i64 w.used], .fz (keep.map (.int .i64))] (.bool (risingOk w.objs.length keep)) := by
  refine pc_of LF.R18_Rising rfl rfl ?_
  simp only [go_sem, qC, qG, qW, Nat.reduceEqDiff, Nat.reduceMul, Nat.reduceLeDiff, Nat.reduceAdd, Nat.reduceLT, C.R18_Rising]
  have hl : IntKind.i64.wrap ((w.objs.length : Int) - 1) = (w.objs.length : Int) - 1 := wrap_pred hw.objs
  refine wp_for (keep.length) (fun k st => ∃ fr en cnt, st = ⟨fr, en, cnt⟩ ∧ (fr 1 = .fz (keep.map (.int .i64))) ∧ (fr 2 = .ptr ⟨0, 2, 0⟩ 0) ∧ (en ⟨0, 2, 0⟩ = some (.box w.cells false)) ∧ (fr 5 = .int .i64 k) ∧ (∀ i, i < k → riseAt w.objs.length keep i = true)) 0 (Nat.zero_le _) ⟨_, _, _, rfl, (by first | (simp only [go_sem, Nat.reduceEqDiff, Nat.reduceMul, Nat.reduceLeDiff, Nat.reduceAdd, Nat.reduceLT]; (try rfl); done) | rfl | simp), (by first | (simp only [go_sem, Nat.reduceEqDiff, Nat.reduceMul, Nat.reduceLeDiff, Nat.reduceAdd, Nat.reduceLT]; (try rfl); done) | rfl | simp), (by first | (simp only [go_sem, Nat.reduceEqDiff, Nat.reduceMul, Nat.reduceLeDiff, Nat.reduceAdd, Nat.reduceLT]; (try rfl); done) | rfl | simp), (by first | (simp only [go_sem, Nat.reduceEqDiff, Nat.reduceMul, Nat.reduceLeDiff, Nat.reduceAdd, Nat.reduceLT]; (try rfl); done) | rfl | simp), (by first | (simp only [go_sem, Nat.reduceEqDiff, Nat.reduceMul, Nat.reduceLeDiff, Nat.reduceAdd, Nat.reduceLT]; (try rfl); done) | rfl | simp)⟩ ?_
  rintro k st hk ⟨fr, en, cnt, rfl, h1, h2, e2, h5, hI⟩
  simp only [go_sem, qC, qG, qW, Nat.reduceEqDiff, Nat.reduceMul, Nat.reduceLeDiff, Nat.reduceAdd, Nat.reduceLT, h1, h2, e2, h5]
  refine condK_split (fun hq => ?_) (fun hq => ?_)
  · have h' : k < keep.length := of_decide_eq_true hq
    have bad : riseAt w.objs.length keep k = false → Val.bool false = Val.bool (risingOk w.objs.length keep) := fun h => by
      have : risingOk w.objs.length keep = false := by
        rw [← Bool.not_eq_true, rising_all]
        exact fun hh => by rw [hh k h'] at h; cases h
      rw [this]
    have next : riseAt w.objs.length keep k = true → ∀ i, i < k + 1 → riseAt w.objs.length keep i = true := fun h i hi => by
      by_cases hik : i < k
      · exact hI i hik
      · have : i = k := by omega
        subst this; exact h
    simp only [go_sem, qC, qG, qW, Nat.reduceEqDiff, Nat.reduceMul, Nat.reduceLeDiff, Nat.reduceAdd, Nat.reduceLT, h', h1, h2, e2, h5, hl, (R18_in_pc' _ _ _).ret]
    refine guardK_split (fun g1 => ?_) (fun g1 => ?_)
    · have e1 : inR keep[k] 0 ((w.objs.length : Int) - 1) = true := by simpa using g1
      simp only [go_sem, qC, qG, qW, Nat.reduceEqDiff, Nat.reduceMul, Nat.reduceLeDiff, Nat.reduceAdd, Nat.reduceLT, g1, h', h1, h2, e2, h5]
      refine guardK_split (fun g2 => ?_) (fun g2 => ?_)
      · have hk0 : 0 < k := by simpa using g2
        have hkw : IntKind.i64.wrap ((k : Int) - 1) = ((k - 1 : Nat) : Int) := by
          rw [wrap_in (by unfold Few at hfk; omega)]; omega
        have hk1 : k - 1 < keep.length := by omega
        simp only [go_sem, qC, qG, qW, Nat.reduceEqDiff, Nat.reduceMul, Nat.reduceLeDiff, Nat.reduceAdd, Nat.reduceLT, g1, g2, h', hk1, hkw, h1, h2, e2, h5]
        refine condK_split (fun g3 => ?_) (fun g3 => ?_)
        · simp only [go_sem, qC, qG, qW, Nat.reduceEqDiff, Nat.reduceMul, Nat.reduceLeDiff, Nat.reduceAdd, Nat.reduceLT]
          refine bad ?_
          have : ¬ keep[k - 1] < keep[k] := by simp at g3; omega
          simp only [riseAt, numAt_get h', numAt_get hk1, e1, decide_eq_false this, decide_eq_false (show ¬ k = 0 by omega), Bool.or_false, Bool.and_false]
        · simp only [go_sem, qC, qG, qW, Nat.reduceEqDiff, Nat.reduceMul, Nat.reduceLeDiff, Nat.reduceAdd, Nat.reduceLT, h', h1, h2, e2, h5]
          refine ⟨_, _, _, rfl, ?_⟩
          simp only [go_sem, qW, Nat.reduceEqDiff, Nat.reduceMul, Nat.reduceLeDiff, Nat.reduceAdd, Nat.reduceLT, h1, h2, e2, h5, wrap_succ h' hfk]
          refine next ?_
          have : keep[k - 1] < keep[k] := by simp at g3; omega
          simp only [riseAt, numAt_get h', numAt_get hk1, e1, decide_eq_true this, Bool.or_true, Bool.and_true]
      · have hk0 : k = 0 := by simp at g2; omega
        simp only [go_sem, qC, qG, qW, Nat.reduceEqDiff, Nat.reduceMul, Nat.reduceLeDiff, Nat.reduceAdd, Nat.reduceLT, g1, g2, h', h1, h2, e2, h5, Bool.not_true]
        refine ⟨_, _, _, rfl, ?_⟩
        simp only [go_sem, qC, qG, qW, Nat.reduceEqDiff, Nat.reduceMul, Nat.reduceLeDiff, Nat.reduceAdd, Nat.reduceLT, h1, h2, e2, h5, wrap_succ h' hfk]
        exact next (by simp only [riseAt, numAt_get h', e1, decide_eq_true hk0, Bool.true_or, Bool.and_true])
    · have e1 : inR keep[k] 0 ((w.objs.length : Int) - 1) = false := by simpa using g1
      simp only [go_sem, qC, qG, qW, Nat.reduceEqDiff, Nat.reduceMul, Nat.reduceLeDiff, Nat.reduceAdd, Nat.reduceLT, g1, Bool.not_false]
      exact bad (by simp only [riseAt, numAt_get h', e1, Bool.false_and])
  · have : k = keep.length := by simp at hq; omega
    subst this
    simp only [go_sem, qC, qG, qW, Nat.reduceEqDiff, Nat.reduceMul, Nat.reduceLeDiff, Nat.reduceAdd, Nat.reduceLT]
    rw [rising_all.2 hI]
def lostB (keep : List Int) (i r : Int) : Bool := memB keep i && !memB keep r
def aloneRow (w : MWorld) (keep : List Int) (i : Nat) : Bool := !(isTask (w.obj i) && !memB keep i) && (refsL (w.obj i)).all fun r => !lostB keep i r
def aloneOk (w : MWorld) (keep : List Int) : Bool := (List.range w.objs.length).all (aloneRow w keep)
theorem alone_all {w : MWorld} {keep : List Int} : aloneOk w keep = true ↔ ∀ i, i < w.objs.length → aloneRow w keep i = true := by
  unfold aloneOk; rw [List.all_eq_true]
  exact ⟨fun h i hi => h i (by simpa using hi), fun h i hi => h i (by simpa using hi)⟩
theorem listed_pc (l : List Int) (n : Int) (hl : Few l.length) : PC L F.R18_listed [.fz (l.map (.int .i64)), .int .i64 n] (.bool (memB l n)) := R18_listed_pc l n hl
theorem R18_Alone_pc (w : MWorld) (keep : List Int) (hw : w.few) (hsm : smallWorld w = true) (hfk : Few keep.length) : PC L F.R18_Alone [.agg [.fz (w.objs.map MObj.enc), .fz (w.tasks.map (.int .i64)), .fz (w.outs.map MOut.enc), .fz (w.ins.map (.int .i64)), .int .i64 w.used], .fz (keep.map (.int .i64))] (.bool (aloneOk w keep)) := by
  refine pc_of LF.R18_Alone rfl rfl ?_
  simp only [go_sem, qC, qG, qW, Nat.reduceEqDiff, Nat.reduceMul, Nat.reduceLeDiff, Nat.reduceAdd, Nat.reduceLT, C.R18_Alone]
  refine wp_for (w.objs.length) (fun k st => ∃ fr en cnt, st = ⟨fr, en, cnt⟩ ∧ (fr 1 = .fz (keep.map (.int .i64))) ∧ (fr 2 = .ptr ⟨0, 2, 0⟩ 0) ∧ (en ⟨0, 2, 0⟩ = some (.box w.cells false)) ∧ (fr 5 = .int .i64 k) ∧ (∀ i, i < k → aloneRow w keep i = true)) 0 (Nat.zero_le _) ⟨_, _, _, rfl, (by first | (simp only [go_sem, Nat.reduceEqDiff, Nat.reduceMul, Nat.reduceLeDiff, Nat.reduceAdd, Nat.reduceLT]; (try rfl); done) | rfl | simp), (by first | (simp only [go_sem, Nat.reduceEqDiff, Nat.reduceMul, Nat.reduceLeDiff, Nat.reduceAdd, Nat.reduceLT]; (try rfl); done) | rfl | simp), (by first | (simp only [go_sem, Nat.reduceEqDiff, Nat.reduceMul, Nat.reduceLeDiff, Nat.reduceAdd, Nat.reduceLT]; (try rfl); done) | rfl | simp), (by first | (simp only [go_sem, Nat.reduceEqDiff, Nat.reduceMul, Nat.reduceLeDiff, Nat.reduceAdd, Nat.reduceLT]; (try rfl); done) | rfl | simp), (by first | (simp only [go_sem, Nat.reduceEqDiff, Nat.reduceMul, Nat.reduceLeDiff, Nat.reduceAdd, Nat.reduceLT]; (try rfl); done) | rfl | simp)⟩ ?_
  rintro k st hk ⟨fr, en, cnt, rfl, h1, h2, e2, h5, hI⟩
  simp only [go_sem, qC, qG, qW, Nat.reduceEqDiff, Nat.reduceMul, Nat.reduceLeDiff, Nat.reduceAdd, Nat.reduceLT, h1, h2, e2, h5]
  refine condK_split (fun hq => ?_) (fun hq => ?_)
  · have h' : k < w.objs.length := of_decide_eq_true hq
    have bad : aloneRow w keep k = false → Val.bool false = Val.bool (aloneOk w keep) := fun h => by
      have : aloneOk w keep = false := by
        rw [← Bool.not_eq_true, alone_all]
        exact fun hh => by rw [hh k h'] at h; cases h
      rw [this]
    have next : aloneRow w keep k = true → ∀ i, i < k + 1 → aloneRow w keep i = true := fun h i hi => by
      by_cases hik : i < k
      · exact hI i hik
      · have : i = k := by omega
        subst this; exact h
    have hso := smallW_obj hsm _ (List.getElem_mem h')
    have hlen := refsL_len hso
    have hfl : Few (refsL w.objs[k]).length := by unfold Few; omega
    refine wops_cut (fun st => (st.fr 1 = .fz (keep.map (.int .i64))) ∧ (st.fr 2 = .ptr ⟨0, 2, 0⟩ 0) ∧ (st.en ⟨0, 2, 0⟩ = some (.box w.cells false)) ∧ (st.fr 5 = .int .i64 k) ∧ (st.fr 23 = .bool (isTask (w.obj k) && !memB keep k))) ?_ ?_
    · simp only [go_sem, qC, qG, qW, Nat.reduceEqDiff, Nat.reduceMul, Nat.reduceLeDiff, Nat.reduceAdd, Nat.reduceLT, h', h1, h2, e2, h5, (R18_task_pc w k h').ret]
      refine guardK_split (fun g => ?_) (fun g => ?_)
      · simp only [go_sem, qC, qG, qW, Nat.reduceEqDiff, Nat.reduceMul, Nat.reduceLeDiff, Nat.reduceAdd, Nat.reduceLT, h', g, h1, h2, e2, h5, (listed_pc keep k hfk).ret, Bool.true_and]
      · simp only [go_sem, qC, qG, qW, Nat.reduceEqDiff, Nat.reduceMul, Nat.reduceLeDiff, Nat.reduceAdd, Nat.reduceLT, h', g, h1, h2, e2, h5, Bool.not_true, Bool.false_and]
    · rintro fr en cnt ⟨(h1 : fr 1 = .fz (keep.map (.int .i64))), (h2 : fr 2 = .ptr ⟨0, 2, 0⟩ 0), (e2 : en ⟨0, 2, 0⟩ = some (.box w.cells false)), (h5 : fr 5 = .int .i64 k), (h23 : fr 23 = .bool (isTask (w.obj k) && !memB keep k))⟩
      simp only [go_sem, qC, qG, qW, Nat.reduceEqDiff, Nat.reduceMul, Nat.reduceLeDiff, Nat.reduceAdd, Nat.reduceLT, h1, h2, e2, h5, h23]
      refine condK_split (fun hW => ?_) (fun hW => ?_)
      · simp only [go_sem, qC, qG, qW, Nat.reduceEqDiff, Nat.reduceMul, Nat.reduceLeDiff, Nat.reduceAdd, Nat.reduceLT]
        exact bad (by simp [aloneRow, hW])
      · simp only [go_sem, qC, qG, qW, Nat.reduceEqDiff, Nat.reduceMul, Nat.reduceLeDiff, Nat.reduceAdd, Nat.reduceLT, h', h1, h2, e2, h5, h23, (R18_Refs_pc _ hso).ret]
        refine wp_for ((refsL w.objs[k]).length) (fun j st => ∃ fr en cnt, st = ⟨fr, en, cnt⟩ ∧ (fr 1 = .fz (keep.map (.int .i64))) ∧ (fr 2 = .ptr ⟨0, 2, 0⟩ 0) ∧ (en ⟨0, 2, 0⟩ = some (.box w.cells false)) ∧ (fr 5 = .int .i64 k) ∧ (fr 6 = .fz ((refsL w.objs[k]).map (.int .i64))) ∧ (fr 7 = .int .i64 j) ∧ (∀ x ∈ (refsL w.objs[k]).take j, lostB keep k x = false)) 0 (Nat.zero_le _) ⟨_, _, _, rfl, (by first | (simp only [go_sem, Nat.reduceEqDiff, Nat.reduceMul, Nat.reduceLeDiff, Nat.reduceAdd, Nat.reduceLT, h1, h2, e2, h5, h23]; (try rfl); done) | rfl | simp), (by first | (simp only [go_sem, Nat.reduceEqDiff, Nat.reduceMul, Nat.reduceLeDiff, Nat.reduceAdd, Nat.reduceLT, h1, h2, e2, h5, h23]; (try rfl); done) | rfl | simp), (by first | (simp only [go_sem, Nat.reduceEqDiff, Nat.reduceMul, Nat.reduceLeDiff, Nat.reduceAdd, Nat.reduceLT, h1, h2, e2, h5, h23]; (try rfl); done) | rfl | simp), (by first | (simp only [go_sem, Nat.reduceEqDiff, Nat.reduceMul, Nat.reduceLeDiff, Nat.reduceAdd, Nat.reduceLT, h1, h2, e2, h5, h23]; (try rfl); done) | rfl | simp), (by first | (simp only [go_sem, Nat.reduceEqDiff, Nat.reduceMul, Nat.reduceLeDiff, Nat.reduceAdd, Nat.reduceLT, h1, h2, e2, h5, h23]; (try rfl); done) | rfl | simp), (by first | (simp only [go_sem, Nat.reduceEqDiff, Nat.reduceMul, Nat.reduceLeDiff, Nat.reduceAdd, Nat.reduceLT, h1, h2, e2, h5, h23]; (try rfl); done) | rfl | simp), (by first | (simp only [go_sem, Nat.reduceEqDiff, Nat.reduceMul, Nat.reduceLeDiff, Nat.reduceAdd, Nat.reduceLT, h1, h2, e2, h5, h23]; (try rfl); done) | rfl | simp)⟩ ?_
        rintro j st hk ⟨fr, en, cnt, rfl, h1, h2, e2, h5, h6, h7, hJ⟩
        simp only [go_sem, qC, qG, qW, Nat.reduceEqDiff, Nat.reduceMul, Nat.reduceLeDiff, Nat.reduceAdd, Nat.reduceLT, h1, h2, e2, h5, h6, h7]
        refine condK_split (fun hq2 => ?_) (fun hq2 => ?_)
        · have h2' : j < (refsL w.objs[k]).length := of_decide_eq_true hq2
          have okx : lostB keep k (refsL w.objs[k])[j] = false → ∀ x ∈ (refsL w.objs[k]).take (j + 1), lostB keep k x = false := fun h x hx => by
            rw [take_step h2', List.mem_append] at hx
            rcases hx with hx | hx
            · exact hJ x hx
            · simp only [List.mem_singleton] at hx; rw [hx]; exact h
          simp only [go_sem, qC, qG, qW, Nat.reduceEqDiff, Nat.reduceMul, Nat.reduceLeDiff, Nat.reduceAdd, Nat.reduceLT, h2', h1, h2, e2, h5, h6, h7, (listed_pc keep k hfk).ret]
          refine guardK_split (fun g => ?_) (fun g => ?_)
          · simp only [go_sem, qC, qG, qW, Nat.reduceEqDiff, Nat.reduceMul, Nat.reduceLeDiff, Nat.reduceAdd, Nat.reduceLT, h2', g, h1, h2, e2, h5, h6, h7, (listed_pc keep _ hfk).ret]
            refine condK_split (fun g2 => ?_) (fun g2 => ?_)
            · simp only [go_sem, qC, qG, qW, Nat.reduceEqDiff, Nat.reduceMul, Nat.reduceLeDiff, Nat.reduceAdd, Nat.reduceLT]
              refine bad ?_
              have : (refsL (w.obj k)).all (fun r => !lostB keep k r) = false := by
                rw [objAt_get h', List.all_eq_false]
                exact ⟨_, List.getElem_mem h2', by rw [lostB, g, g2]; decide⟩
              rw [aloneRow, this, Bool.and_false]
            · simp only [go_sem, qC, qG, qW, Nat.reduceEqDiff, Nat.reduceMul, Nat.reduceLeDiff, Nat.reduceAdd, Nat.reduceLT, h2', h1, h2, e2, h5, h6, h7]
              refine ⟨_, _, _, rfl, ?_⟩
              simp only [go_sem, qW, Nat.reduceEqDiff, Nat.reduceMul, Nat.reduceLeDiff, Nat.reduceAdd, Nat.reduceLT, h1, h2, e2, h5, h6, h7, wrap_succ h2' hfl]
              exact okx (by rw [lostB, g2, Bool.and_false])
          · simp only [go_sem, qC, qG, qW, Nat.reduceEqDiff, Nat.reduceMul, Nat.reduceLeDiff, Nat.reduceAdd, Nat.reduceLT, h2', g, h1, h2, e2, h5, h6, h7, Bool.not_true]
            refine ⟨_, _, _, rfl, ?_⟩
            simp only [go_sem, qC, qG, qW, Nat.reduceEqDiff, Nat.reduceMul, Nat.reduceLeDiff, Nat.reduceAdd, Nat.reduceLT, h1, h2, e2, h5, h6, h7, wrap_succ h2' hfl]
            exact okx (by rw [lostB, g]; rfl)
        · have : j = (refsL w.objs[k]).length := by simp at hq2; omega
          subst this
          rw [List.take_length] at hJ
          simp only [go_sem, qC, qG, qW, Nat.reduceEqDiff, Nat.reduceMul, Nat.reduceLeDiff, Nat.reduceAdd, Nat.reduceLT, h1, h2, e2, h5, h6, h7]
          refine ⟨_, _, _, rfl, ?_⟩
          simp only [go_sem, qC, qG, qW, Nat.reduceEqDiff, Nat.reduceMul, Nat.reduceLeDiff, Nat.reduceAdd, Nat.reduceLT, h1, h2, e2, h5, h6, h7, wrap_succ h' hw.objs]
          refine next ?_
          have : (refsL (w.obj k)).all (fun r => !lostB keep k r) = true := by
            rw [objAt_get h', List.all_eq_true]
            exact fun x hx => by rw [hJ x hx]; rfl
          rw [aloneRow, hW, this]; rfl
  · have : k = w.objs.length := by simp at hq; omega
    subst this
    simp only [go_sem, qC, qG, qW, Nat.reduceEqDiff, Nat.reduceMul, Nat.reduceLeDiff, Nat.reduceAdd, Nat.reduceLT]
    rw [alone_all.2 hI]
def numsTo (l : List Bool) (k : Nat) : List Int := ((List.range k).filter fun i => l.getD i false).map fun (i : Nat) => (i : Int)
def numsL (l : List Bool) : List Int := numsTo l l.length
theorem numsTo_len (l : List Bool) (k : Nat) : (numsTo l k).length ≤ k := by
  have := List.length_filter_le (fun i => l.getD i false) (List.range k)
  simpa [numsTo] using this
theorem numsTo_t {l : List Bool} {k : Nat} (h : l.getD k false = true) : numsTo l (k + 1) = numsTo l k ++ [(k : Int)] := by
  rw [numsTo, List.range_succ, List.filter_append, List.map_append]
  simp only [List.filter_cons, h, if_true, List.filter_nil]; rfl
theorem numsTo_f {l : List Bool} {k : Nat} (h : l.getD k false = false) : numsTo l (k + 1) = numsTo l k := by
  rw [numsTo, List.range_succ, List.filter_append, List.map_append]
  simp only [List.filter_cons, h, List.filter_nil, Bool.false_eq_true, if_false, List.map_nil, List.append_nil]; rfl
theorem bool_get {l : List Bool} {k : Nat} (h : k < l.length) : l.getD k false = l[k] := by simp [List.getD_eq_getElem?_getD, h]
theorem R18_Numbers_pc (l : List Bool) (hl : l.length ≤ 16777215) : PC L F.R18_Numbers [.fz (l.map .bool)] (.fz ((numsL l).map (.int .i64))) := by
  have hf : Few l.length := by unfold Few; omega
  refine pc_of LF.R18_Numbers rfl rfl ?_
  simp only [go_sem, qC, qG, qW, Nat.reduceEqDiff, Nat.reduceMul, Nat.reduceLeDiff, Nat.reduceAdd, Nat.reduceLT, C.R18_Numbers]
  refine wp_for l.length (fun k st => ∃ fr en cnt v, st = ⟨fr, en, cnt⟩ ∧ fr 0 = .fz (l.map .bool) ∧ fr 3 = v ∧ fr 4 = .int .i64 k ∧ Mine en v 1 ((numsTo l k).map (.int .i64)) [18]) 0 (Nat.zero_le _) ⟨_, _, _, .cl [], rfl, by simp only [go_sem, Nat.reduceEqDiff, Nat.reduceMul, Nat.reduceLeDiff, Nat.reduceAdd, Nat.reduceLT], by simp only [go_sem, Nat.reduceEqDiff, Nat.reduceMul, Nat.reduceLeDiff, Nat.reduceAdd, Nat.reduceLT], by simp only [go_sem, Nat.reduceEqDiff, Nat.reduceMul, Nat.reduceLeDiff, Nat.reduceAdd, Nat.reduceLT], Mine.nil _ _⟩ ?_
  rintro k st hk ⟨fr, en, cnt, v, rfl, h0, h3, h4, hv⟩
  simp only [go_sem, qC, qG, qW, Nat.reduceEqDiff, Nat.reduceMul, Nat.reduceLeDiff, Nat.reduceAdd, Nat.reduceLT, h0, h3, h4]
  refine condK_split (fun hq => ?_) (fun hq => ?_)
  · have h' : k < l.length := of_decide_eq_true hq
    have hb := bool_get h'
    simp only [go_sem, qC, qG, qW, Nat.reduceEqDiff, Nat.reduceMul, Nat.reduceLeDiff, Nat.reduceAdd, Nat.reduceLT, h', h0, h3, h4]
    refine condK_split (fun g => ?_) (fun g => ?_)
    · simp only [go_sem, qC, qG, qW, Nat.reduceEqDiff, Nat.reduceMul, Nat.reduceLeDiff, Nat.reduceAdd, Nat.reduceLT, h0, h3, h4]
      refine w_append (D := [18]) (xs := (numsTo l k).map (.int .i64)) (ys := [.int .i64 k]) (rs := []) ?_ ?_ ?_ ?_ ?_
      · simp only [go_sem, qW, Nat.reduceEqDiff, Nat.reduceMul, Nat.reduceLeDiff, Nat.reduceAdd, Nat.reduceLT]
        exact hv
      · simp only [go_sem, qW, Nat.reduceEqDiff, Nat.reduceMul, Nat.reduceLeDiff, Nat.reduceAdd, Nat.reduceLT]
      · rfl
      · have := numsTo_len l k; simp; omega
      · intro v' en' cnt' hown hen hcnt
        simp only [go_sem, qC, qG, qW, Nat.reduceEqDiff, Nat.reduceMul, Nat.reduceLeDiff, Nat.reduceAdd, Nat.reduceLT, h0, h4]
        refine ⟨_, _, _, v', rfl, ?_⟩
        simp only [go_sem, qC, qG, qW, Nat.reduceEqDiff, Nat.reduceMul, Nat.reduceLeDiff, Nat.reduceAdd, Nat.reduceLT, h0, h4, wrap_succ h' hf]
        rw [numsTo_t (hb.trans g), List.map_append]
        exact Mine.sub (D := [18, 18]) hown (by simp)
    · simp only [go_sem, qC, qG, qW, Nat.reduceEqDiff, Nat.reduceMul, Nat.reduceLeDiff, Nat.reduceAdd, Nat.reduceLT, h0, h3, h4]
      refine ⟨_, _, _, v, rfl, ?_⟩
      simp only [go_sem, qC, qG, qW, Nat.reduceEqDiff, Nat.reduceMul, Nat.reduceLeDiff, Nat.reduceAdd, Nat.reduceLT, h0, h3, h4, wrap_succ h' hf]
      rw [numsTo_f (hb.trans g)]
      exact hv
  · have : k = l.length := by simp at hq; omega
    subst this
    simp only [go_sem, qC, qG, qW, Nat.reduceEqDiff, Nat.reduceMul, Nat.reduceLeDiff, Nat.reduceAdd, Nat.reduceLT, h3]
    obtain ⟨r, ks, s1, _, _, s2, _⟩ := hv.snap 7
    simp only [go_sem, qC, qG, qW, Nat.reduceEqDiff, Nat.reduceMul, Nat.reduceLeDiff, Nat.reduceAdd, Nat.reduceLT, s1, s2]
    rfl
end Go.Proofs.YthpmfghgoabnhaaGreat
