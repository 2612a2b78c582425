/- States after turns: what they are. -/
import Derived.Test.YthpmfghgoabnhaaGreatW21
set_option linter.all false
namespace Go.Proofs.YthpmfghgoabnhaaGreat
open Go.Abs Go.Proofs
def upto {α : Type} (f g : Nat → α) (n k : Nat) : List α := (List.range (max n k)).map fun i => if i < k then f i else g i
section
variable {α : Type} {f g : Nat → α} {n k : Nat}
theorem upto_len : (upto f g n k).length = max n k := by simp [upto]
theorem upto_zero : upto f g n 0 = (List.range n).map g := by simp [upto]
theorem upto_full (h : n ≤ k) : upto f g n k = (List.range k).map f := by
  unfold upto
  rw [Nat.max_eq_right h]
  refine List.map_congr_left fun i hi => ?_
  rw [if_pos (by simpa using hi)]
theorem upto_app (h : n ≤ k) : upto f g n (k + 1) = upto f g n k ++ [f k] := by
  rw [upto_full h, upto_full (by omega), List.range_succ, List.map_append]; rfl
theorem upto_get (h : k < n) : (upto f g n k)[k]? = some (g k) := by
  have : k < max n k := by omega
  simp [upto, this]
theorem upto_set (h : k < n) : upto f g n (k + 1) = (upto f g n k).set k (f k) := by
  have e : max n (k + 1) = max n k := by omega
  apply List.ext_getElem
  · simp [upto, e]
  · intro i h1 h2
    simp only [List.getElem_set, List.getElem_map, upto, List.getElem_range]
    by_cases hi : k = i
    · subst hi; simp
    · rw [if_neg hi]
      by_cases hi2 : i < k
      · rw [if_pos hi2, if_pos (by omega)]
      · rw [if_neg hi2, if_neg (by omega)]
theorem upto_skip (h : k < n) (he : f k = g k) : upto f g n (k + 1) = upto f g n k := by
  have e : max n (k + 1) = max n k := by omega
  unfold upto
  rw [e]
  refine List.map_congr_left fun i _ => ?_
  by_cases hi : i = k
  · subst hi; simp [he]
  · by_cases hi2 : i < k
    · rw [if_pos hi2, if_pos (by omega)]
    · rw [if_neg hi2, if_neg (by omega)]
end
def formsOk (a b : MWorld) : Bool := (List.range a.objs.length).all fun i => decide ((a.obj i).form = (b.obj i).form)
def followsOk (a b : MWorld) : Bool := decide (a.objs.length ≤ b.objs.length) && decide (a.tasks.length ≤ b.tasks.length) && decide (a.tasks = b.tasks.take a.tasks.length) && formsOk a b
def greyed (s : RState) (w : MWorld) (i : Nat) : Bool := decide (markAt s i = 2) && !decide (s.world.obj i = w.obj i)
def ageT (s : RState) (i : Nat) : Int := if i < s.marks.length then ageAt s i else 0
def markT (s : RState) (w : MWorld) (i : Nat) : Int := if i < s.marks.length then (if greyed s w i = true then 1 else markAt s i) else 1
def newT (s : RState) (w : MWorld) (i : Nat) : Bool := if i < s.marks.length then greyed s w i else true
def agesT (s : RState) (w : MWorld) : List Int := (List.range w.objs.length).map (ageT s)
def marksT (s : RState) (w : MWorld) : List Int := (List.range w.objs.length).map (markT s w)
def countT (s : RState) (w : MWorld) (k : Nat) : Nat := (List.range k).countP (newT s w)
theorem countT_step (s : RState) (w : MWorld) (k : Nat) : countT s w (k + 1) = countT s w k + (if newT s w k = true then 1 else 0) := by
  simp [countT, List.range_succ, List.countP_append, List.countP_cons]
theorem countT_le (s : RState) (w : MWorld) (k : Nat) : countT s w k ≤ k := by
  have := List.countP_le_length (p := newT s w) (l := List.range k)
  simpa [countT] using this
def turnedS (s : RState) (w : MWorld) : RState := ⟨w, agesT s w, marksT s w, s.cycle⟩
theorem Equal_int_pc (a b : List Int) (ha : Few a.length) : PC L F.slices_Equal_s_int_int [.fz (a.map (.int .i64)), .fz (b.map (.int .i64))] (.bool (decide (a = b))) := by
  refine pc_of LF.slices_Equal_s_int_int rfl rfl ?_
  simp only [go_sem, qC, qG, qW, Nat.reduceEqDiff, Nat.reduceAdd, Nat.reduceLeDiff, C.slices_Equal_s_int_int]
  refine condK_split (fun h => ?_) (fun h => ?_)
  · simp only [go_sem, qC, qG, qW, Nat.reduceEqDiff, Nat.reduceAdd, Nat.reduceLeDiff]
    simp at h
    have : ¬ a = b := by rintro rfl; exact h rfl
    simp [this]
  · have hl : a.length = b.length := by simp at h; exact h
    simp only [go_sem, qC, qG, qW, Nat.reduceEqDiff, Nat.reduceAdd, Nat.reduceLeDiff]
    refine wp_for (a.length) (fun k st => ∃ fr en cnt, st = ⟨fr, en, cnt⟩ ∧ (fr 0 = .fz (a.map (.int .i64))) ∧ (fr 1 = .fz (b.map (.int .i64))) ∧ (fr 12 = .int .i64 a.length) ∧ (fr 13 = .int .i64 k) ∧ (a.take k = b.take k)) 0 (Nat.zero_le _) ⟨_, _, _, rfl, (by first | (simp only [go_sem, Nat.reduceEqDiff, Nat.reduceAdd, Nat.reduceLeDiff]; try rfl; done) | rfl | simp), (by first | (simp only [go_sem, Nat.reduceEqDiff, Nat.reduceAdd, Nat.reduceLeDiff]; try rfl; done) | rfl | simp), (by first | (simp only [go_sem, Nat.reduceEqDiff, Nat.reduceAdd, Nat.reduceLeDiff]; try rfl; done) | rfl | simp), (by first | (simp only [go_sem, Nat.reduceEqDiff, Nat.reduceAdd, Nat.reduceLeDiff]; try rfl; done) | rfl | simp), (by first | (simp only [go_sem, Nat.reduceEqDiff, Nat.reduceAdd, Nat.reduceLeDiff]; try rfl; done) | rfl | simp)⟩ ?_
    rintro k st hk ⟨fr, en, cnt, rfl, h0, h1, h12, h13, hI⟩
    simp only [go_sem, qC, qG, qW, Nat.reduceEqDiff, Nat.reduceAdd, Nat.reduceLeDiff, h0, h1, h12, h13]
    refine condK_split (fun hq => ?_) (fun hq => ?_)
    · have h' : k < a.length := of_decide_eq_true hq
      have h'' : k < b.length := by omega
      simp only [go_sem, qC, qG, qW, Nat.reduceEqDiff, Nat.reduceAdd, Nat.reduceLeDiff, h', h'', h0, h1, h12, h13]
      refine condK_split (fun hb => ?_) (fun hb => ?_)
      · simp only [go_sem, qC, qG, qW, Nat.reduceEqDiff, Nat.reduceAdd, Nat.reduceLeDiff]
        simp at hb
        simp [ne_at h' h'' hb]
      · simp only [go_sem, qC, qG, qW, Nat.reduceEqDiff, Nat.reduceAdd, Nat.reduceLeDiff, h', h0, h1, h12, h13]
        simp at hb
        refine ⟨_, _, _, rfl, ?_⟩
        simp only [go_sem, qW, Nat.reduceEqDiff, Nat.reduceAdd, Nat.reduceLeDiff, h0, h1, h12, h13, wrap_succ h' ha]
        exact eq_step h' h'' hI hb
    · have : k = a.length := by simp at hq; omega
      subst this
      simp only [go_sem, qC, qG, qW, Nat.reduceEqDiff, Nat.reduceAdd, Nat.reduceLeDiff]
      simp [eq_full hl hI]
theorem Equal_val_pc (a b : List MVal) (ha : Few a.length) : PC L F.slices_Equal_s_api_MeanVal_api_MeanVal [.fz (a.map MVal.enc), .fz (b.map MVal.enc)] (.bool (decide (a = b))) := by
  refine pc_of LF.slices_Equal_s_api_MeanVal_api_MeanVal rfl rfl ?_
  simp only [go_sem, qC, qG, qW, Nat.reduceEqDiff, Nat.reduceAdd, Nat.reduceLeDiff, C.slices_Equal_s_api_MeanVal_api_MeanVal]
  refine condK_split (fun h => ?_) (fun h => ?_)
  · simp only [go_sem, qC, qG, qW, Nat.reduceEqDiff, Nat.reduceAdd, Nat.reduceLeDiff]
    simp at h
    have : ¬ a = b := by rintro rfl; exact h rfl
    simp [this]
  · have hl : a.length = b.length := by simp at h; exact h
    simp only [go_sem, qC, qG, qW, Nat.reduceEqDiff, Nat.reduceAdd, Nat.reduceLeDiff]
    refine wp_for (a.length) (fun k st => ∃ fr en cnt, st = ⟨fr, en, cnt⟩ ∧ (fr 0 = .fz (a.map MVal.enc)) ∧ (fr 1 = .fz (b.map MVal.enc)) ∧ (fr 12 = .int .i64 a.length) ∧ (fr 13 = .int .i64 k) ∧ (a.take k = b.take k)) 0 (Nat.zero_le _) ⟨_, _, _, rfl, (by first | (simp only [go_sem, Nat.reduceEqDiff, Nat.reduceAdd, Nat.reduceLeDiff]; try rfl; done) | rfl | simp), (by first | (simp only [go_sem, Nat.reduceEqDiff, Nat.reduceAdd, Nat.reduceLeDiff]; try rfl; done) | rfl | simp), (by first | (simp only [go_sem, Nat.reduceEqDiff, Nat.reduceAdd, Nat.reduceLeDiff]; try rfl; done) | rfl | simp), (by first | (simp only [go_sem, Nat.reduceEqDiff, Nat.reduceAdd, Nat.reduceLeDiff]; try rfl; done) | rfl | simp), (by first | (simp only [go_sem, Nat.reduceEqDiff, Nat.reduceAdd, Nat.reduceLeDiff]; try rfl; done) | rfl | simp)⟩ ?_
    rintro k st hk ⟨fr, en, cnt, rfl, h0, h1, h12, h13, hI⟩
    simp only [go_sem, qC, qG, qW, Nat.reduceEqDiff, Nat.reduceAdd, Nat.reduceLeDiff, h0, h1, h12, h13]
    refine condK_split (fun hq => ?_) (fun hq => ?_)
    · have h' : k < a.length := of_decide_eq_true hq
      have h'' : k < b.length := by omega
      simp only [go_sem, qC, qG, qW, Nat.reduceEqDiff, Nat.reduceAdd, Nat.reduceLeDiff, h', h'', h0, h1, h12, h13, MVal.eq_iff]
      refine condK_split (fun hb => ?_) (fun hb => ?_)
      · simp only [go_sem, qC, qG, qW, Nat.reduceEqDiff, Nat.reduceAdd, Nat.reduceLeDiff]
        simp at hb
        simp [ne_at h' h'' hb]
      · simp only [go_sem, qC, qG, qW, Nat.reduceEqDiff, Nat.reduceAdd, Nat.reduceLeDiff, h', h0, h1, h12, h13]
        simp at hb
        refine ⟨_, _, _, rfl, ?_⟩
        simp only [go_sem, qW, Nat.reduceEqDiff, Nat.reduceAdd, Nat.reduceLeDiff, h0, h1, h12, h13, wrap_succ h' ha]
        exact eq_step h' h'' hI hb
    · have : k = a.length := by simp at hq; omega
      subst this
      simp only [go_sem, qC, qG, qW, Nat.reduceEqDiff, Nat.reduceAdd, Nat.reduceLeDiff]
      simp [eq_full hl hI]
theorem same_int_pc (a b : List Int) (ha : Few a.length) : PC L F.reap_same_int [.fz (a.map (.int .i64)), .fz (b.map (.int .i64))] (.bool (decide (a = b))) := by
  refine pc_of LF.reap_same_int rfl rfl ?_
  simp only [go_sem, qC, qG, qW, Nat.reduceEqDiff, Nat.reduceAdd, Nat.reduceLeDiff, C.reap_same_int, (Equal_int_pc a b ha).ret]
theorem same_val_pc (a b : List MVal) (ha : Few a.length) : PC L F.reap_same_api_MeanVal [.fz (a.map MVal.enc), .fz (b.map MVal.enc)] (.bool (decide (a = b))) := by
  refine pc_of LF.reap_same_api_MeanVal rfl rfl ?_
  simp only [go_sem, qC, qG, qW, Nat.reduceEqDiff, Nat.reduceAdd, Nat.reduceLeDiff, C.reap_same_api_MeanVal, (Equal_val_pc a b ha).ret]
theorem MFrame.eq_iff {a b : MFrame} : decide (a = b) = (decide (a.node = b.node) && decide (a.env = b.env) && decide (a.vals = b.vals)) := by
  cases a; cases b; simp [Bool.and_assoc]
theorem sameObj_c1_pc (a b : MFrame) (ha : a.few) : PC L F.reap_sameObj_c1 [.agg [.int .i64 a.node, .fz (a.env.map MVal.enc), .fz (a.vals.map MVal.enc)], .agg [.int .i64 b.node, .fz (b.env.map MVal.enc), .fz (b.vals.map MVal.enc)]] (.bool (decide (a = b))) := by
  rw [MFrame.eq_iff]
  refine pc_of LF.reap_sameObj_c1 rfl rfl ?_
  simp only [go_sem, qC, qG, qW, Nat.reduceEqDiff, Nat.reduceAdd, Nat.reduceLeDiff, C.reap_sameObj_c1]
  refine guardK_split (fun g1 => ?_) (fun g1 => ?_)
  · simp only [go_sem, qC, qG, qW, Nat.reduceEqDiff, Nat.reduceAdd, Nat.reduceLeDiff, g1, (same_val_pc _ _ ha.1).ret]
    refine guardK_split (fun g2 => ?_) (fun g2 => ?_)
    · simp only [go_sem, qC, qG, qW, Nat.reduceEqDiff, Nat.reduceAdd, Nat.reduceLeDiff, g1, g2, (same_val_pc _ _ ha.2).ret, Bool.true_and]
    · simp only [go_sem, qC, qG, qW, Nat.reduceEqDiff, Nat.reduceAdd, Nat.reduceLeDiff, g1, g2, Bool.not_true, Bool.true_and, Bool.false_and]
  · simp only [go_sem, qC, qG, qW, Nat.reduceEqDiff, Nat.reduceAdd, Nat.reduceLeDiff, g1, Bool.not_true, Bool.false_and]
theorem EqualFunc_pc (a b : List MFrame) (ha : Few a.length) (hf : ∀ x ∈ a, x.few) : PC L F.slices_EqualFunc_s_api_MeanFrame__api_MeanFrame_api_MeanFrame_api_MeanFrame [.fz (a.map MFrame.enc), .fz (b.map MFrame.enc), .fn F.reap_sameObj_c1 [] []] (.bool (decide (a = b))) := by
  refine pc_of LF.slices_EqualFunc_s_api_MeanFrame__api_MeanFrame_api_MeanFrame_api_MeanFrame rfl rfl ?_
  simp only [go_sem, qC, qG, qW, Nat.reduceEqDiff, Nat.reduceAdd, Nat.reduceLeDiff, C.slices_EqualFunc_s_api_MeanFrame__api_MeanFrame_api_MeanFrame_api_MeanFrame]
  refine condK_split (fun h => ?_) (fun h => ?_)
  · simp only [go_sem, qC, qG, qW, Nat.reduceEqDiff, Nat.reduceAdd, Nat.reduceLeDiff]
    simp at h
    have : ¬ a = b := by rintro rfl; exact h rfl
    simp [this]
  · have hl : a.length = b.length := by simp at h; exact h
    simp only [go_sem, qC, qG, qW, Nat.reduceEqDiff, Nat.reduceAdd, Nat.reduceLeDiff]
    refine wp_for (a.length) (fun k st => ∃ fr en cnt, st = ⟨fr, en, cnt⟩ ∧ (fr 0 = .fz (a.map MFrame.enc)) ∧ (fr 1 = .fz (b.map MFrame.enc)) ∧ (fr 2 = .fn F.reap_sameObj_c1 [] []) ∧ (fr 15 = .fz (a.map MFrame.enc)) ∧ (fr 16 = .int .i64 a.length) ∧ (fr 17 = .int .i64 k) ∧ (a.take k = b.take k)) 0 (Nat.zero_le _) ⟨_, _, _, rfl, (by first | (simp only [go_sem, Nat.reduceEqDiff, Nat.reduceAdd, Nat.reduceLeDiff]; try rfl; done) | rfl | simp), (by first | (simp only [go_sem, Nat.reduceEqDiff, Nat.reduceAdd, Nat.reduceLeDiff]; try rfl; done) | rfl | simp), (by first | (simp only [go_sem, Nat.reduceEqDiff, Nat.reduceAdd, Nat.reduceLeDiff]; try rfl; done) | rfl | simp), (by first | (simp only [go_sem, Nat.reduceEqDiff, Nat.reduceAdd, Nat.reduceLeDiff]; try rfl; done) | rfl | simp), (by first | (simp only [go_sem, Nat.reduceEqDiff, Nat.reduceAdd, Nat.reduceLeDiff]; try rfl; done) | rfl | simp), (by first | (simp only [go_sem, Nat.reduceEqDiff, Nat.reduceAdd, Nat.reduceLeDiff]; try rfl; done) | rfl | simp), (by first | (simp only [go_sem, Nat.reduceEqDiff, Nat.reduceAdd, Nat.reduceLeDiff]; try rfl; done) | rfl | simp)⟩ ?_
    rintro k st hk ⟨fr, en, cnt, rfl, h0, h1, h2, h15, h16, h17, hI⟩
    simp only [go_sem, qC, qG, qW, Nat.reduceEqDiff, Nat.reduceAdd, Nat.reduceLeDiff, h0, h1, h2, h15, h16, h17]
    refine condK_split (fun hq => ?_) (fun hq => ?_)
    · have h' : k < a.length := of_decide_eq_true hq
      have h'' : k < b.length := by omega
      simp only [go_sem, qC, qG, qW, Nat.reduceEqDiff, Nat.reduceAdd, Nat.reduceLeDiff, h', h'', h0, h1, h2, h15, h16, h17, (sameObj_c1_pc _ b[k] (hf _ (List.getElem_mem h'))).ret]
      refine condK_split (fun hb => ?_) (fun hb => ?_)
      · simp only [go_sem, qC, qG, qW, Nat.reduceEqDiff, Nat.reduceAdd, Nat.reduceLeDiff]
        simp at hb
        simp [ne_at h' h'' hb]
      · simp only [go_sem, qC, qG, qW, Nat.reduceEqDiff, Nat.reduceAdd, Nat.reduceLeDiff, h', h0, h1, h2, h15, h16, h17]
        simp at hb
        refine ⟨_, _, _, rfl, ?_⟩
        simp only [go_sem, qW, Nat.reduceEqDiff, Nat.reduceAdd, Nat.reduceLeDiff, h0, h1, h2, h15, h16, h17, wrap_succ h' ha]
        exact eq_step h' h'' hI hb
    · have : k = a.length := by simp at hq; omega
      subst this
      simp only [go_sem, qC, qG, qW, Nat.reduceEqDiff, Nat.reduceAdd, Nat.reduceLeDiff]
      simp [eq_full hl hI]
theorem MObj.eq_iff {a b : MObj} : decide (a = b) = (decide (a.form = b.form) && decide (a.n = b.n) && decide (a.vals = b.vals) && decide (a.frames = b.frames)) := by
  cases a; cases b; simp [Bool.and_assoc]
theorem sameObj_pc (a b : MObj) (ha : a.few) : PC L F.reap_sameObj [.agg [.int .i64 a.form, .int .i64 a.n, .fz (a.vals.map MVal.enc), .fz (a.frames.map MFrame.enc)], .agg [.int .i64 b.form, .int .i64 b.n, .fz (b.vals.map MVal.enc), .fz (b.frames.map MFrame.enc)]] (.bool (decide (a = b))) := by
  rw [MObj.eq_iff]
  refine pc_of LF.reap_sameObj rfl rfl ?_
  simp only [go_sem, qC, qG, qW, Nat.reduceEqDiff, Nat.reduceAdd, Nat.reduceLeDiff, C.reap_sameObj]
  refine guardK_split (fun g1 => ?_) (fun g1 => ?_)
  · simp only [go_sem, qC, qG, qW, Nat.reduceEqDiff, Nat.reduceAdd, Nat.reduceLeDiff, g1]
    refine guardK_split (fun g2 => ?_) (fun g2 => ?_)
    · simp only [go_sem, qC, qG, qW, Nat.reduceEqDiff, Nat.reduceAdd, Nat.reduceLeDiff, g1, g2, (same_val_pc _ _ ha.1).ret]
      refine guardK_split (fun g3 => ?_) (fun g3 => ?_)
      · simp only [go_sem, qC, qG, qW, Nat.reduceEqDiff, Nat.reduceAdd, Nat.reduceLeDiff, g1, g2, g3, (EqualFunc_pc _ _ ha.2.1 ha.2.2).ret, Bool.true_and]
      · simp only [go_sem, qC, qG, qW, Nat.reduceEqDiff, Nat.reduceAdd, Nat.reduceLeDiff, g1, g2, g3, Bool.not_true, Bool.true_and, Bool.false_and]
    · simp only [go_sem, qC, qG, qW, Nat.reduceEqDiff, Nat.reduceAdd, Nat.reduceLeDiff, g1, g2, Bool.not_true, Bool.true_and, Bool.false_and]
  · simp only [go_sem, qC, qG, qW, Nat.reduceEqDiff, Nat.reduceAdd, Nat.reduceLeDiff, g1, Bool.not_true, Bool.false_and]
theorem forms_at {a b : MWorld} {k : Nat} (ha : k < a.objs.length) (hb : k < b.objs.length) : ((a.obj k).form = (b.obj k).form) = (a.objs[k].form = b.objs[k].form) := by rw [objAt_get ha, objAt_get hb]
theorem reap_follows_pc (a b : MWorld) (ha : a.few) : PC L F.reap_follows [.agg [.fz (a.objs.map MObj.enc), .fz (a.tasks.map (.int .i64)), .fz (a.outs.map MOut.enc), .fz (a.ins.map (.int .i64)), .int .i64 a.used], .agg [.fz (b.objs.map MObj.enc), .fz (b.tasks.map (.int .i64)), .fz (b.outs.map MOut.enc), .fz (b.ins.map (.int .i64)), .int .i64 b.used]] (.bool (followsOk a b)) := by
  refine pc_of LF.reap_follows rfl rfl ?_
  simp only [go_sem, qC, qG, qW, Nat.reduceEqDiff, Nat.reduceAdd, Nat.reduceLeDiff, C.reap_follows]
  have hle : ∀ {x y : Nat}, decide (x < y) = false ↔ y ≤ x := by intro x y; simp
  have hnle : ∀ {x y : Nat}, decide (x < y) = true ↔ ¬ y ≤ x := by intro x y; simp
  refine guardK_split (fun g1 => ?_) (fun g1 => ?_)
  · have k1 := hle.1 g1
    simp only [go_sem, qC, qG, qW, Nat.reduceEqDiff, Nat.reduceAdd, Nat.reduceLeDiff, g1]
    refine guardK_split (fun g2 => ?_) (fun g2 => ?_)
    · have k2 := hle.1 g2
      have eT : (b.tasks.map (Val.int .i64)).take a.tasks.length = (b.tasks.take a.tasks.length).map (.int .i64) := by rw [List.map_take]
      simp only [go_sem, qC, qG, qW, Nat.reduceEqDiff, Nat.reduceAdd, Nat.reduceLeDiff, g1, g2, k2, List.length_map, eT, (same_int_pc _ _ ha.tasks).ret]
      refine condK_split (fun g3 => ?_) (fun g3 => ?_)
      · simp only [go_sem, qC, qG, qW, Nat.reduceEqDiff, Nat.reduceAdd, Nat.reduceLeDiff]
        have : ¬ a.tasks = b.tasks.take a.tasks.length := by simpa using g3
        simp [followsOk, this]
      · have k3 : a.tasks = b.tasks.take a.tasks.length := by simpa using g3
        have e4 : followsOk a b = formsOk a b := by simp only [followsOk, decide_eq_true k1, decide_eq_true k2, decide_eq_true k3, Bool.true_and]
        rw [e4]
        simp only [go_sem, qC, qG, qW, Nat.reduceEqDiff, Nat.reduceAdd, Nat.reduceLeDiff]
        refine wp_for (a.objs.length) (fun k st => ∃ fr en cnt, st = ⟨fr, en, cnt⟩ ∧ (fr 3 = .ptr ⟨0, 3, 0⟩ 0) ∧ (en ⟨0, 3, 0⟩ = some (.box b.cells false)) ∧ (fr 36 = .fz (a.objs.map MObj.enc)) ∧ (fr 37 = .int .i64 a.objs.length) ∧ (fr 38 = .int .i64 k) ∧ (∀ i, i < k → (a.obj i).form = (b.obj i).form)) 0 (Nat.zero_le _) ⟨_, _, _, rfl, (by first | (simp only [go_sem, Nat.reduceEqDiff, Nat.reduceAdd, Nat.reduceLeDiff]; try rfl; done) | rfl | simp), (by first | (simp only [go_sem, Nat.reduceEqDiff, Nat.reduceAdd, Nat.reduceLeDiff]; try rfl; done) | rfl | simp), (by first | (simp only [go_sem, Nat.reduceEqDiff, Nat.reduceAdd, Nat.reduceLeDiff]; try rfl; done) | rfl | simp), (by first | (simp only [go_sem, Nat.reduceEqDiff, Nat.reduceAdd, Nat.reduceLeDiff]; try rfl; done) | rfl | simp), (by first | (simp only [go_sem, Nat.reduceEqDiff, Nat.reduceAdd, Nat.reduceLeDiff]; try rfl; done) | rfl | simp), (by first | (simp only [go_sem, Nat.reduceEqDiff, Nat.reduceAdd, Nat.reduceLeDiff]; try rfl; done) | rfl | simp)⟩ ?_
        rintro k st hk ⟨fr, en, cnt, rfl, h3, e3, h36, h37, h38, hI⟩
        simp only [go_sem, qC, qG, qW, Nat.reduceEqDiff, Nat.reduceAdd, Nat.reduceLeDiff, h3, e3, h36, h37, h38]
        refine condK_split (fun hq => ?_) (fun hq => ?_)
        · have h' : k < a.objs.length := of_decide_eq_true hq
          have h'' : k < b.objs.length := by omega
          simp only [go_sem, qC, qG, qW, Nat.reduceEqDiff, Nat.reduceAdd, Nat.reduceLeDiff, h', h'', h3, e3, h36, h37, h38]
          refine condK_split (fun hb => ?_) (fun hb => ?_)
          · simp only [go_sem, qC, qG, qW, Nat.reduceEqDiff, Nat.reduceAdd, Nat.reduceLeDiff]
            have : formsOk a b = false := by
              unfold formsOk
              rw [List.all_eq_false]
              refine ⟨k, by simpa using h', ?_⟩
              rw [decide_eq_true_iff, forms_at h' h'']
              simpa using hb
            rw [this]
          · simp only [go_sem, qC, qG, qW, Nat.reduceEqDiff, Nat.reduceAdd, Nat.reduceLeDiff, h', h3, e3, h36, h37, h38]
            refine ⟨_, _, _, rfl, ?_⟩
            simp only [go_sem, qW, Nat.reduceEqDiff, Nat.reduceAdd, Nat.reduceLeDiff, h3, e3, h36, h37, h38, wrap_succ h' ha.objs]
            intro i hi
            by_cases hik : i < k
            · exact hI i hik
            · have : i = k := by omega
              subst this
              rw [forms_at h' h'']
              simpa using hb
        · have : k = a.objs.length := by simp at hq; omega
          subst this
          simp only [go_sem, qC, qG, qW, Nat.reduceEqDiff, Nat.reduceAdd, Nat.reduceLeDiff]
          have : formsOk a b = true := by
            unfold formsOk
            rw [List.all_eq_true]
            intro i hi
            exact decide_eq_true (hI i (by simpa using hi))
          rw [this]
    · have k2 := hnle.1 (by simpa using g2)
      simp only [go_sem, qC, qG, qW, Nat.reduceEqDiff, Nat.reduceAdd, Nat.reduceLeDiff, g1, g2, Bool.not_false]
      simp only [followsOk, decide_eq_false k2, Bool.false_and, Bool.and_false]
  · have k1 := hnle.1 (by simpa using g1)
    simp only [go_sem, qC, qG, qW, Nat.reduceEqDiff, Nat.reduceAdd, Nat.reduceLeDiff, g1, Bool.not_false]
    simp only [followsOk, decide_eq_false k1, Bool.false_and]
theorem R18_Follows_pc (a b : MWorld) (ha : a.few) : PC L F.R18_Follows [.agg [.fz (a.objs.map MObj.enc), .fz (a.tasks.map (.int .i64)), .fz (a.outs.map MOut.enc), .fz (a.ins.map (.int .i64)), .int .i64 a.used], .agg [.fz (b.objs.map MObj.enc), .fz (b.tasks.map (.int .i64)), .fz (b.outs.map MOut.enc), .fz (b.ins.map (.int .i64)), .int .i64 b.used]] (.bool (followsOk a b)) := by
  have hle : ∀ {x y : Nat}, decide (x < y) = false ↔ y ≤ x := by intro x y; simp
  have hnle : ∀ {x y : Nat}, decide (x < y) = true ↔ ¬ y ≤ x := by intro x y; simp
  refine pc_of LF.R18_Follows rfl rfl ?_
  simp only [go_sem, qC, qG, qW, Nat.reduceEqDiff, Nat.reduceAdd, Nat.reduceLeDiff, C.R18_Follows]
  refine guardK_split (fun g1 => ?_) (fun g1 => ?_)
  · have k1 := hle.1 g1
    simp only [go_sem, qC, qG, qW, Nat.reduceEqDiff, Nat.reduceAdd, Nat.reduceLeDiff, g1]
    refine condK_split (fun g2 => ?_) (fun g2 => ?_)
    · have k2 := hnle.1 g2
      simp only [go_sem, qC, qG, qW, Nat.reduceEqDiff, Nat.reduceAdd, Nat.reduceLeDiff]
      simp only [followsOk, decide_eq_false k2, Bool.false_and, Bool.and_false]
    · have k2 := hle.1 g2
      simp only [go_sem, qC, qG, qW, Nat.reduceEqDiff, Nat.reduceAdd, Nat.reduceLeDiff]
      refine wp_for (a.objs.length) (fun k st => ∃ fr en cnt, st = ⟨fr, en, cnt⟩ ∧ (fr 2 = .ptr ⟨0, 2, 0⟩ 0) ∧ (en ⟨0, 2, 0⟩ = some (.box a.cells false)) ∧ (fr 3 = .ptr ⟨0, 3, 0⟩ 0) ∧ (en ⟨0, 3, 0⟩ = some (.box b.cells false)) ∧ (fr 5 = .int .i64 k) ∧ (∀ i, i < k → (a.obj i).form = (b.obj i).form)) 0 (Nat.zero_le _) ⟨_, _, _, rfl, (by first | (simp only [go_sem, Nat.reduceEqDiff, Nat.reduceAdd, Nat.reduceLeDiff]; try rfl; done) | rfl | simp), (by first | (simp only [go_sem, Nat.reduceEqDiff, Nat.reduceAdd, Nat.reduceLeDiff]; try rfl; done) | rfl | simp), (by first | (simp only [go_sem, Nat.reduceEqDiff, Nat.reduceAdd, Nat.reduceLeDiff]; try rfl; done) | rfl | simp), (by first | (simp only [go_sem, Nat.reduceEqDiff, Nat.reduceAdd, Nat.reduceLeDiff]; try rfl; done) | rfl | simp), (by first | (simp only [go_sem, Nat.reduceEqDiff, Nat.reduceAdd, Nat.reduceLeDiff]; try rfl; done) | rfl | simp), (by first | (simp only [go_sem, Nat.reduceEqDiff, Nat.reduceAdd, Nat.reduceLeDiff]; try rfl; done) | rfl | simp)⟩ ?_
      rintro k st hk ⟨fr, en, cnt, rfl, h2, e2, h3, e3, h5, hI⟩
      simp only [go_sem, qC, qG, qW, Nat.reduceEqDiff, Nat.reduceAdd, Nat.reduceLeDiff, h2, e2, h3, e3, h5]
      refine condK_split (fun hq => ?_) (fun hq => ?_)
      · have h' : k < a.objs.length := of_decide_eq_true hq
        have h'' : k < b.objs.length := by omega
        simp only [go_sem, qC, qG, qW, Nat.reduceEqDiff, Nat.reduceAdd, Nat.reduceLeDiff, h', h'', h2, e2, h3, e3, h5]
        refine condK_split (fun hb => ?_) (fun hb => ?_)
        · simp only [go_sem, qC, qG, qW, Nat.reduceEqDiff, Nat.reduceAdd, Nat.reduceLeDiff]
          have : formsOk a b = false := by
            unfold formsOk
            rw [List.all_eq_false]
            refine ⟨k, by simpa using h', ?_⟩
            rw [decide_eq_true_iff, forms_at h' h'']
            simpa using hb
          simp only [followsOk, this, Bool.and_false]
        · simp only [go_sem, qC, qG, qW, Nat.reduceEqDiff, Nat.reduceAdd, Nat.reduceLeDiff, h', h2, e2, h3, e3, h5]
          refine ⟨_, _, _, rfl, ?_⟩
          simp only [go_sem, qW, Nat.reduceEqDiff, Nat.reduceAdd, Nat.reduceLeDiff, h2, e2, h3, e3, h5, wrap_succ h' ha.objs]
          intro i hi
          by_cases hik : i < k
          · exact hI i hik
          · have : i = k := by omega
            subst this
            rw [forms_at h' h'']
            simpa using hb
      · have : k = a.objs.length := by simp at hq; omega
        subst this
        have : formsOk a b = true := by
          unfold formsOk
          rw [List.all_eq_true]
          intro i hi
          exact decide_eq_true (hI i (by simpa using hi))
        have eT : (b.tasks.map (Val.int .i64)).take a.tasks.length = (b.tasks.take a.tasks.length).map (.int .i64) := by rw [List.map_take]
        simp only [go_sem, qC, qG, qW, Nat.reduceEqDiff, Nat.reduceAdd, Nat.reduceLeDiff, h2, e2, h3, e3, h5, k2, List.length_map, eT, (R06_SameInts_pc _ _ ha.tasks).ret]
        simp only [followsOk, this, decide_eq_true k1, decide_eq_true k2, Bool.true_and, Bool.and_true]
  · have k1 := hnle.1 (by simpa using g1)
    simp only [go_sem, qC, qG, qW, Nat.reduceEqDiff, Nat.reduceAdd, Nat.reduceLeDiff, g1, Bool.not_false]
    simp only [followsOk, decide_eq_false k1, Bool.false_and]
end Go.Proofs.YthpmfghgoabnhaaGreat
