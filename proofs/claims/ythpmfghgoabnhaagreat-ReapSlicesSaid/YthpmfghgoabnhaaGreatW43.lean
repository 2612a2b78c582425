/- Slices: what they do to marks. -/
import Derived.Test.YthpmfghgoabnhaaGreatW40
set_option linter.all false
namespace Go.Proofs.YthpmfghgoabnhaaGreat
open Go.Abs Go.Proofs
def markN (m : List Int) (i : Nat) : Int := m.getD i 0
theorem markN_get {m : List Int} {i : Nat} (h : i < m.length) : markN m i = m[i] := by simp [markN, List.getD_eq_getElem?_getD, h]
theorem markN_out {m : List Int} {i : Nat} (h : m.length ≤ i) : markN m i = 0 := by simp [markN, List.getD_eq_getElem?_getD, List.getElem?_eq_none h]
def lookM (m : List Int) (n : Nat) (seen : List Int) : List Int := (List.range m.length).map fun i => if i = n then 2 else if markN m i = 0 ∧ memB seen (i : Nat) = true then 1 else markN m i
theorem lookM_len (m : List Int) (n : Nat) (seen : List Int) : (lookM m n seen).length = m.length := by simp [lookM]
theorem lookM_at {m : List Int} {n : Nat} {seen : List Int} {i : Nat} (h : i < m.length) : markN (lookM m n seen) i = if i = n then 2 else if markN m i = 0 ∧ memB seen (i : Nat) = true then 1 else markN m i := by
  rw [markN_get (by rw [lookM_len]; exact h)]; simp [lookM]
theorem lookM_nil {m : List Int} {n : Nat} (h : n < m.length) : m.set n 2 = lookM m n [] := by
  apply List.ext_getElem
  · simp [lookM]
  · intro i h1 h2
    have hi : i < m.length := by simpa using h1
    simp only [List.getElem_set, lookM, List.getElem_map, List.getElem_range, markN_get hi]
    by_cases hn : n = i
    · simp [hn]
    · have hn' : ¬ i = n := fun e => hn e.symm
      simp [hn, hn', memB]
theorem lookM_set {m : List Int} {n : Nat} {seen : List Int} {j : Nat} (hj : j < m.length) (h0 : markN (lookM m n seen) j = 0) : (lookM m n seen).set j 1 = lookM m n (seen ++ [(j : Int)]) := by
  rw [lookM_at hj] at h0
  apply List.ext_getElem
  · simp [lookM]
  · intro i h1 h2
    simp only [List.getElem_set, lookM, List.getElem_map, List.getElem_range, memB_append]
    by_cases hji : j = i
    · subst hji
      by_cases hn : j = n
      · rw [if_pos hn] at h0; cases h0
      · rw [if_neg hn] at h0
        have hm : markN m j = 0 := by
          split at h0
          · cases h0
          · exact h0
        simp [hn, hm]
    · have : decide ((j : Int) = (i : Int)) = false := by simp; omega
      simp only [this, Bool.or_false, if_neg hji]
theorem lookM_skip {m : List Int} {n : Nat} {seen : List Int} {j : Nat} (hj : j < m.length) (h0 : ¬ markN (lookM m n seen) j = 0) : lookM m n (seen ++ [(j : Int)]) = lookM m n seen := by
  rw [lookM_at hj] at h0
  unfold lookM
  refine List.map_congr_left fun i _ => ?_
  rw [memB_append]
  by_cases hji : j = i
  · subst hji
    by_cases hn : j = n
    · simp [hn]
    · rw [if_neg hn] at h0
      by_cases hm : markN m j = 0
      · by_cases hs : memB seen (j : Nat) = true
        · simp [hs]
        · rw [if_neg (fun h => hs h.2)] at h0; exact absurd hm h0
      · simp [hm]
  · have : decide ((j : Int) = (i : Int)) = false := by simp; omega
    simp only [this, Bool.or_false]
theorem lookM_same {m : List Int} {n : Nat} {a b : List Int} (h : ∀ x, x ∈ a ↔ x ∈ b) : lookM m n a = lookM m n b := by
  have hb : ∀ x, memB a x = memB b x := fun x => by rw [Bool.eq_iff_iff, memB_iff, memB_iff]; exact h x
  unfold lookM; simp only [hb]
def lookedAt (w : MWorld) (m : List Int) (n : Nat) : List Int := lookM m n (refsOf (w.obj n))
def firstG : List Int → Nat
  | [] => 0
  | x :: l => if x = 1 then 0 else firstG l + 1
theorem firstG_spec : ∀ m : List Int, firstG m ≤ m.length ∧ (∀ i, i < firstG m → ¬ markN m i = 1) ∧ (firstG m < m.length → markN m (firstG m) = 1)
  | [] => ⟨Nat.le_refl _, fun i h => (by cases h), fun h => (by cases h)⟩
  | x :: l => by
    obtain ⟨h1, h2, h3⟩ := firstG_spec l
    by_cases hx : x = 1
    · simp [firstG, hx, markN]
    · simp only [firstG, if_neg hx, List.length_cons]
      refine ⟨by omega, fun i hi => ?_, fun hl => ?_⟩
      · cases i with
        | zero => simpa [markN] using hx
        | succ i => have := h2 i (by omega); simpa [markN] using this
      · have := h3 (by omega); simpa [markN] using this
theorem firstG_eq {m : List Int} {n : Nat} (hn : n < m.length) (h1 : markN m n = 1) (h2 : ∀ i, i < n → ¬ markN m i = 1) : firstG m = n := by
  obtain ⟨a, b, c⟩ := firstG_spec m
  by_cases h : firstG m < n
  · exact absurd (c (by omega)) (h2 _ h)
  · by_cases h' : n < firstG m
    · exact absurd h1 (b _ h')
    · omega
theorem firstG_none {m : List Int} (h2 : ∀ i, i < m.length → ¬ markN m i = 1) : firstG m = m.length := by
  obtain ⟨a, b, c⟩ := firstG_spec m
  by_cases h : firstG m < m.length
  · exact absurd (c h) (h2 _ h)
  · omega
theorem firstG_drop {m : List Int} {k : Nat} (h : k < m.length) : firstG (m.drop k) = if m[k] = 1 then 0 else firstG (m.drop (k + 1)) + 1 := by
  rw [List.drop_eq_getElem_cons h, firstG]
def greyI (m : List Int) : Int := if firstG m < m.length then (firstG m : Int) else -1
theorem R18_grey_pc (m : List Int) (hm : Few m.length) : PC L F.R18_grey [.fz (m.map (.int .i64))] (.int .i64 (greyI m)) := by
  refine pc_of LF.R18_grey rfl rfl ?_
  simp only [go_sem, qC, qG, qW, C.R18_grey]
  refine wp_for (m.length) (fun k st => ∃ fr en cnt, st = ⟨fr, en, cnt⟩ ∧ (fr 0 = .fz (m.map (.int .i64))) ∧ (fr 3 = .int .i64 k) ∧ (firstG m = firstG (m.drop k) + k)) 0 (Nat.zero_le _) ⟨_, _, _, rfl, (by first | (simp only [go_sem, qW]; (try rfl); done) | rfl | simp), (by first | (simp only [go_sem, qW]; (try rfl); done) | rfl | simp), (by first | (simp only [go_sem, qW]; (try rfl); done) | rfl | simp)⟩ ?_
  rintro k st hk ⟨fr, en, cnt, rfl, h0, h3, hI⟩
  simp only [go_sem, qC, qG, qW, h0, h3]
  refine condK_split (fun hq => ?_) (fun hq => ?_)
  · have h' : k < m.length := of_decide_eq_true hq
    rw [firstG_drop h'] at hI
    simp only [go_sem, qC, qG, qW, h0, h3, h']
    refine condK_split (fun g => ?_) (fun g => ?_)
    · have g' : m[k] = 1 := of_decide_eq_true g
      rw [if_pos g', Nat.zero_add] at hI
      simp only [go_sem, qC, qG, qW, h0, h3]
      rw [greyI, hI, if_pos h']
    · have g' : ¬ m[k] = 1 := of_decide_eq_false g
      rw [if_neg g'] at hI
      simp only [go_sem, qC, qG, qW, h0, h3, h']
      refine ⟨_, _, _, rfl, ?_⟩
      simp only [go_sem, qW, h0, h3, wrap_succ h' hm]
      omega
  · have : k = m.length := by simp at hq; omega
    subst this
    simp only [go_sem, qC, qG, qW]
    have h0 : firstG m = m.length := by rw [hI]; simp [firstG]
    rw [greyI, h0, if_neg (by omega)]
def runS (w : MWorld) : Nat → List Int → List Int
  | 0, m => m
  | k + 1, m => if firstG m < m.length then runS w k (lookedAt w m (firstG m)) else m
theorem runS_none {w : MWorld} {m : List Int} (h : ¬ firstG m < m.length) (k : Nat) : runS w k m = m := by
  cases k with
  | zero => rfl
  | succ k => rw [runS, if_neg h]
theorem runS_len (w : MWorld) : ∀ (k : Nat) (m : List Int), (runS w k m).length = m.length
  | 0, m => rfl
  | k + 1, m => by
    rw [runS]; split
    · rw [runS_len w k, lookedAt, lookM_len]
    · rfl
structure MarksOk (w : MWorld) (m : List Int) : Prop where
  len : m.length = w.objs.length
  range : ∀ i, i < m.length → markN m i = 0 ∨ markN m i = 1 ∨ markN m i = 2
  tasks : ∀ i, i < w.objs.length → isTask (w.obj i) = true → ¬ markN m i = 0
  black : ∀ i, i < w.objs.length → markN m i = 2 → ∀ x ∈ refsOf (w.obj i), ¬ markN m x.toNat = 0
theorem look_up {m : List Int} {n : Nat} {seen : List Int} {i : Nat} (h : ¬ markN m i = 0) : ¬ markN (lookM m n seen) i = 0 := by
  have hi : i < m.length := by
    by_cases hl : i < m.length
    · exact hl
    · exact absurd (markN_out (by omega)) h
  rw [lookM_at hi]
  split
  · omega
  · rw [if_neg (fun hh => h hh.1)]; exact h
theorem marks_look {w : MWorld} {m : List Int} (hin : InRange w) (h : MarksOk w m) (n : Nat) : MarksOk w (lookedAt w m n) := by
  refine ⟨by rw [lookedAt, lookM_len]; exact h.len, fun i hi => ?_, fun i hi ht => look_up (h.tasks i hi ht), fun i hi hb x hx => ?_⟩
  · rw [lookedAt, lookM_len] at hi
    rw [lookedAt, lookM_at hi]
    split
    · exact .inr (.inr rfl)
    · split
      · exact .inr (.inl rfl)
      · exact h.range i hi
  · have hg : w.obj i ∈ w.objs := by rw [objAt_get hi]; exact List.getElem_mem _
    have hxi := hin _ hg x hx
    simp only [inR, decide_eq_true_eq] at hxi
    obtain ⟨j, rfl⟩ := Int.eq_ofNat_of_zero_le hxi.1
    have hj : j < m.length := by rw [h.len]; omega
    rw [lookedAt, lookM_at (by rw [h.len]; exact hi)] at hb
    rw [Int.toNat_natCast]
    by_cases hin' : i = n
    · subst hin'
      rw [lookedAt, lookM_at hj]
      split
      · omega
      · split
        · omega
        · rename_i h2
          intro h0
          exact h2 ⟨h0, memB_iff.2 hx⟩
    · rw [if_neg hin'] at hb
      split at hb
      · omega
      · have := h.black i hi hb _ hx
        rw [Int.toNat_natCast] at this
        exact look_up this
theorem marks_run {w : MWorld} (hin : InRange w) : ∀ (k : Nat) {m : List Int}, MarksOk w m → MarksOk w (runS w k m)
  | 0, m, h => h
  | k + 1, m, h => by
    rw [runS]; split
    · exact marks_run hin k (marks_look hin h _)
    · exact h
def notBlack (m : List Int) : Nat := ((List.range m.length).map fun i => if markN m i = 2 then 0 else 1).sum
theorem notBlack_look {m : List Int} {n : Nat} {seen : List Int} (hn : n < m.length) (h1 : markN m n = 1) : notBlack (lookM m n seen) + 1 = notBlack m := by
  have := sum_change (f := fun i => if markN (lookM m n seen) i = 2 then 0 else 1) (g := fun i => if markN m i = 2 then 0 else 1) m.length hn (fun i hi => by
    by_cases hl : i < m.length
    · rw [lookM_at hl, if_neg hi]
      by_cases hc : markN m i = 0 ∧ memB seen (i : Nat) = true
      · rw [if_pos hc, hc.1]; rfl
      · rw [if_neg hc]
    · rw [markN_out (m := m) (by omega), markN_out (m := lookM m n seen) (by rw [lookM_len]; omega)])
  have e1 : markN (lookM m n seen) n = 2 := by rw [lookM_at hn, if_pos rfl]
  simp only [e1, h1, if_true] at this
  rw [notBlack, notBlack, lookM_len]
  simpa using this
end Go.Proofs.YthpmfghgoabnhaaGreat
