/- Which states are as defined. -/
import Derived.Test.YthpmfghgoabnhaaGreatW14
set_option linter.all false
namespace Go.Proofs.YthpmfghgoabnhaaGreat
open Go.Abs Go.Proofs
theorem someStep_mem (out : List Int) (v : MVal) (x : Int) : x ∈ someStep out v ↔ x ∈ out ∨ (isRef v = true ∧ x = v.n) := by
  unfold someStep
  split
  · rename_i h
    simp only [Bool.and_eq_true] at h
    simp [h.1]
  · rename_i h
    constructor
    · exact .inl
    · rintro (h2 | ⟨h2, rfl⟩)
      · exact h2
      · rw [h2, Bool.true_and] at h
        simp only [Bool.not_eq_true', Bool.not_eq_false] at h
        obtain ⟨y, hy, e⟩ := List.any_eq_true.1 h
        rw [← of_decide_eq_true e]; exact hy
theorem someL_mem (x : Int) : ∀ (l : List MVal) (out : List Int), x ∈ someL out l ↔ x ∈ out ∨ x ∈ refVals l
  | [], out => by simp [someL, refVals]
  | v :: l, out => by
    have := someL_mem x l (someStep out v)
    simp only [someL, List.foldl_cons] at this ⊢
    rw [this, someStep_mem]
    by_cases h : isRef v = true
    · rw [refVals_t h]; simp [h, or_assoc]
    · rw [refVals_f (by simpa using h)]; simp [h]
theorem frames_mem (x : Int) : ∀ (l : List MFrame) (out : List Int), x ∈ l.foldl (fun out f => someL (someL out f.env) f.vals) out ↔ x ∈ out ∨ x ∈ l.flatMap frameRefs
  | [], out => by simp
  | f :: l, out => by
    simp only [List.foldl_cons]
    rw [frames_mem x l, someL_mem, someL_mem]
    simp [frameRefs, or_assoc]
theorem refs_mem (o : MObj) (x : Int) : x ∈ refsL o ↔ x ∈ refsOf o := by
  unfold refsL refsOf
  rw [frames_mem, someL_mem]; simp
theorem vals_in {p : BProg} {w : MWorld} {l : List MVal} {m : Int} (h : valuesOk p w l m = true) : ∀ x ∈ refVals l, inR x 0 (w.objs.length - 1) = true := by
  intro x hx
  simp only [valuesOk, Bool.and_eq_true, List.all_eq_true] at h
  simp only [refVals, List.mem_map, List.mem_filter] at hx
  obtain ⟨v, ⟨hv, hr⟩, rfl⟩ := hx
  have h5 : v.kind = 5 := of_decide_eq_true hr
  have := h.2 v hv
  simpa [valueOk, h5] using this
theorem frames_in {p : BProg} {w : MWorld} {l : List MFrame} (h : framesOk p w l = true) : ∀ x ∈ l.flatMap frameRefs, inR x 0 (w.objs.length - 1) = true := by
  intro x hx
  simp only [framesOk, Bool.and_eq_true, List.all_eq_true] at h
  obtain ⟨f, hf, hx⟩ := List.mem_flatMap.1 hx
  have hk := h.2 f hf
  simp only [frameOk, Bool.and_eq_true] at hk
  rcases List.mem_append.1 hx with hx | hx
  · exact vals_in hk.1.2 x hx
  · exact vals_in hk.2 x hx
theorem len0 {α : Type} {l : List α} (h : (l.length : Int) = 0) : l = [] := by
  cases l with
  | nil => rfl
  | cons a l => simp at h; omega
theorem obj_in {p : BProg} {w : MWorld} {o : MObj} (h : objOk p w o = true) : ∀ x ∈ refsOf o, inR x 0 (w.objs.length - 1) = true := by
  have key : (∃ m, valuesOk p w o.vals m = true ∨ o.vals = []) ∧ (framesOk p w o.frames = true ∨ o.frames = []) := by
    unfold objOk at h
    split at h
    · unfold taskOk at h
      split at h
      · simp only [Bool.and_eq_true] at h
        exact ⟨⟨1, .inl h.1.1.2⟩, .inl h.1.1.1⟩
      split at h
      · simp only [Bool.and_eq_true, decide_eq_true_eq] at h
        exact ⟨⟨1, .inl h.2⟩, .inr (len0 h.1.1)⟩
      split at h
      · simp only [Bool.and_eq_true, decide_eq_true_eq] at h
        exact ⟨⟨1, .inr (len0 h.2)⟩, .inr (len0 h.1)⟩
      · cases h
    split at h
    · simp only [Bool.and_eq_true, decide_eq_true_eq] at h
      exact ⟨⟨1, .inr (len0 h.1.1.1.1.2)⟩, .inl h.1.1.2⟩
    split at h
    · cases h
    rename_i hf
    have hf0 : o.frames = [] := len0 (Classical.not_not.1 hf)
    split at h
    · simp only [Bool.and_eq_true] at h; exact ⟨⟨_, .inl h.2⟩, .inr hf0⟩
    split at h
    · simp only [Bool.and_eq_true] at h; exact ⟨⟨_, .inl h.2⟩, .inr hf0⟩
    split at h
    · simp only [Bool.and_eq_true] at h; exact ⟨⟨_, .inl h.2⟩, .inr hf0⟩
    split at h
    · simp only [Bool.and_eq_true] at h; exact ⟨⟨_, .inl h.2⟩, .inr hf0⟩
    · cases h
  obtain ⟨⟨m, hv⟩, hfr⟩ := key
  intro x hx
  rcases List.mem_append.1 hx with hx | hx
  · rcases hv with hv | hv
    · exact vals_in hv x hx
    · rw [hv] at hx; simp [refVals] at hx
  · rcases hfr with hfr | hfr
    · exact frames_in hfr x hx
    · rw [hfr] at hx; simp at hx
theorem world_in {p : BProg} {w : MWorld} (h : worldOk p w = true) : ∀ o ∈ w.objs, ∀ x ∈ refsOf o, inR x 0 (w.objs.length - 1) = true := by
  intro o ho
  simp only [worldOk, Bool.and_eq_true, List.all_eq_true] at h
  exact obj_in (h.1.2 o ho)
theorem objAt_get {w : MWorld} {k : Nat} (h : k < w.objs.length) : w.obj k = w.objs[k] := by simp [MWorld.obj, List.getD_eq_getElem?_getD, h]
theorem given_in {p : BProg} {w : MWorld} (h : given p w = true) : ∀ o ∈ w.objs, ∀ x ∈ refsL o, inR x 0 (w.objs.length - 1) = true := by
  intro o ho x hx
  simp only [given, Bool.and_eq_true] at h
  exact world_in h.2 o ho x ((refs_mem o x).1 hx)
theorem smallW_obj {w : MWorld} (h : smallWorld w = true) : ∀ o ∈ w.objs, smallObj o = true := by
  intro o ho
  simp only [smallWorld, Bool.and_eq_true, List.all_eq_true] at h
  exact h.2 o ho
theorem wops_cut {L : Prog} {l : List LOper} {st : St} {Q : St → Prop} (M : St → Prop) (h : WOps L l st M) (k : ∀ fr en cnt, M ⟨fr, en, cnt⟩ → Q ⟨fr, en, cnt⟩) : WOps L l st Q := by
  have : ∀ (l : List LOper) {st : St} {M Q : St → Prop}, WOps L l st M → (∀ s, M s → Q s) → WOps L l st Q := by
    intro l
    induction l with
    | nil => intro st M Q h k; exact k _ h
    | cons o l ih => intro st M Q h k; exact wstep_mono h fun s r hs => ih hs k
  exact this l h fun s hs => k _ _ _ hs
end Go.Proofs.YthpmfghgoabnhaaGreat
