/- The law of what is reached, as a contract. -/
import Derived.Test.YthpmfghgoabnhaaGreatW39
set_option linter.all false
namespace Go.Proofs.YthpmfghgoabnhaaGreat
open Go.Abs Go.Proofs
theorem distinct_mem (w : MWorld) : ∀ (l met : List Int), distinctTasks w met l = true → ∀ t ∈ l, ∃ i : Nat, t = i ∧ i < w.objs.length ∧ isTask (w.obj i) = true
  | [], _, _, t, h => by cases h
  | k :: l, met, hd, t, h => by
    simp only [distinctTasks, Bool.and_eq_true] at hd
    rcases List.mem_cons.1 h with rfl | h
    · have h1 := hd.1.1.1
      simp only [inR, decide_eq_true_eq] at h1
      obtain ⟨j, rfl⟩ := Int.eq_ofNat_of_zero_le h1.1
      exact ⟨j, rfl, by omega, hd.1.1.2⟩
    · exact distinct_mem w l _ hd.2 t h
theorem given_tasks {p : BProg} {w : MWorld} (h : given p w = true) : (∀ t ∈ w.tasks, ∃ i : Nat, t = i ∧ i < w.objs.length ∧ isTask (w.obj i) = true) ∧ ∀ i : Nat, i < w.objs.length → isTask (w.obj i) = true → (i : Int) ∈ w.tasks := by
  have ht : tasksB w = true := by
    simp only [given, worldOk, Bool.and_eq_true] at h
    rw [tasks_same]; exact h.2.1.1.2
  simp only [tasksB, Bool.and_eq_true] at ht
  refine ⟨distinct_mem w _ _ ht.1, fun i hi hk => ?_⟩
  have := ht.2
  simp only [covered, List.all_eq_true] at this
  have h2 := this i (by simpa using hi)
  rw [hk] at h2
  simp only [Bool.not_true, Bool.or_false, List.any_eq_true, decide_eq_true_eq] at h2
  obtain ⟨x, hx, rfl⟩ := h2
  exact hx
theorem movedL_few {keep : List Int} {l : List MVal} (h : Few l.length) : Few (movedL keep l).length := by simpa [movedL] using h
theorem movedO_few {keep : List Int} {o : MObj} (h : o.few) : (movedO keep o).few := by
  refine ⟨movedL_few h.1, by simpa [movedO] using h.2.1, fun f hf => ?_⟩
  obtain ⟨g, hg, rfl⟩ := List.mem_map.1 hf
  have := h.2.2 g hg
  exact ⟨movedL_few this.1, movedL_few this.2⟩
theorem compact_few {w : MWorld} {keep : List Int} (hw : w.few) (hsm : smallWorld w = true) (hk : Few keep.length) (hin : ∀ x ∈ keep, inR x 0 ((w.objs.length : Int) - 1) = true) : (compactW w keep).few := by
  refine ⟨by simpa [compactW] using hk, by simpa [compactW] using hw.tasks, hw.outs, hw.ins, fun o ho => ?_⟩
  obtain ⟨n, hn, rfl⟩ := List.mem_map.1 ho
  exact movedO_few (small_few (smallW_obj hsm _ (obj_mem (hin n hn))))
end Go.Proofs.YthpmfghgoabnhaaGreat
