/- Which states are as defined. -/
import Derived.Test.YthpmfghgoabnhaaGreatW14
set_option linter.all false
namespace Go.Proofs.YthpmfghgoabnhaaGreat
open Go.Abs Go.Proofs
theorem someStep_mem (out : List Int) (v : MVal) (x : Int) : x ∈ someStep out v ↔ x ∈ out ∨ (isRef v = true ∧ x = v.n) := by
  unfold someStep
  split
  · rename_i h
    simp only [Bool.and_eq_true] at h
    simp [h.1]
  · rename_i h
    constructor
    · exact .inl
    · rintro (h2 | ⟨h2, rfl⟩)
      · exact h2
      · rw [h2, Bool.true_and] at h
        simp only [Bool.not_eq_true', Bool.not_eq_false] at h
        obtain ⟨y, hy, e⟩ := List.any_eq_true.1 h
        rw [← of_decide_eq_true e]; exact hy
theorem someL_mem (x : Int) : ∀ (l : List MVal) (out : List Int), x ∈ someL out l ↔ x ∈ out ∨ x ∈ refVals l
  | [], out => by simp [someL, refVals]
  | v :: l, out => by
    have := someL_mem x l (someStep out v)
    simp only [someL, List.foldl_cons] at this ⊢
    rw [this, someStep_mem]
    by_cases h : isRef v = true
    · rw [refVals_t h]; simp [h, or_assoc]
    · rw [refVals_f (by simpa using h)]; simp [h]
theorem frames_mem (x : Int) : ∀ (l : List MFrame) (out : List Int), x ∈ l.foldl (fun out f => someL (someL out f.env) f.vals) out ↔ x ∈ out ∨ x ∈ l.flatMap frameRefs
  | [], out => by simp
  | f :: l, out => by
    simp only [List.foldl_cons]
    rw [frames_mem x l, someL_mem, someL_mem]
    simp [frameRefs, or_assoc]
theorem refs_mem (o : MObj) (x : Int) : x ∈ refsL o ↔ x ∈ refsOf o := by
  unfold refsL refsOf
  rw [frames_mem, someL_mem]; simp
theorem vals_in {p : BProg} {w : MWorld} {l : List MVal} {m : Int} (h : valuesOk p w l m = true) : ∀ x ∈ refVals l, inR x 0 (w.objs.length - 1) = true := by
  intro x hx
  simp only [valuesOk, Bool.and_eq_true, List.all_eq_true] at h
  simp only [refVals, List.mem_map, List.mem_filter] at hx
  obtain ⟨v, ⟨hv, hr⟩, rfl⟩ := hx
  have h5 : v.kind = 5 := of_decide_eq_true hr
  have := h.2 v hv
  simpa [valueOk, h5] using this
theorem frames_in {p : BProg} {w : MWorld} {l : List MFrame} (h : framesOk p w l = true) : ∀ x ∈ l.flatMap frameRefs, inR x 0 (w.objs.length - 1) = true := by
  intro x hx
  simp only [framesOk, Bool.and_eq_true, List.all_eq_true] at h
  obtain ⟨f, hf, hx⟩ := List.mem_flatMap.1 hx
  have hk := h.2 f hf
  simp only [frameOk, Bool.and_eq_true] at hk
  rcases List.mem_append.1 hx with hx | hx
  · exact vals_in hk.1.2 x hx
  · exact vals_in hk.2 x hx
theorem len0 {α : Type} {l : List α} (h : (l.length : Int) = 0) : l = [] := by
  cases l with
  | nil => rfl
  | cons a l => simp at h; omega
theorem obj_in {p : BProg} {w : MWorld} {o : MObj} (h : objOk p w o = true) : ∀ x ∈ refsOf o, inR x 0 (w.objs.length - 1) = true := by
  have key : (∃ m, valuesOk p w o.vals m = true ∨ o.vals = []) ∧ (framesOk p w o.frames = true ∨ o.frames = []) := by
    unfold objOk at h
    split at h
    · unfold taskOk at h
      split at h
      · simp only [Bool.and_eq_true] at h
        exact ⟨⟨1, .inl h.1.1.2⟩, .inl h.1.1.1⟩
      split at h
      · simp only [Bool.and_eq_true, decide_eq_true_eq] at h
        exact ⟨⟨1, .inl h.2⟩, .inr (len0 h.1.1)⟩
      split at h
      · simp only [Bool.and_eq_true, decide_eq_true_eq] at h
        exact ⟨⟨1, .inr (len0 h.2)⟩, .inr (len0 h.1)⟩
      · cases h
    split at h
    · simp only [Bool.and_eq_true, decide_eq_true_eq] at h
      exact ⟨⟨1, .inr (len0 h.1.1.1.1.2)⟩, .inl h.1.1.2⟩
    split at h
    · cases h
    rename_i hf
    have hf0 : o.frames = [] := len0 (Classical.not_not.1 hf)
    split at h
    · simp only [Bool.and_eq_true] at h; exact ⟨⟨_, .inl h.2⟩, .inr hf0⟩
    split at h
    · simp only [Bool.and_eq_true] at h; exact ⟨⟨_, .inl h.2⟩, .inr hf0⟩
    split at h
    · simp only [Bool.and_eq_true] at h; exact ⟨⟨_, .inl h.2⟩, .inr hf0⟩
    split at h
    · simp only [Bool.and_eq_true] at h; exact ⟨⟨_, .inl h.2⟩, .inr hf0⟩
    · cases h
  obtain ⟨⟨m, hv⟩, hfr⟩ := key
  intro x hx
  rcases List.mem_append.1 hx with hx | hx
  · rcases hv with hv | hv
    · exact vals_in hv x hx
    · rw [hv] at hx; simp [refVals] at hx
  · rcases hfr with hfr | hfr
    · exact frames_in hfr x hx
    · rw [hfr] at hx; simp at hx
theorem world_in {p : BProg} {w : MWorld} (h : worldOk p w = true) : ∀ o ∈ w.objs, ∀ x ∈ refsOf o, inR x 0 (w.objs.length - 1) = true := by
  intro o ho
  simp only [worldOk, Bool.and_eq_true, List.all_eq_true] at h
  exact obj_in (h.1.2 o ho)
def ageAt (s : RState) (i : Int) : Int := s.ages.getD i.toNat 0
def markAt (s : RState) (i : Int) : Int := s.marks.getD i.toNat 0
theorem ageAt_get {s : RState} {k : Nat} (h : k < s.ages.length) : ageAt s k = s.ages[k] := by simp [ageAt, List.getD_eq_getElem?_getD, h]
theorem markAt_get {s : RState} {k : Nat} (h : k < s.marks.length) : markAt s k = s.marks[k] := by simp [markAt, List.getD_eq_getElem?_getD, h]
theorem objAt_get {w : MWorld} {k : Nat} (h : k < w.objs.length) : w.obj k = w.objs[k] := by simp [MWorld.obj, List.getD_eq_getElem?_getD, h]
def rangeOk (s : RState) (i : Nat) : Bool := inR (ageAt s i) 0 2 && inR (markAt s i) 0 2
def whiteBad (s : RState) (i : Nat) : Bool := decide (markAt s i = 0) && (isTask (s.world.obj i) || decide (ageAt s i = 2) && !decide (s.cycle = 3))
def refBad (s : RState) (i : Nat) (r : Int) : Bool := decide (markAt s i = 2) && decide (markAt s r = 0)
def rowOk (s : RState) (i : Nat) : Bool := !whiteBad s i && (refsL (s.world.obj i)).all fun r => !refBad s i r
def rowsOk (s : RState) : Bool := (List.range s.world.objs.length).all fun i => rangeOk s i && rowOk s i
def lensOk (s : RState) : Bool := decide (s.ages.length = s.world.objs.length) && decide (s.marks.length = s.world.objs.length) && inR s.cycle 0 3
def stateOk (p : BProg) (s : RState) : Bool := given p s.world && lensOk s && rowsOk s
theorem given_in {p : BProg} {w : MWorld} (h : given p w = true) : ∀ o ∈ w.objs, ∀ x ∈ refsL o, inR x 0 (w.objs.length - 1) = true := by
  intro o ho x hx
  simp only [given, Bool.and_eq_true] at h
  exact world_in h.2 o ho x ((refs_mem o x).1 hx)
theorem smallW_obj {w : MWorld} (h : smallWorld w = true) : ∀ o ∈ w.objs, smallObj o = true := by
  intro o ho
  simp only [smallWorld, Bool.and_eq_true, List.all_eq_true] at h
  exact h.2 o ho
theorem wops_cut {L : Prog} {l : List LOper} {st : St} {Q : St → Prop} (M : St → Prop) (h : WOps L l st M) (k : ∀ fr en cnt, M ⟨fr, en, cnt⟩ → Q ⟨fr, en, cnt⟩) : WOps L l st Q := by
  have : ∀ (l : List LOper) {st : St} {M Q : St → Prop}, WOps L l st M → (∀ s, M s → Q s) → WOps L l st Q := by
    intro l
    induction l with
    | nil => intro st M Q h k; exact k _ h
    | cons o l ih => intro st M Q h k; exact wstep_mono h fun s r hs => ih hs k
  exact this l h fun s hs => k _ _ _ hs
theorem R18_State_pc (p : BProg) (s : RState) (hp : p.few) (hs : s.few) (hc : p.cons.length ≤ 1000) (hsm : smallWorld s.world = true) : PC L F.R18_State [.agg [.fz (p.nodes.map BNode.enc), .fz (p.funs.map (.int .i64)), .int .i64 p.main, .fz (p.cons.map BCon.enc)], .agg [.fz (s.world.objs.map MObj.enc), .fz (s.world.tasks.map (.int .i64)), .fz (s.world.outs.map MOut.enc), .fz (s.world.ins.map (.int .i64)), .int .i64 s.world.used, .fz (s.ages.map (.int .i64)), .fz (s.marks.map (.int .i64)), .int .i64 s.cycle]] (.bool (stateOk p s)) := by
  refine pc_of LF.R18_State rfl rfl ?_
  simp only [go_sem, qC, qG, qW, C.R18_State, (R18_World_pc p s.world hp hs.1 hc).ret]
  refine guardK_split (fun g1 => ?_) (fun g1 => ?_)
  · have k1 : given p s.world = true := by simpa using g1
    simp only [go_sem, qC, qG, qW, g1]
    refine guardK_split (fun g2 => ?_) (fun g2 => ?_)
    · have k2 : s.ages.length = s.world.objs.length := by simp at g2; omega
      simp only [go_sem, qC, qG, qW, g1, g2]
      refine guardK_split (fun g3 => ?_) (fun g3 => ?_)
      · have k3 : s.marks.length = s.world.objs.length := by simp at g3; omega
        simp only [go_sem, qC, qG, qW, g1, g2, g3, (R18_in_pc' _ _ _).ret]
        refine condK_split (fun g4 => ?_) (fun g4 => ?_)
        · simp only [go_sem, qC, qG, qW]
          have k4 : inR s.cycle 0 3 = false := by simpa using g4
          simp [stateOk, lensOk, k4]
        · have k4 : inR s.cycle 0 3 = true := by simpa using g4
          have kl : lensOk s = true := by simp [lensOk, k2, k3, k4]
          have fin : rowsOk s = false → Val.bool false = Val.bool (stateOk p s) := fun h => by simp [stateOk, h]
          simp only [go_sem, qC, qG, qW]
          refine wp_for (s.world.objs.length) (fun k st => ∃ fr en cnt, st = ⟨fr, en, cnt⟩ ∧ (fr 3 = .ptr ⟨0, 3, 0⟩ 0) ∧ (en ⟨0, 3, 0⟩ = some (.box [.fz (s.world.objs.map MObj.enc), .fz (s.world.tasks.map (.int .i64)), .fz (s.world.outs.map MOut.enc), .fz (s.world.ins.map (.int .i64)), .int .i64 s.world.used, .fz (s.ages.map (.int .i64)), .fz (s.marks.map (.int .i64)), .int .i64 s.cycle] false)) ∧ (fr 5 = .int .i64 s.world.objs.length) ∧ (fr 6 = .int .i64 k) ∧ (∀ i, i < k → (rangeOk s i && rowOk s i) = true)) 0 (Nat.zero_le _) ⟨_, _, _, rfl, (by first | (simp only [go_sem, qW]; (try rfl); done) | rfl | simp), (by first | (simp only [go_sem, qW]; (try rfl); done) | rfl | simp), (by first | (simp only [go_sem, qW]; (try rfl); done) | rfl | simp), (by first | (simp only [go_sem, qW]; (try rfl); done) | rfl | simp), (by first | (simp only [go_sem, qW]; (try rfl); done) | rfl | simp)⟩ ?_
          rintro k st hk ⟨fr, en, cnt, rfl, h3, e3, h5, h6, hI⟩
          simp only [go_sem, qC, qG, qW, h3, e3, h5, h6]
          refine condK_split (fun hq => ?_) (fun hq => ?_)
          · have h' : k < s.world.objs.length := of_decide_eq_true hq
            have ha : k < s.ages.length := by omega
            have hm : k < s.marks.length := by omega
            have bad : (rangeOk s k && rowOk s k) = false → rowsOk s = false := fun h => by
              unfold rowsOk
              rw [List.all_eq_false]
              exact ⟨k, by simpa using h', by simpa using h⟩
            simp only [go_sem, qC, qG, qW, h', ha, hm, h3, e3, h5, h6, (R18_in_pc' _ _ _).ret]
            refine guardK_split (fun g5 => ?_) (fun g5 => ?_)
            · simp only [go_sem, qC, qG, qW, g5, h', ha, hm, h3, e3, h5, h6, (R18_in_pc' _ _ _).ret]
              refine condK_split (fun g6 => ?_) (fun g6 => ?_)
              · simp only [go_sem, qC, qG, qW]
                refine fin (bad ?_)
                have : inR s.marks[k] 0 2 = false := by simpa using g6
                simp [rangeOk, ageAt_get ha, markAt_get hm, this]
              · have kr : rangeOk s k = true := by
                  have h1 : inR s.ages[k] 0 2 = true := by simpa using g5
                  have h2 : inR s.marks[k] 0 2 = true := by simpa using g6
                  simp [rangeOk, ageAt_get ha, markAt_get hm, h1, h2]
                refine wops_cut (fun st => (st.fr 3 = .ptr ⟨0, 3, 0⟩ 0) ∧ (st.en ⟨0, 3, 0⟩ = some (.box [.fz (s.world.objs.map MObj.enc), .fz (s.world.tasks.map (.int .i64)), .fz (s.world.outs.map MOut.enc), .fz (s.world.ins.map (.int .i64)), .int .i64 s.world.used, .fz (s.ages.map (.int .i64)), .fz (s.marks.map (.int .i64)), .int .i64 s.cycle] false)) ∧ (st.fr 5 = .int .i64 s.world.objs.length) ∧ (st.fr 6 = .int .i64 k) ∧ (st.fr 84 = .bool (whiteBad s k))) ?_ ?_
                · simp only [go_sem, qC, qG, qW, h', ha, hm, h3, e3, h5, h6]
                  refine guardK_split (fun g7 => ?_) (fun g7 => ?_)
                  · have hm0 : s.marks[k] = 0 := by simpa using g7
                    simp only [go_sem, qC, qG, qW, g7, h', ha, hm, h3, e3, h5, h6, (R18_task_pc s.world k h').ret]
                    refine guardK_split (fun g8 => ?_) (fun g8 => ?_)
                    · simp only [go_sem, qC, qG, qW, g7, g8, h', ha, hm, h3, e3, h5, h6]
                      refine guardK_split (fun g9 => ?_) (fun g9 => ?_)
                      · have ha2 : s.ages[k] = 2 := by simpa using g9
                        simp only [go_sem, qC, qG, qW, g7, g8, g9, h', ha, hm, h3, e3, h5, h6, (R18_full_pc _).ret]
                        simp [whiteBad, ageAt_get ha, markAt_get hm, hm0, ha2, g8]
                      · simp only [go_sem, qC, qG, qW, g7, g8, g9, h', ha, hm, h3, e3, h5, h6]
                        simp at g9
                        simp [whiteBad, ageAt_get ha, markAt_get hm, hm0, g8, g9]
                    · simp only [go_sem, qC, qG, qW, g7, g8, h', ha, hm, h3, e3, h5, h6]
                      simp [whiteBad, markAt_get hm, hm0, g8]
                  · simp only [go_sem, qC, qG, qW, g7, h', ha, hm, h3, e3, h5, h6]
                    simp at g7
                    simp [whiteBad, markAt_get hm, g7]
                · rintro fr en cnt ⟨(h3 : fr 3 = .ptr ⟨0, 3, 0⟩ 0), (e3 : en ⟨0, 3, 0⟩ = some (.box [.fz (s.world.objs.map MObj.enc), .fz (s.world.tasks.map (.int .i64)), .fz (s.world.outs.map MOut.enc), .fz (s.world.ins.map (.int .i64)), .int .i64 s.world.used, .fz (s.ages.map (.int .i64)), .fz (s.marks.map (.int .i64)), .int .i64 s.cycle] false)), (h5 : fr 5 = .int .i64 s.world.objs.length), (h6 : fr 6 = .int .i64 k), (h84 : fr 84 = .bool (whiteBad s k))⟩
                  simp only [go_sem, qC, qG, qW, h3, e3, h5, h6, h84]
                  refine condK_split (fun hW => ?_) (fun hW => ?_)
                  · simp only [go_sem, qC, qG, qW]
                    exact fin (bad (by simp [rowOk, hW]))
                  have hin := given_in k1 _ (List.getElem_mem h')
                  have hso := smallW_obj hsm _ (List.getElem_mem h')
                  have hlen := refsL_len hso
                  have hfl : Few (refsL s.world.objs[k]).length := by unfold Few; omega
                  simp only [go_sem, qC, qG, qW, h', h3, e3, h5, h6, h84, (R18_Refs_pc _ hso).ret]
                  refine wp_for ((refsL s.world.objs[k]).length) (fun j st => ∃ fr en cnt, st = ⟨fr, en, cnt⟩ ∧ (fr 3 = .ptr ⟨0, 3, 0⟩ 0) ∧ (en ⟨0, 3, 0⟩ = some (.box [.fz (s.world.objs.map MObj.enc), .fz (s.world.tasks.map (.int .i64)), .fz (s.world.outs.map MOut.enc), .fz (s.world.ins.map (.int .i64)), .int .i64 s.world.used, .fz (s.ages.map (.int .i64)), .fz (s.marks.map (.int .i64)), .int .i64 s.cycle] false)) ∧ (fr 5 = .int .i64 s.world.objs.length) ∧ (fr 6 = .int .i64 k) ∧ (fr 7 = .fz ((refsL s.world.objs[k]).map (.int .i64))) ∧ (fr 8 = .int .i64 j) ∧ (∀ x ∈ (refsL s.world.objs[k]).take j, refBad s k x = false)) 0 (Nat.zero_le _) ⟨_, _, _, rfl, (by first | (simp only [go_sem, h3, e3, h5, h6, h84]; (try rfl); done) | rfl | simp), (by first | (simp only [go_sem, h3, e3, h5, h6, h84]; (try rfl); done) | rfl | simp), (by first | (simp only [go_sem, h3, e3, h5, h6, h84]; (try rfl); done) | rfl | simp), (by first | (simp only [go_sem, h3, e3, h5, h6, h84]; (try rfl); done) | rfl | simp), (by first | (simp only [go_sem, h3, e3, h5, h6, h84]; (try rfl); done) | rfl | simp), (by first | (simp only [go_sem, h3, e3, h5, h6, h84]; (try rfl); done) | rfl | simp), (by first | (simp only [go_sem, h3, e3, h5, h6, h84]; (try rfl); done) | rfl | simp)⟩ ?_
                  rintro j st hk ⟨fr, en, cnt, rfl, h3, e3, h5, h6, h7, h8, hJ⟩
                  simp only [go_sem, qC, qG, qW, h3, e3, h5, h6, h7, h8]
                  refine condK_split (fun hq2 => ?_) (fun hq2 => ?_)
                  · have h2' : j < (refsL s.world.objs[k]).length := of_decide_eq_true hq2
                    have hx := hin _ (List.getElem_mem h2')
                    rw [← k3] at hx
                    simp only [go_sem, qC, qG, qW, h2', hm, h3, e3, h5, h6, h7, h8]
                    refine guardK_split (fun g7 => ?_) (fun g7 => ?_)
                    · have hm2 : s.marks[k] = 2 := by simpa using g7
                      simp only [go_sem, qC, qG, qW, g7, h2', hm, h3, e3, h5, h6, h7, h8, ia_int hx]
                      refine condK_split (fun g8 => ?_) (fun g8 => ?_)
                      · simp only [go_sem, qC, qG, qW]
                        refine fin (bad ?_)
                        have hb : refBad s k (refsL s.world.objs[k])[j] = true := by
                          have e2 : markAt s k = 2 := by rw [markAt_get hm, hm2]
                          simp only [refBad, e2, decide_true, Bool.true_and]
                          exact g8
                        have : (refsL (s.world.obj k)).all (fun r => !refBad s k r) = false := by
                          rw [objAt_get h', List.all_eq_false]
                          exact ⟨_, List.getElem_mem h2', by simp [hb]⟩
                        simp [rowOk, this]
                      · have hb : refBad s k (refsL s.world.objs[k])[j] = false := by
                          have e2 : markAt s k = 2 := by rw [markAt_get hm, hm2]
                          simp only [refBad, e2, decide_true, Bool.true_and]
                          exact g8
                        simp only [go_sem, qC, qG, qW, h2', h3, e3, h5, h6, h7, h8]
                        refine ⟨_, _, _, rfl, ?_⟩
                        simp only [go_sem, qW, h3, e3, h5, h6, h7, h8, wrap_succ h2' hfl]
                        intro x hx
                        rw [take_step h2', List.mem_append] at hx
                        rcases hx with hx | hx
                        · exact hJ x hx
                        · simp only [List.mem_singleton] at hx; rw [hx]; exact hb
                    · have hb : refBad s k (refsL s.world.objs[k])[j] = false := by
                        simp only [refBad, markAt_get hm]
                        simp at g7
                        simp [g7]
                      simp only [go_sem, qC, qG, qW, g7, h2', h3, e3, h5, h6, h7, h8]
                      refine ⟨_, _, _, rfl, ?_⟩
                      simp only [go_sem, qW, h3, e3, h5, h6, h7, h8, wrap_succ h2' hfl]
                      intro x hx
                      rw [take_step h2', List.mem_append] at hx
                      rcases hx with hx | hx
                      · exact hJ x hx
                      · simp only [List.mem_singleton] at hx; rw [hx]; exact hb
                  · have : j = (refsL s.world.objs[k]).length := by simp at hq2; omega
                    subst this
                    rw [List.take_length] at hJ
                    simp only [go_sem, qC, qG, qW, h3, e3, h5, h6, h7, h8]
                    refine ⟨_, _, _, rfl, ?_⟩
                    simp only [go_sem, qW, h3, e3, h5, h6, h7, h8, wrap_succ h' hs.1.objs]
                    intro i hi
                    by_cases hik : i < k
                    · exact hI i hik
                    · have : i = k := by omega
                      subst this
                      have : (refsL (s.world.obj i)).all (fun r => !refBad s i r) = true := by
                        rw [objAt_get h', List.all_eq_true]
                        intro x hx; simp [hJ x hx]
                      simp [rowOk, kr, hW, this]
            · simp only [go_sem, qC, qG, qW, g5, h', ha, hm, h3, e3, h5, h6]
              refine fin (bad ?_)
              have : inR s.ages[k] 0 2 = false := by simpa using g5
              simp [rangeOk, ageAt_get ha, this]
          · have : k = s.world.objs.length := by simp at hq; omega
            subst this
            simp only [go_sem, qC, qG, qW, h3, e3, h5, h6]
            have : rowsOk s = true := by
              unfold rowsOk
              rw [List.all_eq_true]
              exact fun i hi => hI i (by simpa using hi)
            simp [stateOk, kl, k1, this]
      · simp only [go_sem, qC, qG, qW, g1, g2, g3]
        simp [stateOk, lensOk]
        simp at g3
        omega
    · simp only [go_sem, qC, qG, qW, g1, g2]
      simp [stateOk, lensOk]
      simp at g2
      omega
  · simp only [go_sem, qC, qG, qW, g1]
    have k1 : given p s.world = false := by simpa using g1
    simp [stateOk, k1]
end Go.Proofs.YthpmfghgoabnhaaGreat
