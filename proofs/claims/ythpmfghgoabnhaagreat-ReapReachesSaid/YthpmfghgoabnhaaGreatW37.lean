/- Which objects are reached: the document's answer. -/
import Derived.Test.YthpmfghgoabnhaaGreatW36
set_option linter.all false
namespace Go.Proofs.YthpmfghgoabnhaaGreat
open Go.Abs Go.Proofs
inductive ReachP (w : MWorld) : Nat → Prop
  | task {i : Nat} (h : i < w.objs.length) (t : isTask (w.obj i) = true) : ReachP w i
  | ref {i : Nat} {x : Int} (h : ReachP w i) (hx : x ∈ refsOf (w.obj i)) : ReachP w x.toNat
noncomputable def reachB (w : MWorld) (i : Nat) : Bool := @decide (ReachP w i) (Classical.propDecidable _)
theorem reachB_iff {w : MWorld} {i : Nat} : reachB w i = true ↔ ReachP w i := by unfold reachB; exact @decide_eq_true_iff _ (Classical.propDecidable _)
noncomputable def reachL (w : MWorld) : List Bool := (List.range w.objs.length).map (reachB w)
def atB (out : List Bool) (i : Nat) : Bool := out.getD i false
def rowShut (w : MWorld) (out : List Bool) (i : Nat) : Prop := atB out i = true → ∀ x ∈ refsOf (w.obj i), atB out x.toNat = true
structure Going (w : MWorld) (out : List Bool) : Prop where
  len : out.length = w.objs.length
  sound : ∀ i, atB out i = true → ReachP w i
  tasks : ∀ i, i < w.objs.length → isTask (w.obj i) = true → atB out i = true
def InRange (w : MWorld) : Prop := ∀ o ∈ w.objs, ∀ x ∈ refsOf o, inR x 0 ((w.objs.length : Int) - 1) = true
theorem atB_lt {out : List Bool} {i : Nat} (h : atB out i = true) : i < out.length := by
  by_cases hl : i < out.length
  · exact hl
  · rw [atB, List.getD_eq_getElem?_getD, List.getElem?_eq_none (by omega)] at h; cases h
theorem atB_get {out : List Bool} {i : Nat} (h : i < out.length) : atB out i = out[i] := by simp [atB, List.getD_eq_getElem?_getD, h]
theorem atB_set {out : List Bool} {i j : Nat} (hi : i < out.length) : atB (out.set i true) j = (decide (i = j) || atB out j) := by
  simp only [atB, List.getD_eq_getElem?_getD, List.getElem?_set]
  by_cases h : i = j
  · subst h; simp [hi]
  · simp [h]
theorem going_shut {w : MWorld} {out : List Bool} (g : Going w out) (hs : ∀ i, i < w.objs.length → rowShut w out i) : out = reachL w := by
  have key : ∀ i, ReachP w i → atB out i = true := by
    intro i h
    induction h with
    | task h t => exact g.tasks _ h t
    | ref h hx ih => exact hs _ (by rw [← g.len]; exact atB_lt ih) ih _ hx
  apply List.ext_getElem
  · simp [reachL, g.len]
  · intro i h1 h2
    rw [← atB_get h1]
    simp only [reachL, List.getElem_map, List.getElem_range]
    rw [Bool.eq_iff_iff, reachB_iff]
    exact ⟨g.sound i, key i⟩
def falses (out : List Bool) : Nat := out.countP fun b => !b
theorem falses_set {out : List Bool} {i : Nat} (h : i < out.length) (hf : atB out i = false) : falses (out.set i true) < falses out := by
  have hp : 0 < falses out := List.countP_pos_iff.2 ⟨out[i], List.getElem_mem h, by rw [← atB_get h, hf]; rfl⟩
  unfold falses at hp ⊢
  rw [List.countP_set h]
  rw [atB_get h] at hf
  simp only [hf, Bool.not_false, if_true, Bool.not_true, Bool.false_eq_true, if_false]
  omega
theorem going_set {w : MWorld} {out : List Bool} (g : Going w out) {i : Nat} (h : i < out.length) (hr : ReachP w i) : Going w (out.set i true) := by
  refine ⟨by simp [g.len], fun j hj => ?_, fun j hj ht => ?_⟩
  · rw [atB_set h] at hj
    rcases Bool.or_eq_true _ _ ▸ hj with hj | hj
    · rw [← of_decide_eq_true hj]; exact hr
    · exact g.sound j hj
  · rw [atB_set h, g.tasks j hj ht, Bool.or_true]
def Mid2 (w : MWorld) (out0 out : List Bool) (c : Bool) (R : Prop) : Prop := Going w out ∧ (c = false → out = out0 ∧ R) ∧ (c = true → falses out < falses out0)
theorem bools_get {out : List Bool} {j : Nat} (h : j < out.length) : (out.map Val.bool)[j]? = some (.bool (atB out j)) := by rw [atB_get h]; simp [h]
theorem bools_set {out : List Bool} {j : Nat} : (out.map Val.bool).set j (.bool true) = (out.set j true).map .bool := by rw [List.map_set]
theorem R18_Reached_pc (w : MWorld) (hw : w.few) (hsm : smallWorld w = true) (hin : InRange w) : PC L F.R18_Reached [.agg [.fz (w.objs.map MObj.enc), .fz (w.tasks.map (.int .i64)), .fz (w.outs.map MOut.enc), .fz (w.ins.map (.int .i64)), .int .i64 w.used]] (.fz ((reachL w).map .bool)) := by
  obtain ⟨b1, b2, b3, b4⟩ := smallW_len hsm
  have hmk : w.objs.length ≤ 16777216 := by omega
  have hz : (upto (fun (i : Nat) => isTask (w.obj i)) (fun _ => false) w.objs.length 0).map Val.bool = List.replicate w.objs.length (.bool false) := by rw [upto_zero]; simp [List.map_const']
  refine pc_of LF.R18_Reached rfl rfl ?_
  simp only [go_sem, qC, qG, qW, Nat.reduceEqDiff, Nat.reduceAdd, Nat.reduceLeDiff, C.R18_Reached, mk_nat hmk]
  refine wp_for (w.objs.length) (fun k st => ∃ fr en cnt, st = ⟨fr, en, cnt⟩ ∧ (fr 1 = .ptr ⟨0, 1, 0⟩ 0) ∧ (en ⟨0, 1, 0⟩ = some (.box [.fz (w.objs.map MObj.enc), .fz (w.tasks.map (.int .i64)), .fz (w.outs.map MOut.enc), .fz (w.ins.map (.int .i64)), .int .i64 w.used] false)) ∧ (fr 3 = .bl ⟨0, 12, 0⟩ 0 w.objs.length) ∧ (fr 4 = .int .i64 k) ∧ (en ⟨0, 12, 0⟩ = some (.blk 1 ((upto (fun (i : Nat) => isTask (w.obj i)) (fun _ => false) w.objs.length k).map .bool) false))) 0 (Nat.zero_le _) ⟨_, _, _, rfl, (by first | (simp only [go_sem, Nat.reduceEqDiff, Nat.reduceAdd, Nat.reduceLeDiff, hz]; (try rfl); done) | rfl | simp), (by first | (simp only [go_sem, Nat.reduceEqDiff, Nat.reduceAdd, Nat.reduceLeDiff, hz]; (try rfl); done) | rfl | simp), (by first | (simp only [go_sem, Nat.reduceEqDiff, Nat.reduceAdd, Nat.reduceLeDiff, hz]; (try rfl); done) | rfl | simp), (by first | (simp only [go_sem, Nat.reduceEqDiff, Nat.reduceAdd, Nat.reduceLeDiff, hz]; (try rfl); done) | rfl | simp), (by first | (simp only [go_sem, Nat.reduceEqDiff, Nat.reduceAdd, Nat.reduceLeDiff, hz]; (try rfl); done) | rfl | simp)⟩ ?_
  rintro k st hk ⟨fr, en, cnt, rfl, h1, e1, h3, h4, e12⟩
  simp only [go_sem, qC, qG, qW, Nat.reduceEqDiff, Nat.reduceAdd, Nat.reduceLeDiff, h1, e1, h3, h4, e12]
  refine condK_split (fun hq => ?_) (fun hq => ?_)
  · have h' : k < w.objs.length := of_decide_eq_true hq
    have hlu : (upto (fun (i : Nat) => isTask (w.obj i)) (fun _ => false) w.objs.length k).length = w.objs.length := by rw [upto_len]; omega
    have hget : ((upto (fun (i : Nat) => isTask (w.obj i)) (fun _ => false) w.objs.length k).map Val.bool)[k]? = some (.bool false) := by simp [upto_get h']
    have hset : ((upto (fun (i : Nat) => isTask (w.obj i)) (fun _ => false) w.objs.length k).map Val.bool).set k (.bool (isTask (w.obj k))) = (upto (fun (i : Nat) => isTask (w.obj i)) (fun _ => false) w.objs.length (k + 1)).map .bool := by rw [upto_set h', List.map_set]
    have hc1 : (0 : Int) ≤ (k : Int) := by omega
    have hc2 : (k : Int) < (w.objs.length : Int) := by omega
    simp only [go_sem, qC, qG, qW, Nat.reduceEqDiff, Nat.reduceAdd, Nat.reduceLeDiff, h1, e1, h3, h4, e12, h', (R18_task_pc w k h').ret, hlu, hget, hc1, hc2, true_and, and_true, eq_self, if_true, Nat.zero_add, Int.toNat_natCast, List.length_map]
    refine ⟨_, _, _, rfl, ?_⟩
    simp only [go_sem, qC, qG, qW, Nat.reduceEqDiff, Nat.reduceAdd, Nat.reduceLeDiff, h1, e1, h3, h4, e12, hset, wrap_succ h' hw.objs]
  · have : k = w.objs.length := by simp at hq; omega
    subst this
    rw [upto_full (Nat.le_refl _)] at e12
    have g0 : Going w ((List.range w.objs.length).map fun (i : Nat) => isTask (w.obj i)) := by
      refine ⟨by simp, fun i hi => ?_, fun i hi ht => ?_⟩
      · have hl := atB_lt hi
        rw [atB_get hl] at hi
        simp at hi hl
        exact .task hl hi
      · rw [atB_get (by simpa using hi)]; simpa using ht
    simp only [go_sem, qC, qG, qW, Nat.reduceEqDiff, Nat.reduceAdd, Nat.reduceLeDiff, h1, e1, h3, h4, e12]
    refine Go.Abs.wp_loop (fun (x : List Bool × Bool) (st : Go.Abs.St) => ∃ fr en cnt, st = ⟨fr, en, cnt⟩ ∧ fr 1 = .ptr ⟨0, 1, 0⟩ 0 ∧ en ⟨0, 1, 0⟩ = some (.box [.fz (w.objs.map MObj.enc), .fz (w.tasks.map (.int .i64)), .fz (w.outs.map MOut.enc), .fz (w.ins.map (.int .i64)), .int .i64 w.used] false) ∧ fr 3 = .bl ⟨0, 12, 0⟩ 0 w.objs.length ∧ fr 5 = .bool x.2 ∧ en ⟨0, 12, 0⟩ = some (.blk 1 (x.1.map .bool) false) ∧ Going w x.1 ∧ (x.2 = false → ∀ i, i < w.objs.length → rowShut w x.1 i))
      (fun x => 2 * falses x.1 + (if x.2 = true then 1 else 0)) ((List.range w.objs.length).map fun (i : Nat) => isTask (w.obj i), true)
      ⟨_, _, _, rfl, by simp only [go_sem, Nat.reduceEqDiff, Nat.reduceAdd, Nat.reduceLeDiff, h1], by simp only [go_sem, Nat.reduceEqDiff, Nat.reduceAdd, Nat.reduceLeDiff, e1], by simp only [go_sem, Nat.reduceEqDiff, Nat.reduceAdd, Nat.reduceLeDiff, h3], by simp only [go_sem, Nat.reduceEqDiff, Nat.reduceAdd, Nat.reduceLeDiff], by simp only [go_sem, Nat.reduceEqDiff, Nat.reduceAdd, Nat.reduceLeDiff, e12], g0, fun h => by cases h⟩ ?_
    rintro ⟨out0, c0⟩ st ⟨fr, en, cnt, rfl, h1, e1, h3, h5, e12, g, hsh⟩
    dsimp only at h5 e12 g hsh ⊢
    simp only [go_sem, qC, qG, qW, Nat.reduceEqDiff, Nat.reduceAdd, Nat.reduceLeDiff, h1, e1, h3, h5, e12]
    refine condK_split (fun hc => ?_) (fun hc => ?_)
    · subst hc
      simp only [go_sem, qC, qG, qW, Nat.reduceEqDiff, Nat.reduceAdd, Nat.reduceLeDiff, h1, e1, h3, h5, e12]
      refine wp_for w.objs.length (fun k st => ∃ fr en cnt out c, st = ⟨fr, en, cnt⟩ ∧ fr 1 = .ptr ⟨0, 1, 0⟩ 0 ∧ en ⟨0, 1, 0⟩ = some (.box [.fz (w.objs.map MObj.enc), .fz (w.tasks.map (.int .i64)), .fz (w.outs.map MOut.enc), .fz (w.ins.map (.int .i64)), .int .i64 w.used] false) ∧ fr 3 = .bl ⟨0, 12, 0⟩ 0 w.objs.length ∧ fr 5 = .bool c ∧ fr 6 = .int .i64 k ∧ en ⟨0, 12, 0⟩ = some (.blk 1 (out.map .bool) false) ∧ Mid2 w out0 out c (∀ i, i < k → rowShut w out i)) 0 (Nat.zero_le _)
        ⟨_, _, _, out0, false, rfl, by simp only [go_sem, Nat.reduceEqDiff, Nat.reduceAdd, Nat.reduceLeDiff, h1], by simp only [go_sem, Nat.reduceEqDiff, Nat.reduceAdd, Nat.reduceLeDiff, e1], by simp only [go_sem, Nat.reduceEqDiff, Nat.reduceAdd, Nat.reduceLeDiff, h3], by simp only [go_sem, Nat.reduceEqDiff, Nat.reduceAdd, Nat.reduceLeDiff], by simp only [go_sem, Nat.reduceEqDiff, Nat.reduceAdd, Nat.reduceLeDiff], by simp only [go_sem, Nat.reduceEqDiff, Nat.reduceAdd, Nat.reduceLeDiff, e12], g, fun _ => ⟨rfl, fun i hi => by omega⟩, fun h => by cases h⟩ ?_
      clear h1 e1 h3 h5 e12
      rintro k st hk' ⟨fr, en, cnt, out, c, rfl, h1, e1, h3, h5, h6, e12, hm⟩
      simp only [go_sem, qC, qG, qW, Nat.reduceEqDiff, Nat.reduceAdd, Nat.reduceLeDiff, h1, e1, h3, h5, h6, e12]
      refine condK_split (fun hq2 => ?_) (fun hq2 => ?_)
      · have h' : k < w.objs.length := of_decide_eq_true hq2
        have hso := smallW_obj hsm _ (List.getElem_mem h')
        have hlen := refsL_len hso
        have hfl : Few (refsL w.objs[k]).length := by unfold Few; omega
        have hino := hin _ (List.getElem_mem h')
        simp only [go_sem, qC, qG, qW, Nat.reduceEqDiff, Nat.reduceAdd, Nat.reduceLeDiff, h', h1, e1, h3, h5, h6, e12, (R18_Refs_pc _ hso).ret]
        refine wp_for (refsL w.objs[k]).length (fun j st => ∃ fr en cnt out c, st = ⟨fr, en, cnt⟩ ∧ fr 1 = .ptr ⟨0, 1, 0⟩ 0 ∧ en ⟨0, 1, 0⟩ = some (.box [.fz (w.objs.map MObj.enc), .fz (w.tasks.map (.int .i64)), .fz (w.outs.map MOut.enc), .fz (w.ins.map (.int .i64)), .int .i64 w.used] false) ∧ fr 3 = .bl ⟨0, 12, 0⟩ 0 w.objs.length ∧ fr 5 = .bool c ∧ fr 6 = .int .i64 k ∧ fr 7 = .fz ((refsL w.objs[k]).map (.int .i64)) ∧ fr 8 = .int .i64 j ∧ en ⟨0, 12, 0⟩ = some (.blk 1 (out.map .bool) false) ∧
          Mid2 w out0 out c ((∀ i, i < k → rowShut w out i) ∧ ∀ x ∈ (refsL w.objs[k]).take j, atB out x.toNat = true)) 0 (Nat.zero_le _)
          ⟨_, _, _, out, c, rfl, by simp only [go_sem, Nat.reduceEqDiff, Nat.reduceAdd, Nat.reduceLeDiff, h1], by simp only [go_sem, Nat.reduceEqDiff, Nat.reduceAdd, Nat.reduceLeDiff, e1], by simp only [go_sem, Nat.reduceEqDiff, Nat.reduceAdd, Nat.reduceLeDiff, h3], by simp only [go_sem, Nat.reduceEqDiff, Nat.reduceAdd, Nat.reduceLeDiff, h5], by simp only [go_sem, Nat.reduceEqDiff, Nat.reduceAdd, Nat.reduceLeDiff, h6], by simp only [go_sem, Nat.reduceEqDiff, Nat.reduceAdd, Nat.reduceLeDiff], by simp only [go_sem, Nat.reduceEqDiff, Nat.reduceAdd, Nat.reduceLeDiff], by simp only [go_sem, Nat.reduceEqDiff, Nat.reduceAdd, Nat.reduceLeDiff, e12], hm.1, fun h => ⟨(hm.2.1 h).1, (hm.2.1 h).2, by simp⟩, hm.2.2⟩ ?_
        clear h1 e1 h3 h5 h6 e12 hm
        rintro j st hj' ⟨fr, en, cnt, out, c, rfl, h1, e1, h3, h5, h6, h7, h8, e12, hm⟩
        have hol := hm.1.len
        have hko : k < out.length := by omega
        have hgk := bools_get hko
        have hc1 : (0 : Int) ≤ (k : Int) := by omega
        have hc2 : (k : Int) < (w.objs.length : Int) := by omega
        have shut : rowShut w out k → ∀ (c' : Bool), c' = c → Mid2 w out0 out c' (∀ i, i < k + 1 → rowShut w out i) := by
          rintro hr c' rfl
          refine ⟨hm.1, fun h => ⟨(hm.2.1 h).1, fun i hi => ?_⟩, hm.2.2⟩
          by_cases hik : i < k
          · exact (hm.2.1 h).2.1 i hik
          · have : i = k := by omega
            subst this; exact hr
        simp only [go_sem, qC, qG, qW, Nat.reduceEqDiff, Nat.reduceAdd, Nat.reduceLeDiff, h', h1, e1, h3, h5, h6, h7, h8, e12, hol]
        refine guardK_split (fun g1 => ?_) (fun g1 => ?_)
        · have h2' : j < (refsL w.objs[k]).length := of_decide_eq_true g1
          simp only [go_sem, qC, qG, qW, Nat.reduceEqDiff, Nat.reduceAdd, Nat.reduceLeDiff, g1, h', h2', h1, e1, h3, h5, h6, h7, h8, e12, hol, hgk, hc1, hc2, true_and, and_true, eq_self, if_true, Nat.zero_add, Int.toNat_natCast, List.length_map]
          refine condK_split (fun g2 => ?_) (fun g2 => ?_)
          · have hxm := (refs_mem _ _).1 (List.getElem_mem h2')
            have hxi := hino _ hxm
            simp only [inR, decide_eq_true_eq] at hxi
            obtain ⟨m, hm2⟩ := Int.eq_ofNat_of_zero_le hxi.1
            have hmn : m < w.objs.length := by omega
            have hmo : m < out.length := by omega
            have hgm := bools_get hmo
            have hc3 : (0 : Int) ≤ (m : Int) := by omega
            have hc4 : (m : Int) < (w.objs.length : Int) := by omega
            have hreach : ReachP w m := by
              have := ReachP.ref (x := (refsL w.objs[k])[j]) (hm.1.sound k g2) (by rw [objAt_get h']; exact hxm)
              rw [hm2] at this; exact this
            simp only [go_sem, qC, qG, qW, Nat.reduceEqDiff, Nat.reduceAdd, Nat.reduceLeDiff, h', h2', h1, e1, h3, h5, h6, h7, h8, e12, hol, hm2, hgm, hc3, hc4, true_and, and_true, eq_self, if_true, Nat.zero_add, Int.toNat_natCast, List.length_map]
            refine condK_split (fun g3 => ?_) (fun g3 => ?_)
            · have g3' : atB out m = false := by simpa using g3
              have hsm' := bools_set (out := out) (j := m)
              simp only [go_sem, qC, qG, qW, Nat.reduceEqDiff, Nat.reduceAdd, Nat.reduceLeDiff, h', h2', h1, e1, h3, h5, h6, h7, h8, e12, hol, hm2, hgm, hsm', hc3, hc4, true_and, and_true, eq_self, if_true, Nat.zero_add, Int.toNat_natCast, List.length_map]
              refine ⟨_, _, _, out.set m true, true, rfl, ?_⟩
              simp only [go_sem, qC, qG, qW, Nat.reduceEqDiff, Nat.reduceAdd, Nat.reduceLeDiff, h', h2', h1, e1, h3, h5, h6, h7, h8, hsm', wrap_succ h2' hfl]
              refine ⟨going_set hm.1 hmo hreach, (fun h => by cases h), fun _ => ?_⟩
              have hlt := falses_set hmo g3'
              cases c with
              | false => rw [← (hm.2.1 rfl).1]; exact hlt
              | true => exact Nat.lt_trans hlt (hm.2.2 rfl)
            · have g3' : atB out m = true := by simpa using g3
              simp only [go_sem, qC, qG, qW, Nat.reduceEqDiff, Nat.reduceAdd, Nat.reduceLeDiff, h', h2', h1, e1, h3, h5, h6, h7, h8, e12, hol]
              refine ⟨_, _, _, out, c, rfl, ?_⟩
              simp only [go_sem, qC, qG, qW, Nat.reduceEqDiff, Nat.reduceAdd, Nat.reduceLeDiff, h', h2', h1, e1, h3, h5, h6, h7, h8, e12, wrap_succ h2' hfl]
              refine ⟨hm.1, fun h => ⟨(hm.2.1 h).1, (hm.2.1 h).2.1, fun x hx => ?_⟩, hm.2.2⟩
              rw [take_step h2', List.mem_append] at hx
              rcases hx with hx | hx
              · exact (hm.2.1 h).2.2 x hx
              · simp only [List.mem_singleton] at hx; rw [hx, hm2]; exact g3'
          · simp only [go_sem, qC, qG, qW, Nat.reduceEqDiff, Nat.reduceAdd, Nat.reduceLeDiff, h', h1, e1, h3, h5, h6, h7, h8, e12, hol]
            refine ⟨_, _, _, out, c, rfl, ?_⟩
            simp only [go_sem, qC, qG, qW, Nat.reduceEqDiff, Nat.reduceAdd, Nat.reduceLeDiff, h', h1, e1, h3, h5, h6, h7, h8, e12, wrap_succ h' hw.objs]
            exact shut (fun h => by rw [g2] at h; cases h) c rfl
        · have hjl : j = (refsL w.objs[k]).length := by simp at g1; omega
          simp only [go_sem, qC, qG, qW, Nat.reduceEqDiff, Nat.reduceAdd, Nat.reduceLeDiff, g1, h', h1, e1, h3, h5, h6, h7, h8, e12, hol, Bool.not_true]
          refine ⟨_, _, _, out, c, rfl, ?_⟩
          simp only [go_sem, qC, qG, qW, Nat.reduceEqDiff, Nat.reduceAdd, Nat.reduceLeDiff, h', h1, e1, h3, h5, h6, h7, h8, e12, wrap_succ h' hw.objs]
          refine ⟨hm.1, fun h => ⟨(hm.2.1 h).1, fun i hi => ?_⟩, hm.2.2⟩
          by_cases hik : i < k
          · exact (hm.2.1 h).2.1 i hik
          · have : i = k := by omega
            subst this
            intro _ x hx
            rw [objAt_get h'] at hx
            have hmm := (refs_mem _ _).2 hx
            have := (hm.2.1 h).2.2 x
            rw [hjl, List.take_length] at this
            exact this hmm
      · have : k = w.objs.length := by simp at hq2; omega
        subst this
        simp only [go_sem, qC, qG, qW, Nat.reduceEqDiff, Nat.reduceAdd, Nat.reduceLeDiff, h1, e1, h3, h5, h6, e12]
        refine ⟨(out, c), ⟨_, _, _, rfl, by simp only [go_sem, Nat.reduceEqDiff, Nat.reduceAdd, Nat.reduceLeDiff, h1], by simp only [go_sem, Nat.reduceEqDiff, Nat.reduceAdd, Nat.reduceLeDiff, e1], by simp only [go_sem, Nat.reduceEqDiff, Nat.reduceAdd, Nat.reduceLeDiff, h3], by simp only [go_sem, Nat.reduceEqDiff, Nat.reduceAdd, Nat.reduceLeDiff, h5], by simp only [go_sem, Nat.reduceEqDiff, Nat.reduceAdd, Nat.reduceLeDiff, e12], hm.1, fun h => (hm.2.1 h).2⟩, ?_⟩
        dsimp only
        cases c with
        | false => rw [(hm.2.1 rfl).1]; simp
        | true => have := hm.2.2 rfl; simp; omega
    · subst hc
      have hout := going_shut g (hsh rfl)
      simp only [go_sem, qC, qG, qW, Nat.reduceEqDiff, Nat.reduceAdd, Nat.reduceLeDiff, h1, e1, h3, h5, e12, g.len, true_and, and_true, eq_self, if_true, Nat.zero_add, Int.toNat_natCast, List.length_map]
      have htk : (out0.map Val.bool).take w.objs.length = out0.map .bool := List.take_of_length_le (by simp [g.len])
      simp only [go_sem, qC, qG, qW, Nat.reduceEqDiff, Nat.reduceAdd, Nat.reduceLeDiff, Nat.le_refl, if_true, htk]
      rw [hout]
end Go.Proofs.YthpmfghgoabnhaaGreat
