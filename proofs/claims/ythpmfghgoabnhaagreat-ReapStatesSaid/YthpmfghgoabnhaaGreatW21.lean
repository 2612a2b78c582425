/- How a collector begins. -/
import Derived.Test.YthpmfghgoabnhaaGreatW16
import Derived.Test.YthpmfghgoabnhaaGreatW20
set_option linter.unusedVariables false
set_option linter.unusedSimpArgs false
namespace Go.Proofs.YthpmfghgoabnhaaGreat
open Go.Abs Go.Proofs

/-- Marks up to a number; whites after it. -/
def marksTo (m : Nat → Int) (n k : Nat) : List Int := (List.range n).map fun i => if i < k then m i else 0
theorem marksTo_zero (m : Nat → Int) (n : Nat) : (marksTo m n 0).map (Val.int .i64) = List.replicate n (.int .i64 0) := by
  simp [marksTo, List.map_const']
theorem marksTo_len (m : Nat → Int) (n k : Nat) : (marksTo m n k).length = n := by simp [marksTo]
theorem marksTo_get {m : Nat → Int} {n k : Nat} (h : k < n) : ((marksTo m n k).map (Val.int .i64))[k]? = some (.int .i64 0) := by simp [marksTo, h]
theorem marksTo_set {m : Nat → Int} {n k : Nat} : ((marksTo m n k).map (Val.int .i64)).set k (.int .i64 (m k)) = (marksTo m n (k + 1)).map (.int .i64) := by
  apply List.ext_getElem
  · simp [marksTo]
  · intro i h1 h2
    simp only [List.getElem_set, List.getElem_map, marksTo, List.getElem_range]
    by_cases h : k = i
    · subst h; simp
    · rw [if_neg h]
      by_cases hi : i < k
      · rw [if_pos hi, if_pos (by omega)]
      · rw [if_neg hi, if_neg (by omega)]
theorem marksTo_skip {m : Nat → Int} {n k : Nat} (h0 : m k = 0) : marksTo m n (k + 1) = marksTo m n k := by
  unfold marksTo
  refine List.map_congr_left fun i _ => ?_
  by_cases h : i = k
  · subst h; simp [h0]
  · by_cases hi : i < k
    · rw [if_pos hi, if_pos (by omega)]
    · rw [if_neg hi, if_neg (by omega)]
theorem marksTo_full (m : Nat → Int) (n : Nat) : marksTo m n n = (List.range n).map m := by
  unfold marksTo
  refine List.map_congr_left fun i hi => ?_
  rw [if_pos (by simpa using hi)]
theorem mark0 (w : MWorld) (i : Nat) : markB lt2 w (zeros w.objs.length) 0 i = if isTask (w.obj i) = true then 1 else 0 := by
  have : ageN (zeros w.objs.length) (i : Int) = 0 := by
    simp only [ageN, zeros, List.getD_eq_getElem?_getD, List.getElem?_replicate]
    split <;> rfl
  simp [markB, this]

theorem mine_fz {en : En} {v : Val} {size : Nat} {xs : List Val} {D : List Nat} (h : Mine en v size xs D) (hx : xs ≠ []) (n : Nat) : ∃ ks, snapD (n + 1) en v = some (.fz xs, ks) := by
  rcases h with ⟨_, h⟩ | ⟨t, g, f, rfl, h2, _⟩
  · exact absurd h hx
  · exact ⟨[⟨0, t, g⟩], by simp [snapD, h2]⟩
theorem begin0_win (w : MWorld) (hw : w.few) (hs : smallWorld w = true) {en : En} {cnt : Nat → Nat → Nat} {vA : Val}
    (e20 : en ⟨0, 20, 0⟩ = some (.box [.fz (w.objs.map MObj.enc), .fz (w.tasks.map (.int .i64)), .fz (w.outs.map MOut.enc), .fz (w.ins.map (.int .i64)), .int .i64 w.used, vA, .cl [], .int .i64 0] false)) (mA : Mine en vA 1 ((zeros w.objs.length).map (.int .i64)) [17]) :
    WIn L (.fn F.reap_collector_begin [] []) [.ptr ⟨0, 20, 0⟩ 0] en cnt fun _ en' cnt' => ∃ g13, en' ⟨0, 20, 0⟩ = some (.box [.fz (w.objs.map MObj.enc), .fz (w.tasks.map (.int .i64)), .fz (w.outs.map MOut.enc), .fz (w.ins.map (.int .i64)), .int .i64 w.used, vA, .bl ⟨0, 13, g13⟩ 0 w.objs.length, .int .i64 0] false) ∧ Mine en' vA 1 ((zeros w.objs.length).map (.int .i64)) [17] ∧ en' ⟨0, 13, g13⟩ = some (.blk 1 ((marksB lt2 w (zeros w.objs.length) 0).map (.int .i64)) false) ∧ en' ⟨0, 4, 0⟩ = en ⟨0, 4, 0⟩ := by
  obtain ⟨b1, b2, b3, b4⟩ := smallW_len hs
  have hmk : w.objs.length ≤ 16777216 := by omega
  obtain ⟨e4, he4⟩ : ∃ e, e = en ⟨0, 4, 0⟩ := ⟨_, rfl⟩
  obtain ⟨g1, hg1⟩ : ∃ g, g = cnt 0 1 := ⟨_, rfl⟩
  obtain ⟨g13, hg13⟩ : ∃ g, g = cnt 0 13 := ⟨_, rfl⟩
  rw [← he4]
  refine win_of LF.reap_collector_begin rfl rfl ?_
  simp only [go_sem, qC, qG, qS, qW, Nat.reduceEqDiff, Nat.reduceAdd, Nat.reduceLeDiff, Int.reduceToNat, Int.reduceEq, C.reap_collector_begin, box_any (v := .ptr ⟨0, 20, 0⟩ 0) rfl rfl, ← hg1]
  refine wp_foot ?_
  simp only [go_sem, qC, qG, qS, qW, Nat.reduceEqDiff, Nat.reduceAdd, Nat.reduceLeDiff, Int.reduceToNat, Int.reduceEq, List.all_cons, List.getElem?_cons_zero, List.getElem?_cons_succ, Bool.true_or, Bool.or_true, Option.getD_some, mk_nat hmk, ← hg1, ← hg13, e20, one_bl, cells_bl]
  have hmz := marksTo_zero (markB lt2 w (zeros w.objs.length) 0) w.objs.length
  refine wp_for w.objs.length (fun k st => ∃ fr en cnt, st = ⟨fr, en, cnt⟩ ∧ fr 1 = .ptr ⟨0, 1, g1⟩ 0 ∧ en ⟨0, 1, g1⟩ = some (.box [.ptr ⟨0, 20, 0⟩ 0] false) ∧ en ⟨0, 20, 0⟩ = some (.box [.fz (w.objs.map MObj.enc), .fz (w.tasks.map (.int .i64)), .fz (w.outs.map MOut.enc), .fz (w.ins.map (.int .i64)), .int .i64 w.used, vA, .bl ⟨0, 13, g13⟩ 0 w.objs.length, .int .i64 0] false) ∧ en ⟨0, 13, g13⟩ = some (.blk 1 ((marksTo (markB lt2 w (zeros w.objs.length) 0) w.objs.length k).map (.int .i64)) false) ∧ fr 22 = .fz (w.objs.map MObj.enc) ∧ fr 23 = .int .i64 w.objs.length ∧ fr 24 = .int .i64 k ∧ Mine en vA 1 ((zeros w.objs.length).map (.int .i64)) [17] ∧ en ⟨0, 4, 0⟩ = e4) 0 (Nat.zero_le _) ⟨_, _, _, rfl, by simp only [go_sem, qW, Nat.reduceEqDiff, Nat.reduceAdd, Nat.reduceLeDiff, Int.reduceToNat, Int.reduceEq], by simp only [go_sem, qW, Nat.reduceEqDiff, Nat.reduceAdd, Nat.reduceLeDiff, Int.reduceToNat, Int.reduceEq], by simp only [go_sem, qW, Nat.reduceEqDiff, Nat.reduceAdd, Nat.reduceLeDiff, Int.reduceToNat, Int.reduceEq], by rw [hmz]; simp only [go_sem, qW, Nat.reduceEqDiff, Nat.reduceAdd, Nat.reduceLeDiff, Int.reduceToNat, Int.reduceEq], by simp only [go_sem, qW, Nat.reduceEqDiff, Nat.reduceAdd, Nat.reduceLeDiff, Int.reduceToNat, Int.reduceEq], by simp only [go_sem, qW, Nat.reduceEqDiff, Nat.reduceAdd, Nat.reduceLeDiff, Int.reduceToNat, Int.reduceEq], by simp only [go_sem, qW, Nat.reduceEqDiff, Nat.reduceAdd, Nat.reduceLeDiff, Int.reduceToNat, Int.reduceEq], mA.keep (fun t g ht => by simp at ht; subst ht; simp only [go_sem, qW, Nat.reduceEqDiff, Nat.reduceAdd, Nat.reduceLeDiff, Int.reduceToNat, Int.reduceEq]), by simp only [go_sem, qW, Nat.reduceEqDiff, Nat.reduceAdd, Nat.reduceLeDiff, Int.reduceToNat, Int.reduceEq, he4]⟩ ?_
  clear mA e20
  rintro k st hk ⟨fr, en, cnt, rfl, h1, e1, e20, e13, h22, h23, h24, mA, q4⟩
  simp only [go_sem, qC, qG, qS, qW, Nat.reduceEqDiff, Nat.reduceAdd, Nat.reduceLeDiff, Int.reduceToNat, Int.reduceEq, h1, e1, e20, h22, h23, h24]
  refine condK_split (fun hq => ?_) (fun hq => ?_)
  · have h' : k < w.objs.length := of_decide_eq_true hq
    obtain ⟨g2, hg2⟩ : ∃ g, g = cnt 0 2 := ⟨_, rfl⟩
    obtain ⟨g3, hg3⟩ : ∃ g, g = cnt 0 3 := ⟨_, rfl⟩
    have hm0 := mark0 w k
    rw [objAt_get h'] at hm0
    have hmg := marksTo_get (m := markB lt2 w (zeros w.objs.length) 0) h'
    have hc1 : (0 : Int) ≤ (k : Int) := by omega
    have hc2 : (k : Int) < (w.objs.length : Int) := by omega
    simp only [go_sem, qC, qG, qS, qW, Nat.reduceEqDiff, Nat.reduceAdd, Nat.reduceLeDiff, Int.reduceToNat, Int.reduceEq, h', h1, e1, e20, h22, h23, h24, ← hg2, ← hg3, (reap_isTask_pc _).ret]
    refine condK_split (fun hT => ?_) (fun hT => ?_)
    · have hset : ((marksTo (markB lt2 w (zeros w.objs.length) 0) w.objs.length k).map (Val.int .i64)).set k (.int .i64 1) = (marksTo (markB lt2 w (zeros w.objs.length) 0) w.objs.length (k + 1)).map (.int .i64) := by
        rw [← marksTo_set, hm0, if_pos hT]
      simp only [go_sem, qC, qG, qS, qW, Nat.reduceEqDiff, Nat.reduceAdd, Nat.reduceLeDiff, Int.reduceToNat, Int.reduceEq, h', h1, e1, e20, e13, h22, h23, h24, hc1, hc2, hmg, true_and, and_true, eq_self, if_true, Nat.zero_add, Int.toNat_natCast]
      refine ⟨_, _, _, rfl, ?_⟩
      simp only [go_sem, qC, qG, qS, qW, Nat.reduceEqDiff, Nat.reduceAdd, Nat.reduceLeDiff, Int.reduceToNat, Int.reduceEq, h', h1, e1, e20, e13, h22, h23, h24, hset, wrap_succ h' hw.objs]
      exact ⟨mA.keep (fun t g ht => by simp at ht; subst ht; simp only [go_sem, qW, Nat.reduceEqDiff, Nat.reduceAdd, Nat.reduceLeDiff, Int.reduceToNat, Int.reduceEq]), q4⟩
    · have hskip : marksTo (markB lt2 w (zeros w.objs.length) 0) w.objs.length (k + 1) = marksTo (markB lt2 w (zeros w.objs.length) 0) w.objs.length k := marksTo_skip (by rw [hm0, if_neg (by rw [hT]; decide)])
      obtain ⟨ks, s1⟩ := mine_fz (mA.keep (en' := ((((en.set ⟨0, 2, g2⟩ (some (.box [.int .i64 0] false))).set ⟨0, 3, g3⟩ (some (.box [.int .i64 0, .int .i64 0, .cl [], .cl []] false))).set ⟨0, 2, g2⟩ (some (.box [.int .i64 k] false))).set ⟨0, 3, g3⟩ (some (.box [.int .i64 w.objs[k].form, .int .i64 w.objs[k].n, .fz (w.objs[k].vals.map MVal.enc), .fz (w.objs[k].frames.map MFrame.enc)] false)))) fun t g ht => by simp at ht; subst ht; simp only [go_sem, qW, Nat.reduceEqDiff, Nat.reduceAdd, Nat.reduceLeDiff, Int.reduceToNat, Int.reduceEq]) (by intro h; have hh : ((zeros w.objs.length).map (Val.int .i64)).length = 0 := by { rw [h]; rfl }; rw [List.length_map, zeros, List.length_replicate] at hh; omega) 6
      have htk : ((marksTo (markB lt2 w (zeros w.objs.length) 0) w.objs.length k).map (Val.int .i64)).take w.objs.length = (marksTo (markB lt2 w (zeros w.objs.length) 0) w.objs.length k).map (.int .i64) := List.take_of_length_le (by simp [marksTo_len])
      have hfull : PC L F.reap_collector_full [.fp [.fz (w.objs.map MObj.enc), .fz (w.tasks.map (.int .i64)), .fz (w.outs.map MOut.enc), .fz (w.ins.map (.int .i64)), .int .i64 w.used, .fz ((zeros w.objs.length).map (.int .i64)), .fz ((marksTo (markB lt2 w (zeros w.objs.length) 0) w.objs.length k).map (.int .i64)), .int .i64 0] 0] (.bool (decide ((0 : Int) = 3))) := reap_full_pc ⟨w, zeros w.objs.length, marksTo (markB lt2 w (zeros w.objs.length) 0) w.objs.length k, 0⟩
      have hz : k < (zeros w.objs.length).length := by simpa [zeros] using h'
      have hold : PC L F.reap_collector_old [.fp [.fz (w.objs.map MObj.enc), .fz (w.tasks.map (.int .i64)), .fz (w.outs.map MOut.enc), .fz (w.ins.map (.int .i64)), .int .i64 w.used, .fz ((zeros w.objs.length).map (.int .i64)), .fz ((marksTo (markB lt2 w (zeros w.objs.length) 0) w.objs.length k).map (.int .i64)), .int .i64 0] 0, .int .i64 k] (.bool (decide ((zeros w.objs.length)[k] = 2))) := reap_old_pc ⟨w, zeros w.objs.length, marksTo (markB lt2 w (zeros w.objs.length) 0) w.objs.length k, 0⟩ k hz
      have hz0 : (zeros w.objs.length)[k] = 0 := by simp [zeros]
      rw [hz0] at hold
      simp only [go_sem, qC, qG, qS, qW, Nat.reduceEqDiff, Nat.reduceAdd, Nat.reduceLeDiff, Int.reduceToNat, Int.reduceEq, h', h1, e1, e20, e13, h22, h23, h24, s1, htk, List.length_map, marksTo_len, Nat.le_refl, if_true, hfull.ret, hold.ret]
      refine ⟨_, _, _, rfl, ?_⟩
      simp only [go_sem, qC, qG, qS, qW, Nat.reduceEqDiff, Nat.reduceAdd, Nat.reduceLeDiff, Int.reduceToNat, Int.reduceEq, h', h1, e1, e20, e13, h22, h23, h24, hskip, wrap_succ h' hw.objs]
      exact ⟨mA.keep (fun t g ht => by simp at ht; subst ht; simp only [go_sem, qW, Nat.reduceEqDiff, Nat.reduceAdd, Nat.reduceLeDiff, Int.reduceToNat, Int.reduceEq]), q4⟩
  · have : k = w.objs.length := by simp at hq; omega
    subst this
    rw [marksTo_full] at e13
    simp only [go_sem, qC, qG, qS, qW, Nat.reduceEqDiff, Nat.reduceAdd, Nat.reduceLeDiff, Int.reduceToNat, Int.reduceEq]
    exact ⟨g13, e20, mA, e13, q4⟩

theorem reap_Begin_pc (p : BProg) (w : MWorld) (hp : p.few) (hw : w.few) (hsp : smallProg p = true) (hs : smallWorld w = true) :
    PC L F.reap_Begin [.agg [.fz (p.nodes.map BNode.enc), .fz (p.funs.map (.int .i64)), .int .i64 p.main, .fz (p.cons.map BCon.enc)], .agg [.fz (w.objs.map MObj.enc), .fz (w.tasks.map (.int .i64)), .fz (w.outs.map MOut.enc), .fz (w.ins.map (.int .i64)), .int .i64 w.used]] (if given p w = true then .tup [.agg [.fz (w.objs.map MObj.enc), .fz (w.tasks.map (.int .i64)), .fz (w.outs.map MOut.enc), .fz (w.ins.map (.int .i64)), .int .i64 w.used, .fz ((zeros w.objs.length).map (.int .i64)), .fz ((marksB lt2 w (zeros w.objs.length) 0).map (.int .i64)), .int .i64 0], .int .i64 0]
      else .tup [.agg [.fz [], .fz [], .fz [], .fz [], .int .i64 0, .fz [], .fz [], .int .i64 0], .int .i64 2]) := by
  obtain ⟨b1, b2, b3, b4⟩ := smallW_len hs
  have hmk : w.objs.length ≤ 16777216 := by omega
  refine pc_of LF.reap_Begin rfl rfl ?_
  simp only [go_sem, qC, qG, qS, qW, Nat.reduceEqDiff, Nat.reduceAdd, Nat.reduceLeDiff, Int.reduceToNat, Int.reduceEq, C.reap_Begin, (mean_Check_pc p w hp hw hsp).ret]
  by_cases hg : given p w = true
  · simp only [hg, if_true]
    simp only [go_sem, qC, qG, qS, qW, Nat.reduceEqDiff, Nat.reduceAdd, Nat.reduceLeDiff, Int.reduceToNat, Int.reduceEq]
    refine wp_foot ?_
    simp only [go_sem, qC, qG, qS, qW, Nat.reduceEqDiff, Nat.reduceAdd, Nat.reduceLeDiff, Int.reduceToNat, Int.reduceEq, List.all_cons, List.getElem?_cons_zero, List.getElem?_cons_succ, Bool.true_or, Bool.or_true, Option.getD_some, mk_nat hmk, (reap_copied_pc w hw hs).ret, one_bl, cells_bl, flat_fz, Bool.false_eq_true, if_false]
    have ez : (zeros w.objs.length).map (Val.int .i64) = List.replicate w.objs.length (.int .i64 0) := by simp [zeros]
    refine (begin0_win w hw hs (vA := .bl ⟨0, 17, 0⟩ 0 w.objs.length) (by simp only [go_sem, qW, Nat.reduceEqDiff, Nat.reduceAdd, Nat.reduceLeDiff, Int.reduceToNat, Int.reduceEq]) (by rw [ez]; exact mine_bl (by simp only [go_sem, qW, Nat.reduceEqDiff, Nat.reduceAdd, Nat.reduceLeDiff, Int.reduceToNat, Int.reduceEq]; try rfl) (by simp))).mono ?_
    rintro v en' cnt' ⟨g13, e20, mA, e13, q4⟩
    have q4' : en' ⟨0, 4, 0⟩ = some (.box [.cl [], .cl [], .cl [], .cl [], .int .i64 0, .cl [], .cl [], .int .i64 0] false) := by rw [q4]; simp only [go_sem, qW, Nat.reduceEqDiff, Nat.reduceAdd, Nat.reduceLeDiff, Int.reduceToNat, Int.reduceEq]
    obtain ⟨f, e17⟩ : ∃ f, en' ⟨0, 17, 0⟩ = some (.blk 1 ((zeros w.objs.length).map (.int .i64)) f) := by
      rcases mA with ⟨h, _⟩ | ⟨t, g, f, hv, h2, _⟩
      · cases h
      · injection hv with h3 h4 h5
        injection h3 with h6 h7 h8
        subst h7; subst h8
        exact ⟨f, h2⟩
    have l1 : (zeros w.objs.length).length = w.objs.length := by simp [zeros]
    have l2 : (marksB lt2 w (zeros w.objs.length) 0).length = w.objs.length := by simp [marksB]
    have t1 : ((zeros w.objs.length).map (Val.int .i64)).take w.objs.length = (zeros w.objs.length).map (.int .i64) := List.take_of_length_le (by simp [zeros])
    have t2 : ((marksB lt2 w (zeros w.objs.length) 0).map (Val.int .i64)).take w.objs.length = (marksB lt2 w (zeros w.objs.length) 0).map (.int .i64) := List.take_of_length_le (by simp [marksB])
    simp only [go_sem, qC, qG, qS, qW, Nat.reduceEqDiff, Nat.reduceAdd, Nat.reduceLeDiff, Int.reduceToNat, Int.reduceEq, e20, q4', e17, e13, List.length_map, l1, l2, t1, t2, Nat.le_refl, if_true]
    rw [if_pos hg]
  · simp only [hg]
    simp only [go_sem, qC, qG, qS, qW, Nat.reduceEqDiff, Nat.reduceAdd, Nat.reduceLeDiff, Int.reduceToNat, Int.reduceEq]
    rw [if_neg hg]
end Go.Proofs.YthpmfghgoabnhaaGreat
