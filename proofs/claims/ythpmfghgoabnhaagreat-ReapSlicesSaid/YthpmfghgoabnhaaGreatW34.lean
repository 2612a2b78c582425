/- Worlds with some objects alone: the program's. -/
import Derived.Test.YthpmfghgoabnhaaGreatW33
set_option linter.all false
namespace Go.Proofs.YthpmfghgoabnhaaGreat
open Go.Abs Go.Proofs
theorem bin_fm {a b : List Val} : binVal .neq .map (.fm a b) .nilm = some (.bool true) := (rfl)
theorem frz_map {ks vs : List Val} {f : Bool} : Ent.freeze (.map ks vs f) = .map ks vs true := (rfl)
theorem put_agg {cs vs : List Val} {off : Nat} : putCells (.agg cs) off vs = .agg (setCells cs off vs) := (rfl)
attribute [go_sem] bin_fm sn_mp frz_map put_agg one_mp cells_mp
def placesV (keep : List Int) : List Val := (List.range keep.length).map fun i => .int .i64 (i : Nat)
theorem findKey_idx (n : Int) : ∀ ks : List Int, findKey .num (.int .i64 n) (ks.map (.int .i64)) = some (if n ∈ ks then some (ks.idxOf n) else none)
  | [] => rfl
  | x :: ks => by
    have he : eqVal .num (.int .i64 n) (.int .i64 x) = some (n == x) := by simp [eqVal]
    by_cases h : n = x
    · subst h
      simp only [List.map_cons, findKey, he, beq_self_eq_true]
      simp
    · have hb : (n == x) = false := by simpa using h
      have hb' : (x == n) = false := by simpa using fun e => h e.symm
      simp only [List.map_cons, findKey, he, hb, findKey_idx n ks, List.mem_cons, h, false_or, List.idxOf_cons, hb']
      by_cases hm : n ∈ ks
      · simp [hm]
      · simp [hm]
theorem look_to {keep : List Int} {x : Int} (h : x ∈ keep) : lookIn .num (.int .i64 0) false (.int .i64 x) (keep.map (.int .i64)) (placesV keep) = some (.int .i64 (keep.idxOf x : Nat)) := by
  have hl : keep.idxOf x < keep.length := List.idxOf_lt_length_of_mem h
  unfold lookIn
  simp [findKey_idx, h, placesV, List.getD_eq_getElem?_getD, hl]
def midL (keep : List Int) (l : List MVal) (k : Nat) : List MVal := (l.take k).map (movedV keep) ++ l.drop k
theorem mid_zero (keep : List Int) (l : List MVal) : midL keep l 0 = l := by simp [midL]
theorem mid_full (keep : List Int) (l : List MVal) : midL keep l l.length = movedL keep l := by simp [midL, movedL]
theorem mid_len (keep : List Int) (l : List MVal) (k : Nat) : (midL keep l k).length = l.length := by simp [midL]; omega
theorem mid_get {keep : List Int} {l : List MVal} {k : Nat} (h : k < l.length) : ((midL keep l k).map MVal.enc)[k]? = some (MVal.enc l[k]) := by
  have : (midL keep l k)[k]? = some l[k] := by
    rw [midL, List.getElem?_append_right (by simp; omega), List.drop_eq_getElem_cons h]
    have : k - ((l.take k).map (movedV keep)).length = 0 := by simp; omega
    rw [this]; rfl
  rw [List.getElem?_map, this]; rfl
theorem mid_set {keep : List Int} {l : List MVal} {k : Nat} (h : k < l.length) : (midL keep l k).set k (movedV keep l[k]) = midL keep l (k + 1) := by
  have hl : ((l.take k).map (movedV keep)).length = k := by simp; omega
  have h2 : k - ((l.take k).map (movedV keep)).length = 0 := by omega
  rw [midL, midL, List.set_append_right _ _ (by omega), h2, moved_take h]
  have hd := List.drop_eq_getElem_cons h
  rw [hd, List.set_cons_zero, List.append_assoc]; rfl
theorem mid_skip {keep : List Int} {l : List MVal} {k : Nat} (h : k < l.length) (he : movedV keep l[k] = l[k]) : midL keep l (k + 1) = midL keep l k := by
  rw [← mid_set h, he]
  apply List.ext_getElem?
  intro i
  rw [List.getElem?_set]
  split
  · rename_i e
    subst e
    rw [mid_len, if_pos h]
    have := mid_get (keep := keep) h
    rw [List.getElem?_map] at this
    cases hx : (midL keep l k)[k]? with
    | none => rw [hx] at this; cases this
    | some y =>
      rw [hx] at this
      injection this with this
      have hy : y = l[k] := by
        cases y; cases hz : l[k]; rw [hz] at this; simp only [MVal.enc] at this; injection this with this; injection this with a b; injection b with b; injection a with _ a; injection b with _ b; rw [a, b]
      rw [hy]
  · rfl
theorem renumbered_to_c1_pc (l : List MVal) (keep : List Int) (hl : l.length ≤ 16777216) (hin : ∀ x ∈ refVals l, x ∈ keep) : PC L F.reap_renumbered_c1 [.fz (l.map MVal.enc), .fp [.fm (keep.map (.int .i64)) (placesV keep)] 0] (.fz ((movedL keep l).map MVal.enc)) := by
  have hf : Few l.length := by unfold Few; omega
  have hc := Clone_val_pc (l.map MVal.enc) (headOk_vals l) (by simpa using hl)
  refine pc_of LF.reap_renumbered_c1 rfl rfl ?_
  by_cases h0 : l = []
  · subst h0
    have hc0 := Clone_val_pc [] rfl (by simp)
    simp only [go_sem, qC, qG, qW, C.reap_renumbered_c1, List.map_nil, hc0.ret, show cloneV 2 [] = .cl [] from rfl]
    refine wp_for (0) (fun k st => ∃ fr en cnt, st = ⟨fr, en, cnt⟩ ∧ (fr 0 = .cl []) ∧ (fr 8 = .int .i64 0) ∧ (fr 9 = .int .i64 k)) 0 (Nat.zero_le _) ⟨_, _, _, rfl, (by first | (simp only [go_sem, qW]; (try rfl); done) | rfl | simp), (by first | (simp only [go_sem, qW]; (try rfl); done) | rfl | simp), (by first | (simp only [go_sem, qW]; (try rfl); done) | rfl | simp)⟩ ?_
    rintro k st hk ⟨fr, en, cnt, rfl, h0, h8, h9⟩
    simp only [go_sem, qC, qG, qW, h0, h8, h9]
    have : k = 0 := by omega
    subst this
    simp only [go_sem, qC, qG, qW, h0, h8, h9]
    rfl
  · have h0' : l.map MVal.enc ≠ [] := by simpa using h0
    rw [cloneV_ne h0'] at hc
    simp only [go_sem, qC, qG, qW, C.reap_renumbered_c1, hc.ret]
    have hz := mid_zero keep l
    refine wp_for (l.length) (fun k st => ∃ fr en cnt, st = ⟨fr, en, cnt⟩ ∧ (fr 0 = .bl ⟨0, 6, 0⟩ 0 l.length) ∧ (en ⟨0, 6, 0⟩ = some (.blk 2 ((midL keep l k).map MVal.enc) false)) ∧ (fr 1 = .fp [.fm (keep.map (.int .i64)) (placesV keep)] 0) ∧ (fr 8 = .int .i64 l.length) ∧ (fr 9 = .int .i64 k)) 0 (Nat.zero_le _) ⟨_, _, _, rfl, (by first | (simp only [go_sem, h0, h8, h9]; (try rfl); done) | rfl | simp), (by first | (simp only [go_sem, h0, h8, h9]; (try rfl); done) | rfl | simp), (by first | (simp only [go_sem, h0, h8, h9]; (try rfl); done) | rfl | simp), (by first | (simp only [go_sem, h0, h8, h9]; (try rfl); done) | rfl | simp), (by first | (simp only [go_sem, h0, h8, h9]; (try rfl); done) | rfl | simp)⟩ ?_
    rintro k st hk ⟨fr, en, cnt, rfl, h0, e6, h1, h8, h9⟩
    simp only [go_sem, qC, qG, qW, h0, e6, h1, h8, h9]
    refine condK_split (fun hq => ?_) (fun hq => ?_)
    · have h' : k < l.length := of_decide_eq_true hq
      have hx := mid_get (keep := keep) h'
      have hc1 : (0 : Int) ≤ (k : Int) := by omega
      have hc2 : (k : Int) < (l.length : Int) := by omega
      simp only [go_sem, qC, qG, qW, h0, e6, h1, h8, h9, h', hx, hc1, hc2, true_and, and_true, eq_self, if_true, Nat.zero_add, Int.toNat_natCast]
      refine guardK_split (fun hg => ?_) (fun hg => ?_)
      · have hr : isRef l[k] = true := hg
        have hk : l[k].n ∈ keep := hin _ (List.mem_map.2 ⟨l[k], List.mem_filter.2 ⟨List.getElem_mem h', hr⟩, rfl⟩)
        have hmv : movedV keep l[k] = ⟨l[k].kind, (keep.idxOf l[k].n : Int)⟩ := by rw [movedV, if_pos hr]
        have hset : ((midL keep l k).map MVal.enc).set k (.agg [.int .i64 l[k].kind, .int .i64 (keep.idxOf l[k].n : Nat)]) = (midL keep l (k + 1)).map MVal.enc := by
          rw [← mid_set h', List.map_set, hmv]; rfl
        simp only [go_sem, qC, qG, qW, hg, h0, e6, h1, h8, h9, h', hx, hc1, hc2, true_and, and_true, eq_self, if_true, Nat.zero_add, Int.toNat_natCast, look_to hk]
        try simp only [go_sem, qC, qG, qW, hset, h0, e6, h1, h8, h9, hx, put_agg]
        refine ⟨_, _, _, rfl, ?_⟩
        simp only [go_sem, qW, h0, e6, h1, h8, h9, wrap_succ h' hf]
      · have hmv : movedV keep l[k] = l[k] := by
          have : isRef l[k] = false := by simpa [isRef] using hg
          rw [movedV, if_neg (by rw [this]; decide)]
        simp only [go_sem, qC, qG, qW, hg, h0, e6, h1, h8, h9, Bool.not_true]
        refine ⟨_, _, _, rfl, ?_⟩
        rw [mid_skip h' hmv]
        simp only [go_sem, qC, qG, qW, h0, e6, h1, h8, h9, wrap_succ h' hf]
    · have : k = l.length := by simp at hq; omega
      subst this
      have hml : (movedL keep l).length = l.length := by simp [movedL]
      rw [mid_full] at e6
      have htk : ((movedL keep l).map MVal.enc).take l.length = (movedL keep l).map MVal.enc := List.take_of_length_le (by simp [hml])
      simp only [go_sem, qC, qG, qW, h0, e6, h1, h8, h9, hml, htk, Nat.le_refl, if_true, List.length_map]
theorem mem_refs {o : MObj} {keep : List Int} (h : ∀ x ∈ refsOf o, x ∈ keep) : (∀ x ∈ refVals o.vals, x ∈ keep) ∧ ∀ f ∈ o.frames, (∀ x ∈ refVals f.env, x ∈ keep) ∧ ∀ x ∈ refVals f.vals, x ∈ keep := by
  refine ⟨fun x hx => h x (List.mem_append_left _ hx), fun f hf => ⟨fun x hx => h x (List.mem_append_right _ (List.mem_flatMap.2 ⟨f, hf, List.mem_append_left _ hx⟩)), fun x hx => h x (List.mem_append_right _ (List.mem_flatMap.2 ⟨f, hf, List.mem_append_right _ hx⟩))⟩⟩
theorem renumbered_to_pc (o : MObj) (keep : List Int) (hs : smallObj o = true) (hin : ∀ x ∈ refsOf o, x ∈ keep) : PC L F.reap_renumbered [.agg [.int .i64 o.form, .int .i64 o.n, .fz (o.vals.map MVal.enc), .fz (o.frames.map MFrame.enc)], .fm (keep.map (.int .i64)) (placesV keep)] (.agg [.int .i64 (movedO keep o).form, .int .i64 (movedO keep o).n, .fz ((movedO keep o).vals.map MVal.enc), .fz ((movedO keep o).frames.map MFrame.enc)]) := by
  obtain ⟨b1, b2, b3⟩ := small_frames hs
  obtain ⟨i1, i2⟩ := mem_refs hin
  have hf : Few o.frames.length := by unfold Few; omega
  refine pc_of LF.reap_renumbered rfl rfl ?_
  simp only [go_sem, qC, qG, qW, C.reap_renumbered, box_any (v := .fm (keep.map (.int .i64)) (placesV keep)) rfl rfl]
  refine wp_foot ?_
  simp only [go_sem, qC, qG, qW, List.all_cons, List.getElem?_cons_zero, List.getElem?_cons_succ, Bool.true_or, Bool.or_true, Bool.false_eq_true, if_false, (renumbered_to_c1_pc o.vals keep (by omega) i1).ret]
  refine wp_for o.frames.length (fun k st => ∃ fr en cnt v, st = ⟨fr, en, cnt⟩ ∧ fr 4 = .ptr ⟨0, 4, 0⟩ 0 ∧ en ⟨0, 4, 0⟩ = some (.box [.int .i64 0, .int .i64 0, .cl [], .cl []] false) ∧ en ⟨0, 3, 0⟩ = some (.box [.fm (keep.map (.int .i64)) (placesV keep)] true) ∧ fr 5 = .fn F.reap_renumbered_c1 [] [.ptr ⟨0, 3, 0⟩ 0] ∧ fr 6 = .ptr ⟨0, 6, 0⟩ 0 ∧ en ⟨0, 6, 0⟩ = some (.box [.int .i64 o.form, .int .i64 o.n, .fz ((movedL keep o.vals).map MVal.enc), v] false) ∧ fr 20 = .fz (o.frames.map MFrame.enc) ∧ fr 21 = .int .i64 o.frames.length ∧ fr 22 = .int .i64 k ∧ Mine en v 3 (((o.frames.take k).map (movedF keep)).map MFrame.enc) [40]) 0 (Nat.zero_le _) ⟨_, _, _, .cl [], rfl, by simp only [go_sem, qW], by simp only [go_sem, qW], by simp only [go_sem, qW], by simp only [go_sem, qW], by simp only [go_sem, qW], by simp only [go_sem, qW], by simp only [go_sem, qW], by simp only [go_sem, qW], by simp only [go_sem, qW], Mine.nil _ _⟩ ?_
  rintro k st hk ⟨fr, en, cnt, v, rfl, h4, e4, e3, h5, h6, e6, h20, h21, h22, hv⟩
  simp only [go_sem, qC, qG, qW, h4, e4, e3, h5, h6, e6, h20, h21, h22]
  refine condK_split (fun hq => ?_) (fun hq => ?_)
  · have h' : k < o.frames.length := of_decide_eq_true hq
    have hb := b3 _ (List.getElem_mem h')
    have hi := i2 _ (List.getElem_mem h')
    simp only [go_sem, qC, qG, qW, h', h4, e4, e3, h5, h6, e6, h20, h21, h22]
    refine wp_foot ?_
    simp only [go_sem, qC, qG, qW, h', h4, e4, e3, h5, h6, e6, h20, h21, h22, List.all_cons, List.getElem?_cons_zero, List.getElem?_cons_succ, Bool.true_or, Bool.or_true, Bool.false_eq_true, if_false, (renumbered_to_c1_pc _ keep (show o.frames[k].env.length ≤ 16777216 by omega) hi.1).ret, (renumbered_to_c1_pc _ keep (show o.frames[k].vals.length ≤ 16777216 by omega) hi.2).ret]
    refine wf_append (D := [40]) (xs := ((o.frames.take k).map (movedF keep)).map MFrame.enc) (ys := [MFrame.enc (movedF keep o.frames[k])]) (rs := []) ?_ ?_ ?_ rfl ?_ ?_
    · simp only [go_sem, qW]
      exact hv.keep fun t g ht => by simp at ht; subst ht; simp only [go_sem, qW]
    · rw [movedF_enc]; simp only [go_sem, qW]
    · rfl
    · simp; omega
    · intro v' en' cnt' r hown hen hcnt _ _ _
      have k3 : en' ⟨0, 3, 0⟩ = some (.box [.fm (keep.map (.int .i64)) (placesV keep)] true) := by rw [hen 0 3 0 (.inr ⟨by decide, by simp⟩)]; simp only [go_sem, qW, e3]
      have k4 : en' ⟨0, 4, 0⟩ = some (.box [.int .i64 0, .int .i64 0, .cl [], .cl []] false) := by rw [hen 0 4 0 (.inr ⟨by decide, by simp⟩)]; simp only [go_sem, qW, e4]
      have k6 : en' ⟨0, 6, 0⟩ = some (.box [.int .i64 o.form, .int .i64 o.n, .fz ((movedL keep o.vals).map MVal.enc), v] false) := by rw [hen 0 6 0 (.inr ⟨by decide, by simp⟩)]; simp only [go_sem, qW, e6]
      obtain ⟨s1, s2⟩ := hown.shape
      simp only [go_sem, qC, qG, qW, h4, k4, k3, h5, h6, k6, h20, h21, h22, s1, s2, List.all_cons, List.getElem?_cons_zero, List.getElem?_cons_succ, Bool.true_or, Bool.or_true, Bool.false_eq_true, if_false]
      refine ⟨_, _, _, v', rfl, ?_⟩
      simp only [go_sem, qC, qG, qW, h4, k4, k3, h5, h6, k6, h20, h21, h22, wrap_succ h' hf]
      rw [take_step h', List.map_append, List.map_append]
      refine Mine.sub (D := [40, 40]) (Mine.keep (en := en') hown ?_) (by simp)
      intro t g ht; simp at ht; subst ht; simp only [go_sem, qW]
  · have : k = o.frames.length := by simp at hq; omega
    subst this
    rw [List.take_length] at hv
    simp only [go_sem, qC, qG, qW, h4, e4, e3, h5, h6, e6, h20, h21, h22]
    obtain ⟨r, ks, s1, s2, _⟩ := (hv.keep (en' := en.set ⟨0, 4, 0⟩ (some (.box [.int .i64 o.form, .int .i64 o.n, .fz ((movedL keep o.vals).map MVal.enc), v] false))) fun t g ht => by simp at ht; subst ht; simp only [go_sem, qW]).snap 6
    simp only [go_sem, qC, qG, qW, s1, s2]
    rfl
theorem places_step (keep : List Int) {k : Nat} (h : k < keep.length) : placesV (keep.take (k + 1)) = placesV (keep.take k) ++ [.int .i64 (k : Nat)] := by
  have h1 : (keep.take (k + 1)).length = k + 1 := by simp; omega
  have h2 : (keep.take k).length = k := by simp; omega
  rw [placesV, placesV, h1, h2, List.range_succ, List.map_append]; rfl
theorem rising_take {keep : List Int} (hn : keep.Pairwise (· < ·)) {k : Nat} (h : k < keep.length) : keep[k] ∉ keep.take k := by
  intro hm
  obtain ⟨i, hi, he⟩ := List.mem_iff_getElem.1 hm
  have hik : i < k := by simp at hi; omega
  rw [List.getElem_take] at he
  have := List.pairwise_iff_getElem.1 hn i k (by omega) h hik
  omega
theorem reap_alone_pc (w : MWorld) (keep : List Int) (hw : w.few) (hsm : smallWorld w = true) (hk : keep.length ≤ 140) (hn : keep.Pairwise (· < ·)) (hin : ∀ n ∈ keep, inR n 0 ((w.objs.length : Int) - 1) = true)
    (hr : ∀ n ∈ keep, ∀ x ∈ refsOf (w.obj n), x ∈ keep) (ht : ∀ t ∈ w.tasks, t ∈ keep) : PC L F.reap_alone [.agg [.fz (w.objs.map MObj.enc), .fz (w.tasks.map (.int .i64)), .fz (w.outs.map MOut.enc), .fz (w.ins.map (.int .i64)), .int .i64 w.used], .fz (keep.map (.int .i64))] (.agg [.fz ((compactW w keep).objs.map MObj.enc), .fz ((compactW w keep).tasks.map (.int .i64)), .fz ((compactW w keep).outs.map MOut.enc), .fz ((compactW w keep).ins.map (.int .i64)), .int .i64 (compactW w keep).used]) := by
  obtain ⟨b1, b2, b3, b4⟩ := smallW_len hsm
  have hfk : Few keep.length := by unfold Few; omega
  have c2 := Clone_out_pc (w.outs.map MOut.enc) (headOk_outs _) (by simp; omega)
  have c3 := Clone_int_pc (w.ins.map (.int .i64)) (headOk_ints _) (by simp; omega)
  refine pc_of LF.reap_alone rfl rfl ?_
  simp only [go_sem, qC, qG, qW, C.reap_alone]
  refine wp_for (keep.length) (fun k st => ∃ fr en cnt, st = ⟨fr, en, cnt⟩ ∧ (fr 2 = .ptr ⟨0, 2, 0⟩ 0) ∧ (en ⟨0, 2, 0⟩ = some (.box [.fz (w.objs.map MObj.enc), .fz (w.tasks.map (.int .i64)), .fz (w.outs.map MOut.enc), .fz (w.ins.map (.int .i64)), .int .i64 w.used] false)) ∧ (fr 4 = .ptr ⟨0, 4, 0⟩ 0) ∧ (en ⟨0, 4, 0⟩ = some (.box [.cl [], .cl [], .cl [], .cl [], .int .i64 0] false)) ∧ (fr 1 = .fz (keep.map (.int .i64))) ∧ (fr 5 = .mp ⟨0, 13, 0⟩) ∧ (fr 14 = .fz (keep.map (.int .i64))) ∧ (fr 15 = .int .i64 keep.length) ∧ (fr 16 = .int .i64 k) ∧ (en ⟨0, 13, 0⟩ = some (.map ((keep.take k).map (.int .i64)) (placesV (keep.take k)) false))) 0 (Nat.zero_le _) ⟨_, _, _, rfl, (by first | (simp only [go_sem, qW]; (try rfl); done) | rfl | simp), (by first | (simp only [go_sem, qW]; (try rfl); done) | rfl | simp), (by first | (simp only [go_sem, qW]; (try rfl); done) | rfl | simp), (by first | (simp only [go_sem, qW]; (try rfl); done) | rfl | simp), (by first | (simp only [go_sem, qW]; (try rfl); done) | rfl | simp), (by first | (simp only [go_sem, qW]; (try rfl); done) | rfl | simp), (by first | (simp only [go_sem, qW]; (try rfl); done) | rfl | simp), (by first | (simp only [go_sem, qW]; (try rfl); done) | rfl | simp), (by first | (simp only [go_sem, qW]; (try rfl); done) | rfl | simp), (by first | (simp only [go_sem, qW]; (try rfl); done) | rfl | simp)⟩ ?_
  rintro k st hk ⟨fr, en, cnt, rfl, h2, e2, h4, e4, h1, h5, h14, h15, h16, e13⟩
  simp only [go_sem, qC, qG, qW, h2, e2, h4, e4, h1, h5, h14, h15, h16, e13]
  refine condK_split (fun hq => ?_) (fun hq => ?_)
  · have h' : k < keep.length := of_decide_eq_true hq
    have hnt := rising_take hn h'
    have hps := places_step keep h'
    have hmp : (keep.take (k + 1)).map (Val.int .i64) = (keep.take k).map (.int .i64) ++ [.int .i64 keep[k]] := by rw [take_step h', List.map_append]; rfl
    have hfd := findKey_idx keep[k] (keep.take k)
    rw [if_neg hnt] at hfd
    simp only [go_sem, qC, qG, qW, h', h2, e2, h4, e4, h1, h5, h14, h15, h16, e13, hfd, Bool.and_true, Bool.and_self, if_true]
    refine ⟨_, _, _, rfl, ?_⟩
    simp only [go_sem, qC, qG, qW, h2, e2, h4, e4, h1, h5, h14, h15, h16, e13, wrap_succ h' hfk, hps, hmp]
  · have : k = keep.length := by simp at hq; omega
    subst this
    rw [List.take_length] at e13
    simp only [go_sem, qC, qG, qW, h2, e2, h4, e4, h1, h5, h14, h15, h16, e13]
    obtain ⟨g8, hg8⟩ : ∃ g, g = cnt 0 8 := ⟨_, rfl⟩
    obtain ⟨g27, hg27⟩ : ∃ g, g = cnt 0 27 := ⟨_, rfl⟩
    obtain ⟨g30, hg30⟩ : ∃ g, g = cnt 0 30 := ⟨_, rfl⟩
    refine wp_cutE (fun st => st.fr 1 = .fz (keep.map (.int .i64)) ∧ st.fr 2 = .ptr ⟨0, 2, 0⟩ 0 ∧ st.en ⟨0, 2, 0⟩ = some (.box [.fz (w.objs.map MObj.enc), .fz (w.tasks.map (.int .i64)), .fz (w.outs.map MOut.enc), .fz (w.ins.map (.int .i64)), .int .i64 w.used] false) ∧ st.fr 4 = .ptr ⟨0, 4, 0⟩ 0 ∧ st.en ⟨0, 4, 0⟩ = some (.box [.cl [], .cl [], .cl [], .cl [], .int .i64 0] false) ∧ st.fr 5 = .mp ⟨0, 13, 0⟩ ∧ st.en ⟨0, 13, 0⟩ = some (.map (keep.map (.int .i64)) (placesV keep) false) ∧ st.fr 8 = .ptr ⟨0, 8, g8⟩ 0 ∧
      ∃ vO vI, st.en ⟨0, 8, g8⟩ = some (.box [.cl [], .cl [], vO, vI, .int .i64 w.used] false) ∧ Mine st.en vO 2 (w.outs.map MOut.enc) [27] ∧ Mine st.en vI 1 (w.ins.map (.int .i64)) [30]) ?_ ?_
    · refine wp_foot ?_
      rcases clone_cases 2 (w.outs.map MOut.enc) with ⟨o1, o2⟩ | ⟨o1, o2⟩ <;> rw [o2] at c2 <;>
      rcases clone_cases 1 (w.ins.map (Val.int .i64)) with ⟨i1, i2⟩ | ⟨i1, i2⟩ <;> rw [i2] at c3
      all_goals simp only [go_sem, qC, qG, qW, h2, e2, h4, e4, h1, h5, h14, h15, h16, e13, e13, ← hg8, ← hg27, ← hg30, List.all_cons, List.getElem?_cons_zero, List.getElem?_cons_succ, Bool.true_or, Bool.or_true, Bool.false_eq_true, if_false, Option.getD_some, c2.ret, c3.ret, List.length_map, Nat.le_refl, if_true, take_map_len, one_cl, cells_cl, one_bl, cells_bl]
      all_goals refine ⟨_, _, rfl, ?_, ?_⟩
      all_goals first
        | exact .inl ⟨rfl, by assumption⟩
        | exact mine_bl (by simp only [go_sem, qW]; try rfl) (by simp only [List.length_map])
    · clear h1 h2 e2 h4 e4 h5 e13 h14 h15 h16
      rintro fr en cnt ⟨h1, h2, e2, h4, e4, h5, e13, h8, vO, vI, e8, mO, mI⟩
      dsimp only at h1 h2 e2 h4 e4 h5 e13 h8 e8 mO mI
      simp only [go_sem, qC, qG, qW, h1, h2, e2, h4, e4, h5, e13, h8, e8]
      refine wp_for keep.length (fun k st => ∃ fr en cnt v f, st = ⟨fr, en, cnt⟩ ∧ fr 1 = .fz (keep.map (.int .i64)) ∧ fr 2 = .ptr ⟨0, 2, 0⟩ 0 ∧ en ⟨0, 2, 0⟩ = some (.box [.fz (w.objs.map MObj.enc), .fz (w.tasks.map (.int .i64)), .fz (w.outs.map MOut.enc), .fz (w.ins.map (.int .i64)), .int .i64 w.used] false) ∧ fr 4 = .ptr ⟨0, 4, 0⟩ 0 ∧ en ⟨0, 4, 0⟩ = some (.box [.cl [], .cl [], .cl [], .cl [], .int .i64 0] false) ∧ fr 5 = .mp ⟨0, 13, 0⟩ ∧ en ⟨0, 13, 0⟩ = some (.map (keep.map (.int .i64)) (placesV keep) f) ∧ fr 8 = .ptr ⟨0, 8, g8⟩ 0 ∧
        en ⟨0, 8, g8⟩ = some (.box [v, .cl [], vO, vI, .int .i64 w.used] false) ∧ fr 34 = .fz (keep.map (.int .i64)) ∧ fr 35 = .int .i64 keep.length ∧ fr 36 = .int .i64 k ∧ Mine en vO 2 (w.outs.map MOut.enc) [27] ∧ Mine en vI 1 (w.ins.map (.int .i64)) [30] ∧ Mine en v 4 (((keep.take k).map fun n => movedO keep (w.obj n)).map MObj.enc) [50]) 0 (Nat.zero_le _)
        ⟨_, _, _, .cl [], false, rfl, by simp only [go_sem, h1], by simp only [go_sem, h2], by simp only [go_sem, e2], by simp only [go_sem, h4], by simp only [go_sem, e4], by simp only [go_sem, h5], by simp only [go_sem, e13], by simp only [go_sem, h8], by simp only [go_sem, e8], by simp only [go_sem, qW], by simp only [go_sem, qW], by simp only [go_sem, qW], mO, mI, Mine.nil _ _⟩ ?_
      clear h1 h2 e2 h4 e4 h5 e13 h8 e8 mO mI
      rintro k st hk' ⟨fr, en, cnt, v, f, rfl, h1, h2, e2, h4, e4, h5, e13, h8, e8, h34, h35, h36, mO, mI, hv⟩
      simp only [go_sem, qC, qG, qW, h1, h2, e2, h4, e4, h5, e13, h8, e8, h34, h35, h36]
      refine condK_split (fun hq => ?_) (fun hq => ?_)
      · have h' : k < keep.length := of_decide_eq_true hq
        have hm := List.getElem_mem h'
        have hi := hin _ hm
        have hrn := renumbered_to_pc (w.obj keep[k]) keep (smallW_obj hsm _ (obj_mem hi)) (hr _ hm)
        simp only [go_sem, qC, qG, qW, h', h1, h2, e2, h4, e4, h5, e13, h8, e8, h34, h35, h36]
        refine wp_foot ?_
        simp only [go_sem, qC, qG, qW, h', h1, h2, e2, h4, e4, h5, e13, h8, e8, h34, h35, h36, ia_obj hi, hrn.ret, flat_mo, sn_mp, one_mp, cells_mp, List.all_cons, List.getElem?_cons_zero, List.getElem?_cons_succ, Bool.true_or, Bool.or_true, Bool.false_eq_true, if_false]
        refine wf_append (D := [50]) (xs := ((keep.take k).map fun n => movedO keep (w.obj n)).map MObj.enc) (ys := [MObj.enc (movedO keep (w.obj keep[k]))]) (rs := []) ?_ ?_ ?_ rfl ?_ ?_
        · simp only [go_sem, qW]
          exact hv.keep fun t g ht => by simp at ht; subst ht; simp only [go_sem, qW]
        · rw [movedO_enc]; simp only [go_sem, qW]; rfl
        · rfl
        · simp; omega
        · intro v' en' cnt' r hown hen hcnt _ _ _
          have k2 : en' ⟨0, 2, 0⟩ = some (.box [.fz (w.objs.map MObj.enc), .fz (w.tasks.map (.int .i64)), .fz (w.outs.map MOut.enc), .fz (w.ins.map (.int .i64)), .int .i64 w.used] false) := by rw [hen 0 2 0 (.inr ⟨by decide, by simp⟩)]; simp only [go_sem, qW, e2]
          have k4 : en' ⟨0, 4, 0⟩ = some (.box [.cl [], .cl [], .cl [], .cl [], .int .i64 0] false) := by rw [hen 0 4 0 (.inr ⟨by decide, by simp⟩)]; simp only [go_sem, qW, e4]
          have k8 : en' ⟨0, 8, g8⟩ = some (.box [v, .cl [], vO, vI, .int .i64 w.used] false) := by rw [hen 0 8 g8 (.inr ⟨by decide, by simp⟩)]; simp only [go_sem, qW, e8]
          have k13 : en' ⟨0, 13, 0⟩ = some (.map (keep.map (.int .i64)) (placesV keep) true) := by rw [hen 0 13 0 (.inr ⟨by decide, by simp⟩)]; simp only [go_sem, qW, e13]
          obtain ⟨s1, s2⟩ := hown.shape
          simp only [go_sem, qC, qG, qW, h1, h2, k2, h4, k4, h5, k13, h8, k8, h34, h35, h36, s1, s2, List.all_cons, List.getElem?_cons_zero, List.getElem?_cons_succ, Bool.true_or, Bool.or_true, Bool.false_eq_true, if_false]
          refine ⟨_, _, _, v', true, rfl, ?_⟩
          simp only [go_sem, qC, qG, qW, h1, h2, k2, h4, k4, h5, k13, h8, k8, h34, h35, h36, wrap_succ h' hfk]
          refine ⟨?_, ?_, ?_⟩
          · exact mO.keep fun t g ht => by simp at ht; subst ht; simp only [go_sem, qW, hen 0 27 g (.inr ⟨by decide, by simp⟩)]
          · exact mI.keep fun t g ht => by simp at ht; subst ht; simp only [go_sem, qW, hen 0 30 g (.inr ⟨by decide, by simp⟩)]
          · rw [aloneO_step h', List.map_append]
            refine Mine.sub (D := [50, 50]) (Mine.keep (en := en') hown ?_) (by simp)
            intro t g ht; simp at ht; subst ht; simp only [go_sem, qW]
      · have : k = keep.length := by simp at hq; omega
        subst this
        rw [List.take_length] at hv
        simp only [go_sem, qC, qG, qW, h1, h2, e2, h4, e4, h5, e13, h8, e8, h34, h35, h36]
        refine wp_for w.tasks.length (fun j st => ∃ fr en cnt vt, st = ⟨fr, en, cnt⟩ ∧ fr 4 = .ptr ⟨0, 4, 0⟩ 0 ∧ en ⟨0, 4, 0⟩ = some (.box [.cl [], .cl [], .cl [], .cl [], .int .i64 0] false) ∧ fr 5 = .mp ⟨0, 13, 0⟩ ∧ en ⟨0, 13, 0⟩ = some (.map (keep.map (.int .i64)) (placesV keep) f) ∧ fr 8 = .ptr ⟨0, 8, g8⟩ 0 ∧
          en ⟨0, 8, g8⟩ = some (.box [v, vt, vO, vI, .int .i64 w.used] false) ∧ fr 54 = .fz (w.tasks.map (.int .i64)) ∧ fr 55 = .int .i64 w.tasks.length ∧ fr 56 = .int .i64 j ∧ Mine en vO 2 (w.outs.map MOut.enc) [27] ∧ Mine en vI 1 (w.ins.map (.int .i64)) [30] ∧ Mine en v 4 ((keep.map fun n => movedO keep (w.obj n)).map MObj.enc) [50] ∧
          Mine en vt 1 (((w.tasks.take j).map fun t => (keep.idxOf t : Int)).map (.int .i64)) [66]) 0 (Nat.zero_le _)
          ⟨_, _, _, .cl [], rfl, by simp only [go_sem, h4], by simp only [go_sem, e4], by simp only [go_sem, h5], by simp only [go_sem, e13], by simp only [go_sem, h8], by simp only [go_sem, e8], by simp only [go_sem, qW], by simp only [go_sem, qW], by simp only [go_sem, qW], mO, mI, hv, Mine.nil _ _⟩ ?_
        clear h1 h2 e2 h4 e4 h5 e13 h8 e8 h34 h35 h36 mO mI hv
        rintro j st hj' ⟨fr, en, cnt, vt, rfl, h4, e4, h5, e13, h8, e8, h54, h55, h56, mO, mI, hv, mt⟩
        simp only [go_sem, qC, qG, qW, h4, e4, h5, e13, h8, e8, h54, h55, h56]
        refine condK_split (fun hq2 => ?_) (fun hq2 => ?_)
        · have h2' : j < w.tasks.length := of_decide_eq_true hq2
          have hlk := look_to (ht _ (List.getElem_mem h2'))
          simp only [go_sem, qC, qG, qW, h2', h4, e4, h5, e13, h8, e8, h54, h55, h56, hlk]
          refine w_append (D := [66]) (xs := ((w.tasks.take j).map fun t => (keep.idxOf t : Int)).map (.int .i64)) (ys := [.int .i64 (keep.idxOf w.tasks[j] : Nat)]) (rs := []) ?_ ?_ ?_ ?_ ?_
          · simp only [go_sem, qW]
            exact mt
          · simp only [go_sem, qW]
          · rfl
          · simp; omega
          · intro vt' en' cnt' hown hen hcnt
            have k4 : en' ⟨0, 4, 0⟩ = some (.box [.cl [], .cl [], .cl [], .cl [], .int .i64 0] false) := by rw [hen 0 4 0 (.inr ⟨by decide, by simp⟩)]; simp only [go_sem, qW, e4]
            have k8 : en' ⟨0, 8, g8⟩ = some (.box [v, vt, vO, vI, .int .i64 w.used] false) := by rw [hen 0 8 g8 (.inr ⟨by decide, by simp⟩)]; simp only [go_sem, qW, e8]
            have k13 : en' ⟨0, 13, 0⟩ = some (.map (keep.map (.int .i64)) (placesV keep) f) := by rw [hen 0 13 0 (.inr ⟨by decide, by simp⟩)]; simp only [go_sem, qW, e13]
            obtain ⟨s1, s2⟩ := hown.shape
            simp only [go_sem, qC, qG, qW, h4, k4, h5, k13, h8, k8, h54, h55, h56, s1, s2]
            refine ⟨_, _, _, vt', rfl, ?_⟩
            simp only [go_sem, qC, qG, qW, h4, k4, h5, k13, h8, k8, h54, h55, h56, wrap_succ h2' hw.tasks]
            refine ⟨?_, ?_, ?_, ?_⟩
            · exact mO.keep fun t g ht => by simp at ht; subst ht; simp only [go_sem, qW, hen 0 27 g (.inr ⟨by decide, by simp⟩)]
            · exact mI.keep fun t g ht => by simp at ht; subst ht; simp only [go_sem, qW, hen 0 30 g (.inr ⟨by decide, by simp⟩)]
            · exact hv.keep fun t g ht => by simp at ht; subst ht; simp only [go_sem, qW, hen 0 50 g (.inr ⟨by decide, by simp⟩)]
            · rw [take_step h2', List.map_append, List.map_append]
              refine Mine.sub (D := [66, 66]) (Mine.keep (en := en') hown ?_) (by simp)
              intro t g ht; simp at ht; subst ht; simp only [go_sem, qW]
        · have : j = w.tasks.length := by simp at hq2; omega
          subst this
          rw [List.take_length] at mt
          simp only [go_sem, qC, qG, qW, h4, e4, h5, e13, h8, e8, h54, h55, h56]
          have e' : ∀ t g, ¬ t = 4 → (en.set ⟨0, 4, 0⟩ (some (.box [v, vt, vO, vI, .int .i64 w.used] false))) ⟨0, t, g⟩ = en ⟨0, t, g⟩ := fun t g h => en_ne_t h
          obtain ⟨x1, ks1, a1, a2, _⟩ := (hv.keep (en' := en.set ⟨0, 4, 0⟩ (some (.box [v, vt, vO, vI, .int .i64 w.used] false))) fun t g ht => e' t g (by simp at ht; omega)).snap 6
          obtain ⟨x2, ks2, d1, d2, _⟩ := (mt.keep (en' := en.set ⟨0, 4, 0⟩ (some (.box [v, vt, vO, vI, .int .i64 w.used] false))) fun t g ht => e' t g (by simp at ht; omega)).snap 6
          obtain ⟨x3, ks3, f1, f2, _⟩ := (mO.keep (en' := en.set ⟨0, 4, 0⟩ (some (.box [v, vt, vO, vI, .int .i64 w.used] false))) fun t g ht => e' t g (by simp at ht; omega)).snap 6
          obtain ⟨x4, ks4, y1, y2, _⟩ := (mI.keep (en' := en.set ⟨0, 4, 0⟩ (some (.box [v, vt, vO, vI, .int .i64 w.used] false))) fun t g ht => e' t g (by simp at ht; omega)).snap 6
          simp only [go_sem, qC, qG, qW, a1, a2, d1, d2, f1, f2, y1, y2]
          rfl
end Go.Proofs.YthpmfghgoabnhaaGreat
