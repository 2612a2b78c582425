/- Slices: the document's answer. -/
import Derived.Test.YthpmfghgoabnhaaGreatW43
set_option linter.all false
namespace Go.Proofs.YthpmfghgoabnhaaGreat
open Go.Abs Go.Proofs
def goneTo (m : List Int) (k : Nat) : List Int := ((List.range k).filter fun i => decide (markN m i = 0)).map fun (i : Nat) => (i : Int)
def keepTo (m : List Int) (k : Nat) : List Int := ((List.range k).filter fun i => !decide (markN m i = 0)).map fun (i : Nat) => (i : Int)
def agesTo (s : RState) (m : List Int) (k : Nat) : List Int := ((List.range k).filter fun i => !decide (markN m i = 0)).map fun (i : Nat) => min (ageAt s i + 1) 2
theorem gone_t {m : List Int} {k : Nat} (h : markN m k = 0) : goneTo m (k + 1) = goneTo m k ++ [(k : Int)] := by
  rw [goneTo, List.range_succ, List.filter_append, List.map_append]; simp [h, goneTo]
theorem gone_f {m : List Int} {k : Nat} (h : ¬ markN m k = 0) : goneTo m (k + 1) = goneTo m k := by
  rw [goneTo, List.range_succ, List.filter_append, List.map_append]; simp [h, goneTo]
theorem keep_t {m : List Int} {k : Nat} (h : ¬ markN m k = 0) : keepTo m (k + 1) = keepTo m k ++ [(k : Int)] := by
  rw [keepTo, List.range_succ, List.filter_append, List.map_append]; simp [h, keepTo]
theorem keep_f {m : List Int} {k : Nat} (h : markN m k = 0) : keepTo m (k + 1) = keepTo m k := by
  rw [keepTo, List.range_succ, List.filter_append, List.map_append]; simp [h, keepTo]
theorem ages_t {s : RState} {m : List Int} {k : Nat} (h : ¬ markN m k = 0) : agesTo s m (k + 1) = agesTo s m k ++ [min (ageAt s k + 1) 2] := by
  rw [agesTo, List.range_succ, List.filter_append, List.map_append]; simp [h, agesTo]
theorem ages_f {s : RState} {m : List Int} {k : Nat} (h : markN m k = 0) : agesTo s m (k + 1) = agesTo s m k := by
  rw [agesTo, List.range_succ, List.filter_append, List.map_append]; simp [h, agesTo]
theorem gone_len (m : List Int) (k : Nat) : (goneTo m k).length ≤ k := by
  have := List.length_filter_le (fun i => decide (markN m i = 0)) (List.range k)
  simpa [goneTo] using this
theorem keepTo_len (m : List Int) (k : Nat) : (keepTo m k).length ≤ k := by
  have := List.length_filter_le (fun i => !decide (markN m i = 0)) (List.range k)
  simpa [keepTo] using this
theorem agesTo_len (s : RState) (m : List Int) (k : Nat) : (agesTo s m k).length = (keepTo m k).length := by simp [agesTo, keepTo]
theorem keep_mem {m : List Int} {k : Nat} {x : Int} : x ∈ keepTo m k ↔ ∃ i : Nat, x = i ∧ i < k ∧ ¬ markN m i = 0 := by
  simp only [keepTo, List.mem_map, List.mem_filter, List.mem_range, Bool.not_eq_true', decide_eq_false_iff_not]
  exact ⟨fun ⟨i, ⟨h1, h2⟩, h3⟩ => ⟨i, h3.symm, h1, h2⟩, fun ⟨i, h3, h1, h2⟩ => ⟨i, ⟨h1, h2⟩, h3.symm⟩⟩
theorem keep_rise (m : List Int) (k : Nat) : (keepTo m k).Pairwise (· < ·) := by
  unfold keepTo
  rw [List.pairwise_map]
  exact (List.Pairwise.filter _ List.pairwise_lt_range).imp fun h => by omega
theorem keep_inR {w : MWorld} {m : List Int} : ∀ x ∈ keepTo m w.objs.length, inR x 0 ((w.objs.length : Int) - 1) = true := by
  intro x hx
  obtain ⟨i, rfl, hi, _⟩ := keep_mem.1 hx
  simp only [inR, decide_eq_true_eq]; omega
theorem refVals_moved (keep : List Int) (l : List MVal) : refVals (movedL keep l) = (refVals l).map fun x => (keep.idxOf x : Int) := by
  induction l with
  | nil => rfl
  | cons v l ih =>
    have hk : isRef (movedV keep v) = isRef v := rfl
    by_cases h : isRef v = true
    · have e : movedL keep (v :: l) = movedV keep v :: movedL keep l := rfl
      rw [e, refVals_t (hk.trans h), refVals_t h, ih]
      simp [movedV, h]
    · have h' : isRef v = false := by simpa using h
      have e : movedL keep (v :: l) = movedV keep v :: movedL keep l := rfl
      rw [e, refVals_f (hk.trans h'), refVals_f h', ih]
theorem refs_moved (keep : List Int) (o : MObj) : refsOf (movedO keep o) = (refsOf o).map fun x => (keep.idxOf x : Int) := by
  have hf : ∀ l : List MFrame, (l.map (movedF keep)).flatMap frameRefs = (l.flatMap frameRefs).map fun x => (keep.idxOf x : Int) := by
    intro l
    induction l with
    | nil => rfl
    | cons f l ih =>
      simp only [List.map_cons, List.flatMap_cons, List.map_append, ih]
      congr 1
      simp only [frameRefs, movedF, refVals_moved, List.map_append]
  simp only [refsOf, movedO, refVals_moved, hf, List.map_append]
structure Shut (w : MWorld) (keep : List Int) : Prop where
  rise : keep.Pairwise (· < ·)
  rng : ∀ x ∈ keep, inR x 0 ((w.objs.length : Int) - 1) = true
  refs : ∀ n ∈ keep, ∀ x ∈ refsOf (w.obj n), x ∈ keep
  len : keep.length ≤ w.objs.length
theorem compact_in {w : MWorld} {keep : List Int} (h : Shut w keep) : InRange (compactW w keep) := by
  intro o ho x hx
  obtain ⟨n, hn, rfl⟩ := List.mem_map.1 ho
  rw [refs_moved] at hx
  obtain ⟨y, hy, rfl⟩ := List.mem_map.1 hx
  have := List.idxOf_lt_length_of_mem (h.refs n hn y hy)
  simp only [inR, decide_eq_true_eq, compactW, List.length_map]; omega
theorem small_moved {keep : List Int} {o : MObj} (h : smallObj o = true) : smallObj (movedO keep o) = true := by
  simp only [smallObj, Bool.and_eq_true, decide_eq_true_eq, List.all_eq_true] at h ⊢
  refine ⟨⟨by simpa [movedO, movedL] using h.1.1, by simpa [movedO] using h.1.2⟩, fun f hf => ?_⟩
  obtain ⟨g, hg, rfl⟩ := List.mem_map.1 hf
  have := h.2 g hg
  simpa [movedF, movedL] using this
theorem small_compact {w : MWorld} {keep : List Int} (hs : smallWorld w = true) (h : Shut w keep) : smallWorld (compactW w keep) = true := by
  have hl := h.len
  have hso := smallW_obj hs
  simp only [smallWorld, Bool.and_eq_true, decide_eq_true_eq, List.all_eq_true] at hs ⊢
  refine ⟨⟨⟨⟨by simp only [compactW, List.length_map]; omega, by simpa [compactW] using hs.1.1.1.2⟩, hs.1.1.2⟩, hs.1.2⟩, fun o ho => ?_⟩
  obtain ⟨n, hn, rfl⟩ := List.mem_map.1 ho
  exact small_moved (hso _ (obj_mem (h.rng n hn)))
theorem shut_marks {w : MWorld} {m : List Int} (h : MarksOk w m) (hin : InRange w) (hg : ¬ firstG m < m.length) : Shut w (keepTo m w.objs.length) ∧ ∀ t, (∃ i : Nat, t = (i : Int) ∧ i < w.objs.length ∧ isTask (w.obj i) = true) → t ∈ keepTo m w.objs.length := by
  obtain ⟨a, b, _⟩ := firstG_spec m
  refine ⟨⟨keep_rise m _, keep_inR, fun n hn x hx => ?_, keepTo_len m _⟩, fun t ⟨i, h1, h2, h3⟩ => keep_mem.2 ⟨i, h1, h2, h.tasks i h2 h3⟩⟩
  obtain ⟨i, rfl, hi, hm⟩ := keep_mem.1 hn
  have h1 : ¬ markN m i = 1 := b i (by have := h.len; omega)
  have h2 : markN m i = 2 := by
    rcases h.range i (by rw [h.len]; exact hi) with h | h | h
    · exact absurd h hm
    · exact absurd h h1
    · exact h
  have hgm : w.obj i ∈ w.objs := by rw [objAt_get hi]; exact List.getElem_mem _
  have hxi := hin _ hgm x hx
  simp only [inR, decide_eq_true_eq] at hxi
  exact keep_mem.2 ⟨x.toNat, by omega, by omega, h.black i hi h2 x hx⟩
def nextS (s : RState) (m : List Int) : RState := ⟨compactW s.world (keepTo m s.world.objs.length), agesTo s m s.world.objs.length, marksB lt2 (compactW s.world (keepTo m s.world.objs.length)) (agesTo s m s.world.objs.length) ((s.cycle + 1).tmod 4), (s.cycle + 1).tmod 4⟩
def sliceS (s : RState) (most : Nat) : RState := if firstG (runS s.world most s.marks) < (runS s.world most s.marks).length then ⟨s.world, s.ages, runS s.world most s.marks, s.cycle⟩ else nextS s (runS s.world most s.marks)
def sliceG (s : RState) (most : Nat) : List Int := if firstG (runS s.world most s.marks) < (runS s.world most s.marks).length then [] else goneTo (runS s.world most s.marks) s.world.objs.length
def sliceE (s : RState) (most : Nat) : Bool := !decide (firstG (runS s.world most s.marks) < (runS s.world most s.marks).length)
theorem w_append_own {L : Prog} {fr : Nat → Val} {en : En} {cnt : Nat → Nat → Nat} {Q : St → Prop} {l : List LOper} {d size : Nat} {x y : Opd} {xs : List Val} (hx : St.get fr x = .cl []) (hy : St.get fr y = .fz xs) (h1 : headOk size xs = true) (hl : xs.length ≤ 16777216)
    (k : ∀ v en' cnt', MineO en' v size xs d → (∀ n t g, ¬ t = d → en' ⟨n, t, g⟩ = en ⟨n, t, g⟩) → (∀ n t, ¬ t = d → cnt' n t = cnt n t) → WOps L l ⟨setFr fr d v, en', cnt'⟩ Q) : WOps L (⟨some d, .append size x y, none⟩ :: l) ⟨fr, en, cnt⟩ Q := by
  rw [w_gen (by rfl)]
  simp only [Option.getD_some, evalW, eval, hx, hy, elems_fz, h1, if_true]
  cases xs with
  | nil =>
    simp only [List.isEmpty_nil, if_true, wput_some, applyAll_nil]
    exact k _ _ _ (.inl ⟨rfl, rfl⟩) (fun _ _ _ _ => rfl) (fun _ _ _ => rfl)
  | cons z zs =>
    simp only [List.isEmpty_cons, Bool.false_eq_true, if_false]
    rw [if_pos ⟨by simpa using hl, rfl⟩]
    simp only [wput_bump, applyAll_cons, applyAll_nil, apply_ent]
    exact k _ _ _ (.inr ⟨_, by simp, en_eq⟩) (fun _ _ _ h => en_ne_t h) (fun n t h => by simp [setCnt, h])
theorem ints_get {m : List Int} {i : Nat} (h : i < m.length) : (m.map (Val.int .i64))[i]? = some (.int .i64 (markN m i)) := by simp [markN_get h, h]
theorem ints_set {m : List Int} {i : Nat} {x : Int} : (m.map (Val.int .i64)).set i (.int .i64 x) = (m.set i x).map (.int .i64) := by rw [List.map_set]
theorem grey_pos {m : List Int} : decide (0 ≤ greyI m) = decide (firstG m < m.length) := by
  unfold greyI; split
  · rename_i h; simp [h]
  · rename_i h; simp [h]
theorem mine_snapK {en : En} {v : Val} {size t : Nat} {xs : List Val} (h : Mine en v size xs [t]) (n : Nat) : ∃ r ks, r.wk1 = .fz xs ∧ ∀ en' : En, (∀ g, en' ⟨0, t, g⟩ = en ⟨0, t, g⟩) → snapD (n + 1) en' v = some (r, ks) := by
  rcases h with ⟨rfl, rfl⟩ | ⟨t', g, f, rfl, h2, ht⟩
  · exact ⟨.cl [], [], rfl, fun _ _ => rfl⟩
  · have : t' = t := by simpa using ht
    subst this
    exact ⟨.fz xs, [⟨0, t', g⟩], rfl, fun en' he => by simp [snapD, he, h2]⟩
theorem MineO.shape {en : En} {v : Val} {size : Nat} {xs : List Val} {t : Nat} (h : MineO en v size xs t) : v.one = true ∧ v.cells = [v] := h.mine.shape
theorem MineO.keep {en en' : En} {v : Val} {size : Nat} {xs : List Val} {t : Nat} (h : MineO en v size xs t) (k : ∀ g, en' ⟨0, t, g⟩ = en ⟨0, t, g⟩) : MineO en' v size xs t := by
  rcases h with h | ⟨g, h1, h2⟩
  · exact .inl h
  · exact .inr ⟨g, h1, by rw [k]; exact h2⟩
theorem R18_Slice_pc (s : RState) (most : Nat) (hs : s.few) (hsm : smallWorld s.world = true) (hin : InRange s.world) (hok : MarksOk s.world s.marks) (hA : s.ages.length = s.world.objs.length) (hmost : most ≤ 200) (hcy : inR s.cycle 0 3 = true) (hAr : ∀ i : Nat, i < s.world.objs.length → inR (ageAt s i) 0 2 = true) :
    PC L F.R18_Slice [.agg [.fz (s.world.objs.map MObj.enc), .fz (s.world.tasks.map (.int .i64)), .fz (s.world.outs.map MOut.enc), .fz (s.world.ins.map (.int .i64)), .int .i64 s.world.used, .fz (s.ages.map (.int .i64)), .fz (s.marks.map (.int .i64)), .int .i64 s.cycle], .int .i64 most] (.tup [.agg [.fz ((sliceS s most).world.objs.map MObj.enc), .fz ((sliceS s most).world.tasks.map (.int .i64)), .fz ((sliceS s most).world.outs.map MOut.enc), .fz ((sliceS s most).world.ins.map (.int .i64)), .int .i64 (sliceS s most).world.used, .fz ((sliceS s most).ages.map (.int .i64)), .fz ((sliceS s most).marks.map (.int .i64)), .int .i64 (sliceS s most).cycle], .fz ((sliceG s most).map (.int .i64)), .bool (sliceE s most)]) := by
  obtain ⟨b1, b2, b3, b4⟩ := smallW_len hsm
  have hml := hok.len
  have hfm : Few most := by unfold Few; omega
  refine pc_of LF.R18_Slice rfl rfl ?_
  have hho := headOk_ints s.marks
  simp only [go_sem, qC, qG, qW, C.R18_Slice]
  refine w_append_own (xs := s.marks.map (.int .i64)) (by simp only [go_sem, qW]) (by simp only [go_sem, qW]) hho (by simp; omega) ?_
  intro v0 en0 cnt0 mv0 hen0 hcnt0
  have e2 : en0 ⟨0, 2, 0⟩ = some (.box [.fz (s.world.objs.map MObj.enc), .fz (s.world.tasks.map (.int .i64)), .fz (s.world.outs.map MOut.enc), .fz (s.world.ins.map (.int .i64)), .int .i64 s.world.used, .fz (s.ages.map (.int .i64)), .fz (s.marks.map (.int .i64)), .int .i64 s.cycle] false) := by rw [hen0 0 2 0 (by decide)]; simp only [go_sem, qW]
  have e4 : en0 ⟨0, 4, 0⟩ = some (.box [.cl [], .cl [], .cl [], .cl [], .int .i64 0, .cl [], .cl [], .int .i64 0] false) := by rw [hen0 0 4 0 (by decide)]; simp only [go_sem, qW]
  simp only [go_sem, qC, qG, qW]
  refine Go.Abs.wp_mono (L := L) _ (Q := fun e st => e = .exit 0 ∧ ∃ fr en cnt v, st = ⟨fr, en, cnt⟩ ∧ fr 2 = .ptr ⟨0, 2, 0⟩ 0 ∧ en ⟨0, 2, 0⟩ = some (.box [.fz (s.world.objs.map MObj.enc), .fz (s.world.tasks.map (.int .i64)), .fz (s.world.outs.map MOut.enc), .fz (s.world.ins.map (.int .i64)), .int .i64 s.world.used, .fz (s.ages.map (.int .i64)), .fz (s.marks.map (.int .i64)), .int .i64 s.cycle] false) ∧ fr 4 = .ptr ⟨0, 4, 0⟩ 0 ∧ en ⟨0, 4, 0⟩ = some (.box [.cl [], .cl [], .cl [], .cl [], .int .i64 0, .cl [], .cl [], .int .i64 0] false) ∧ fr 7 = v ∧ MineO en v 1 ((runS s.world most s.marks).map (.int .i64)) 18) ?_ ?_
  · refine wp_for most (fun k st => ∃ fr en cnt v m, st = ⟨fr, en, cnt⟩ ∧ fr 1 = .int .i64 most ∧ fr 2 = .ptr ⟨0, 2, 0⟩ 0 ∧ en ⟨0, 2, 0⟩ = some (.box [.fz (s.world.objs.map MObj.enc), .fz (s.world.tasks.map (.int .i64)), .fz (s.world.outs.map MOut.enc), .fz (s.world.ins.map (.int .i64)), .int .i64 s.world.used, .fz (s.ages.map (.int .i64)), .fz (s.marks.map (.int .i64)), .int .i64 s.cycle] false) ∧ fr 4 = .ptr ⟨0, 4, 0⟩ 0 ∧ en ⟨0, 4, 0⟩ = some (.box [.cl [], .cl [], .cl [], .cl [], .int .i64 0, .cl [], .cl [], .int .i64 0] false) ∧ fr 7 = v ∧ fr 8 = .int .i64 k ∧ MineO en v 1 (m.map (.int .i64)) 18 ∧ MarksOk s.world m ∧ runS s.world (most - k) m = runS s.world most s.marks) 0 (Nat.zero_le _)
      ⟨_, _, _, v0, s.marks, rfl, by simp only [go_sem, qW], by simp only [go_sem, qW], by simp only [go_sem, e2], by simp only [go_sem, qW], by simp only [go_sem, e4], by simp only [go_sem, qW], by simp only [go_sem, qW], mv0, hok, rfl⟩ ?_
    clear e2 e4 mv0 hen0 hcnt0
    rintro k st hk ⟨fr, en, cnt, v, m, rfl, h1, h2, e2, h4, e4, h7, h8, mv, hm, hrun⟩
    have hlm : m.length = s.world.objs.length := hm.len
    obtain ⟨r, ks, s1, _, s2, _⟩ := mv.mine.snap 7
    have hgp := R18_grey_pc m (by unfold Few; omega)
    simp only [go_sem, qC, qG, qW, h1, h2, e2, h4, e4, h7, h8]
    refine guardK_split (fun g1 => ?_) (fun g1 => ?_)
    · have hkm : k < most := of_decide_eq_true g1
      simp only [go_sem, qC, qG, qW, g1, h1, h2, e2, h4, e4, h7, h8, s1, s2, hgp.ret, grey_pos]
      refine condK_split (fun g2 => ?_) (fun g2 => ?_)
      · have hfg : firstG m < m.length := of_decide_eq_true g2
        obtain ⟨_, _, hf1⟩ := firstG_spec m
        have hf1 := hf1 hfg
        obtain ⟨n, hn⟩ : ∃ n, n = firstG m := ⟨_, rfl⟩
        have hgi : greyI m = (n : Int) := by rw [greyI, if_pos hfg, hn]
        rw [← hn] at hfg hf1
        rcases mv with ⟨_, hx⟩ | ⟨g, rfl, eb⟩
        · have : m.length = 0 := by rw [← List.length_map (f := Val.int .i64), hx]; rfl
          omega
        rw [List.length_map] at h7 s1
        have hnw : n < s.world.objs.length := by omega
        have hc1 : (0 : Int) ≤ (n : Int) := by omega
        have hc2 : (n : Int) < (m.length : Int) := by omega
        have hgn := ints_get hfg
        have hst : (m.map (Val.int .i64)).set n (.int .i64 2) = (lookM m n []).map (.int .i64) := by rw [ints_set, lookM_nil hfg]
        have hso := smallW_obj hsm _ (List.getElem_mem hnw)
        have hlen := refsL_len hso
        have hfl : Few (refsL s.world.objs[n]).length := by unfold Few; omega
        have hino := hin _ (List.getElem_mem hnw)
        simp only [go_sem, qC, qG, qW, h1, h2, e2, h4, e4, h7, h8, s1, s2, hgp.ret, hgi, eb, hgn, hst, hc1, hc2, hnw, (R18_Refs_pc _ hso).ret, true_and, and_true, eq_self, if_true, Nat.zero_add, Int.toNat_natCast, List.length_map]
        refine wp_for (refsL s.world.objs[n]).length (fun j st => ∃ fr en cnt, st = ⟨fr, en, cnt⟩ ∧ fr 1 = .int .i64 most ∧ fr 2 = .ptr ⟨0, 2, 0⟩ 0 ∧ en ⟨0, 2, 0⟩ = some (.box [.fz (s.world.objs.map MObj.enc), .fz (s.world.tasks.map (.int .i64)), .fz (s.world.outs.map MOut.enc), .fz (s.world.ins.map (.int .i64)), .int .i64 s.world.used, .fz (s.ages.map (.int .i64)), .fz (s.marks.map (.int .i64)), .int .i64 s.cycle] false) ∧ fr 4 = .ptr ⟨0, 4, 0⟩ 0 ∧ en ⟨0, 4, 0⟩ = some (.box [.cl [], .cl [], .cl [], .cl [], .int .i64 0, .cl [], .cl [], .int .i64 0] false) ∧ fr 7 = .bl ⟨0, 18, g⟩ 0 m.length ∧ fr 8 = .int .i64 k ∧ fr 10 = .fz ((refsL s.world.objs[n]).map (.int .i64)) ∧ fr 11 = .int .i64 j ∧
          en ⟨0, 18, g⟩ = some (.blk 1 ((lookM m n ((refsL s.world.objs[n]).take j)).map (.int .i64)) false)) 0 (Nat.zero_le _)
          ⟨_, _, _, rfl, by simp only [go_sem, h1], by simp only [go_sem, h2], by simp only [go_sem, e2], by simp only [go_sem, h4], by simp only [go_sem, e4], by simp only [go_sem, h7], by simp only [go_sem, h8], by simp only [go_sem, qW], by simp only [go_sem, qW], by simp only [go_sem, qW]; try rfl⟩ ?_
        clear e2 e4 h1 h2 h4 h7 h8 s1 eb
        rintro j st hj' ⟨fr, en, cnt, rfl, h1, h2, e2, h4, e4, h7, h8, h10, h11, eb⟩
        simp only [go_sem, qC, qG, qW, h1, h2, e2, h4, e4, h7, h8, h10, h11, eb]
        refine condK_split (fun hq2 => ?_) (fun hq2 => ?_)
        · have h2' : j < (refsL s.world.objs[n]).length := of_decide_eq_true hq2
          have hxi := hino _ ((refs_mem _ _).1 (List.getElem_mem h2'))
          simp only [inR, decide_eq_true_eq] at hxi
          obtain ⟨q, hq⟩ := Int.eq_ofNat_of_zero_le hxi.1
          have hqm : q < m.length := by omega
          have hql : q < (lookM m n ((refsL s.world.objs[n]).take j)).length := by rw [lookM_len]; exact hqm
          have hc3 : (0 : Int) ≤ (q : Int) := by omega
          have hc4 : (q : Int) < (m.length : Int) := by omega
          have hgq := ints_get hql
          have hts := take_step h2'
          rw [hq] at hts
          simp only [go_sem, qC, qG, qW, h2', h1, h2, e2, h4, e4, h7, h8, h10, h11, eb, hq, hgq, hc3, hc4, lookM_len, true_and, and_true, eq_self, if_true, Nat.zero_add, Int.toNat_natCast, List.length_map]
          refine condK_split (fun g3 => ?_) (fun g3 => ?_)
          · have hs3 := lookM_set hqm (of_decide_eq_true g3)
            rw [← hts] at hs3
            have hs4 : ((lookM m n ((refsL s.world.objs[n]).take j)).map (Val.int .i64)).set q (.int .i64 1) = (lookM m n ((refsL s.world.objs[n]).take (j + 1))).map (.int .i64) := by rw [ints_set, hs3]
            simp only [go_sem, qC, qG, qW, h2', h1, h2, e2, h4, e4, h7, h8, h10, h11, eb, hq, hgq, hs4, hc3, hc4, lookM_len, true_and, and_true, eq_self, if_true, Nat.zero_add, Int.toNat_natCast, List.length_map]
            refine ⟨_, _, _, rfl, ?_⟩
            simp only [go_sem, qC, qG, qW, h1, h2, e2, h4, e4, h7, h8, h10, h11, hs4, wrap_succ h2' hfl]
          · have hs3 := lookM_skip hqm (of_decide_eq_false g3)
            rw [← hts] at hs3
            simp only [go_sem, qC, qG, qW, h1, h2, e2, h4, e4, h7, h8, h10, h11, eb]
            refine ⟨_, _, _, rfl, ?_⟩
            rw [hs3]
            simp only [go_sem, qC, qG, qW, h1, h2, e2, h4, e4, h7, h8, h10, h11, eb, wrap_succ h2' hfl]
        · have : j = (refsL s.world.objs[n]).length := by simp at hq2; omega
          subst this
          have hlk : lookM m n (refsL s.world.objs[n]) = lookedAt s.world m n := lookM_same fun x => by rw [objAt_get hnw]; exact refs_mem _ _
          rw [List.take_length, hlk] at eb
          simp only [go_sem, qC, qG, qW, h1, h2, e2, h4, e4, h7, h8, h10, h11]
          refine ⟨hkm, _, _, _, .bl ⟨0, 18, g⟩ 0 m.length, lookedAt s.world m n, rfl, ?_⟩
          simp only [go_sem, qC, qG, qW, h1, h2, e2, h4, e4, h7, h8, wrap_succ hkm hfm]
          refine ⟨mineO_bl eb (by simp [lookedAt, lookM_len]), marks_look hin hm n, ?_⟩
          have e1 : most - k = (most - (k + 1)) + 1 := by omega
          rw [e1, runS, ← hn, if_pos hfg] at hrun
          exact hrun
      · have hfg : ¬ firstG m < m.length := of_decide_eq_false g2
        rw [runS_none hfg] at hrun
        simp only [go_sem, qC, qG, qW]
        exact ⟨_, _, _, v, rfl, by simp only [go_sem, h2], by simp only [go_sem, e2], by simp only [go_sem, h4], by simp only [go_sem, e4], by simp only [go_sem, h7], by rw [← hrun]; exact mv⟩
    · have hkm : k = most := by simp at g1; omega
      subst hkm
      rw [Nat.sub_self] at hrun
      simp only [go_sem, qC, qG, qW, g1, Bool.not_true, h1, h2, e2, h4, e4, h7, h8]
      have hrun' : m = runS s.world k s.marks := hrun
      exact ⟨_, _, _, v, rfl, by simp only [go_sem, h2], by simp only [go_sem, e2], by simp only [go_sem, h4], by simp only [go_sem, e4], by simp only [go_sem, h7], by rw [← hrun']; exact mv⟩
  · rintro e st ⟨rfl, fr, en, cnt, v, rfl, h2, e2, h4, e4, h7, mv⟩
    obtain ⟨M, hM⟩ : ∃ M, M = runS s.world most s.marks := ⟨_, rfl⟩
    rw [← hM] at mv
    have hMok : MarksOk s.world M := by rw [hM]; exact marks_run hin most hok
    have hMl : M.length = s.world.objs.length := hMok.len
    have hgp := R18_grey_pc M (by unfold Few; omega)
    obtain ⟨r, ks, s1, _, s2, _⟩ := mv.mine.snap 7
    have hsh := mv.shape
    simp only [go_sem, qC, qG, qW, h2, e2, h4, e4, h7, s1, s2, hgp.ret, grey_pos]
    refine condK_split (fun g1 => ?_) (fun g1 => ?_)
    · have hfg : firstG M < M.length := of_decide_eq_true g1
      have hS : sliceS s most = ⟨s.world, s.ages, M, s.cycle⟩ := by rw [sliceS, ← hM, if_pos hfg]
      have hG : sliceG s most = [] := by rw [sliceG, ← hM, if_pos hfg]
      have hE : sliceE s most = false := by rw [sliceE, ← hM, decide_eq_true hfg]; rfl
      rw [hS, hG, hE]
      simp only [go_sem, qC, qG, qW, h2, e2, h4, e4, h7, hsh.1, hsh.2]
      obtain ⟨x1, ks1, a1, a2, _⟩ := (mv.mine.keep (en' := en.set ⟨0, 4, 0⟩ (some (.box [.fz (s.world.objs.map MObj.enc), .fz (s.world.tasks.map (.int .i64)), .fz (s.world.outs.map MOut.enc), .fz (s.world.ins.map (.int .i64)), .int .i64 s.world.used, .fz (s.ages.map (.int .i64)), v, .int .i64 s.cycle] false))) fun t g ht => en_ne_t (by simp at ht; omega)).snap 5
      simp only [go_sem, qC, qG, qW, a1, a2]
    · have hfg : ¬ firstG M < M.length := of_decide_eq_false g1
      have hS : sliceS s most = nextS s M := by rw [sliceS, ← hM, if_neg hfg]
      have hG : sliceG s most = goneTo M s.world.objs.length := by rw [sliceG, ← hM, if_neg hfg]
      have hE : sliceE s most = true := by rw [sliceE, ← hM, decide_eq_false hfg]; rfl
      rw [hS, hG, hE]
      simp only [go_sem, qC, qG, qW, h2, e2, h4, e4, h7]
      refine wp_for s.world.objs.length (fun k st => ∃ fr en cnt vg vk va, st = ⟨fr, en, cnt⟩ ∧ fr 2 = .ptr ⟨0, 2, 0⟩ 0 ∧ en ⟨0, 2, 0⟩ = some (.box [.fz (s.world.objs.map MObj.enc), .fz (s.world.tasks.map (.int .i64)), .fz (s.world.outs.map MOut.enc), .fz (s.world.ins.map (.int .i64)), .int .i64 s.world.used, .fz (s.ages.map (.int .i64)), .fz (s.marks.map (.int .i64)), .int .i64 s.cycle] false) ∧ fr 4 = .ptr ⟨0, 4, 0⟩ 0 ∧ en ⟨0, 4, 0⟩ = some (.box [.cl [], .cl [], .cl [], .cl [], .int .i64 0, .cl [], .cl [], .int .i64 0] false) ∧ fr 7 = v ∧ MineO en v 1 (M.map (.int .i64)) 18 ∧ fr 12 = vg ∧ fr 13 = vk ∧ fr 14 = va ∧ fr 15 = .int .i64 k ∧
        Mine en vg 1 ((goneTo M k).map (.int .i64)) [86] ∧ Mine en vk 1 ((keepTo M k).map (.int .i64)) [90] ∧ Mine en va 1 ((agesTo s M k).map (.int .i64)) [100]) 0 (Nat.zero_le _)
        ⟨_, _, _, .cl [], .cl [], .cl [], rfl, by simp only [go_sem, h2], by simp only [go_sem, e2], by simp only [go_sem, h4], by simp only [go_sem, e4], by simp only [go_sem, h7], mv, by simp only [go_sem, qW], by simp only [go_sem, qW], by simp only [go_sem, qW], by simp only [go_sem, qW], Mine.nil _ _, Mine.nil _ _, Mine.nil _ _⟩ ?_
      clear h2 e2 h4 e4 h7 mv s1 s2 hsh
      rintro k st hk ⟨fr, en, cnt, vg, vk, va, rfl, h2, e2, h4, e4, h7, mv, h12, h13, h14, h15, mg, mk, ma⟩
      have hlv := mv.mine.len
      rw [List.length_map] at hlv
      simp only [go_sem, qC, qG, qW, h2, e2, h4, e4, h7, h12, h13, h14, h15, hlv]
      refine condK_split (fun hq => ?_) (fun hq => ?_)
      · have h' : k < M.length := of_decide_eq_true hq
        have h'w : k < s.world.objs.length := by omega
        have hka : k < s.ages.length := by omega
        have har := hAr k h'w
        simp only [inR, decide_eq_true_eq, ageAt_get hka] at har
        have hwa : IntKind.i64.wrap (s.ages[k] + 1) = s.ages[k] + 1 := wrap_in (by omega)
        have hgk := ints_get h'
        have hc1 : (0 : Int) ≤ (k : Int) := by omega
        have hc2 : (k : Int) < (M.length : Int) := by omega
        rcases mv with ⟨_, hx⟩ | ⟨g, rfl, eb⟩
        · have : M.length = 0 := by rw [← List.length_map (f := Val.int .i64), hx]; rfl
          omega
        rw [List.length_map] at h7
        simp only [go_sem, qC, qG, qW, h2, e2, h4, e4, h7, h12, h13, h14, h15, eb, hgk, hc1, hc2, true_and, and_true, eq_self, if_true, Nat.zero_add, Int.toNat_natCast, List.length_map]
        refine condK_split (fun g2 => ?_) (fun g2 => ?_)
        · have hm0 : markN M k = 0 := of_decide_eq_true g2
          simp only [go_sem, qC, qG, qW, h2, e2, h4, e4, h7, h12, h13, h14, h15]
          refine w_append (D := [86]) (xs := (goneTo M k).map (.int .i64)) (ys := [.int .i64 k]) (rs := []) ?_ ?_ ?_ ?_ ?_
          · simp only [go_sem, qW]; exact mg
          · simp only [go_sem, qW]
          · rfl
          · have := gone_len M k; simp; omega
          · intro v' en' cnt' hown hen hcnt
            have k2 : en' ⟨0, 2, 0⟩ = some (.box [.fz (s.world.objs.map MObj.enc), .fz (s.world.tasks.map (.int .i64)), .fz (s.world.outs.map MOut.enc), .fz (s.world.ins.map (.int .i64)), .int .i64 s.world.used, .fz (s.ages.map (.int .i64)), .fz (s.marks.map (.int .i64)), .int .i64 s.cycle] false) := by rw [hen 0 2 0 (.inr ⟨by decide, by simp⟩)]; simp only [go_sem, qW, e2]
            have k4 : en' ⟨0, 4, 0⟩ = some (.box [.cl [], .cl [], .cl [], .cl [], .int .i64 0, .cl [], .cl [], .int .i64 0] false) := by rw [hen 0 4 0 (.inr ⟨by decide, by simp⟩)]; simp only [go_sem, qW, e4]
            have kb : en' ⟨0, 18, g⟩ = some (.blk 1 (M.map (.int .i64)) false) := by rw [hen 0 18 g (.inr ⟨by decide, by simp⟩)]; simp only [go_sem, qW, eb]
            simp only [go_sem, qC, qG, qW, h2, k2, h4, k4, h7, h13, h14, h15]
            refine ⟨h'w, _, _, _, v', vk, va, rfl, ?_⟩
            simp only [go_sem, qC, qG, qW, h2, k2, h4, k4, h7, h13, h14, h15, wrap_succ h'w hs.1.objs]
            refine ⟨mineO_bl kb (by simp), ?_, ?_, ?_⟩
            · rw [gone_t hm0, List.map_append]
              exact Mine.sub (D := [86, 86]) hown (by simp)
            · rw [keep_f hm0]
              exact mk.keep fun t g ht => by rw [hen 0 t g (.inr (by simp at ht; subst ht; decide))]
            · rw [ages_f hm0]
              exact ma.keep fun t g ht => by rw [hen 0 t g (.inr (by simp at ht; subst ht; decide))]
        · have hm0 : ¬ markN M k = 0 := of_decide_eq_false g2
          simp only [go_sem, qC, qG, qW, h2, e2, h4, e4, h7, h12, h13, h14, h15]
          refine w_append (D := [90]) (xs := (keepTo M k).map (.int .i64)) (ys := [.int .i64 k]) (rs := []) ?_ ?_ ?_ ?_ ?_
          · simp only [go_sem, qW]; exact mk
          · simp only [go_sem, qW]
          · rfl
          · have := keepTo_len M k; simp; omega
          · intro v' en' cnt' hown hen hcnt
            have k2 : en' ⟨0, 2, 0⟩ = some (.box [.fz (s.world.objs.map MObj.enc), .fz (s.world.tasks.map (.int .i64)), .fz (s.world.outs.map MOut.enc), .fz (s.world.ins.map (.int .i64)), .int .i64 s.world.used, .fz (s.ages.map (.int .i64)), .fz (s.marks.map (.int .i64)), .int .i64 s.cycle] false) := by rw [hen 0 2 0 (.inr ⟨by decide, by simp⟩)]; simp only [go_sem, qW, e2]
            have k4 : en' ⟨0, 4, 0⟩ = some (.box [.cl [], .cl [], .cl [], .cl [], .int .i64 0, .cl [], .cl [], .int .i64 0] false) := by rw [hen 0 4 0 (.inr ⟨by decide, by simp⟩)]; simp only [go_sem, qW, e4]
            have kb : en' ⟨0, 18, g⟩ = some (.blk 1 (M.map (.int .i64)) false) := by rw [hen 0 18 g (.inr ⟨by decide, by simp⟩)]; simp only [go_sem, qW, eb]
            simp only [go_sem, qC, qG, qW, h2, k2, h4, k4, h7, h12, h14, h15, hka, hwa]
            refine w_append (D := [100]) (xs := (agesTo s M k).map (.int .i64)) (ys := [.int .i64 (min (s.ages[k] + 1) 2)]) (rs := []) ?_ ?_ ?_ ?_ ?_
            · simp only [go_sem, qW]; exact ma.keep fun t g ht => by rw [hen 0 t g (.inr (by simp at ht; subst ht; decide))]
            · simp only [go_sem, qW]
            · rfl
            · have := keepTo_len M k; have := agesTo_len s M k; simp; omega
            · intro v2 en2 cnt2 own2 hen2 hcnt2
              have j2 : en2 ⟨0, 2, 0⟩ = some (.box [.fz (s.world.objs.map MObj.enc), .fz (s.world.tasks.map (.int .i64)), .fz (s.world.outs.map MOut.enc), .fz (s.world.ins.map (.int .i64)), .int .i64 s.world.used, .fz (s.ages.map (.int .i64)), .fz (s.marks.map (.int .i64)), .int .i64 s.cycle] false) := by rw [hen2 0 2 0 (.inr ⟨by decide, by simp⟩)]; simp only [go_sem, qW, k2]
              have j4 : en2 ⟨0, 4, 0⟩ = some (.box [.cl [], .cl [], .cl [], .cl [], .int .i64 0, .cl [], .cl [], .int .i64 0] false) := by rw [hen2 0 4 0 (.inr ⟨by decide, by simp⟩)]; simp only [go_sem, qW, k4]
              have jb : en2 ⟨0, 18, g⟩ = some (.blk 1 (M.map (.int .i64)) false) := by rw [hen2 0 18 g (.inr ⟨by decide, by simp⟩)]; simp only [go_sem, qW, kb]
              simp only [go_sem, qC, qG, qW, h2, j2, h4, j4, h7, h12, h15]
              refine ⟨h'w, _, _, _, vg, v', v2, rfl, ?_⟩
              simp only [go_sem, qC, qG, qW, h2, j2, h4, j4, h7, h12, h15, wrap_succ h'w hs.1.objs]
              refine ⟨mineO_bl jb (by simp), ?_, ?_, ?_⟩
              · rw [gone_f hm0]
                exact mg.keep fun t g ht => by rw [hen2 0 t g (.inr (by simp at ht; subst ht; decide)), hen 0 t g (.inr (by simp at ht; subst ht; decide))]
              · rw [keep_t hm0, List.map_append]
                refine Mine.sub (D := [90, 90]) (hown.keep fun t g ht => ?_) (by simp)
                rw [hen2 0 t g (.inr (by simp at ht; subst ht; decide))]
              · rw [ages_t hm0, ageAt_get hka, List.map_append]
                exact Mine.sub (D := [100, 100]) own2 (by simp)
      · have : k = s.world.objs.length := by simp at hq; omega
        subst this
        simp only [go_sem, qC, qG, qW, h2, e2, h4, e4, h7, h12, h13, h14, h15]
        obtain ⟨hsh1, _⟩ := shut_marks hMok hin hfg
        have hkl := hsh1.len
        have hcp := R18_Compact_pc s.world (keepTo M s.world.objs.length) hs.1 hsm (by omega) hsh1.rng
        have hkf : Few (keepTo M s.world.objs.length).length := by unfold Few; omega
        have hcf := compact_few hs.1 hsm hkf hsh1.rng
        have hcs := small_compact hsm hsh1
        have hci := compact_in hsh1
        have hbg := R18_begun_pc (compactW s.world (keepTo M s.world.objs.length)) (agesTo s M s.world.objs.length) ((s.cycle + 1).tmod 4) hcf hcs (by rw [agesTo_len]; simp [compactW]) (fun o ho x hx => hci o ho x ((refs_mem _ _).1 hx))
        have hcy' := hcy
        simp only [inR, decide_eq_true_eq] at hcy'
        have hwc : IntKind.i64.wrap (s.cycle + 1) = s.cycle + 1 := wrap_in (by omega)
        refine wp_foot ?_
        obtain ⟨rg, kg, hr, hw⟩ := mine_snapK mg 6
        rcases mk with ⟨rfl, mkx⟩ | ⟨t1, gk, f1, rfl, ek, tk⟩ <;> rcases ma with ⟨rfl, max⟩ | ⟨t2, ga, f2, rfl, ea, ta⟩
        · rw [mkx] at hcp
          rw [max] at hbg
          have hn : (nextS s M).ages.map (Val.int .i64) = [] := max
          simp only [go_sem, qC, qG, qW, h2, e2, h4, e4, h7, h12, h13, h14, h15, hwc, hcp.ret, hbg.ret, List.all_cons, List.getElem?_cons_zero, List.getElem?_cons_succ, Bool.true_or, Bool.or_true, Bool.false_eq_true, if_false, hw, implies_true, hr, hn]
          rfl
        · have : t2 = 100 := by simpa using ta
          subst this
          rw [mkx] at hcp
          simp only [go_sem, qC, qG, qW, h2, e2, h4, e4, h7, h12, h13, h14, h15, hwc, ea, hcp.ret, hbg.ret, List.all_cons, List.getElem?_cons_zero, List.getElem?_cons_succ, Bool.true_or, Bool.or_true, Bool.false_eq_true, if_false, hw, implies_true, hr, List.length_map, Nat.le_refl, if_true, take_map_len]
          rfl
        · have : t1 = 90 := by simpa using tk
          subst this
          rw [max] at hbg
          have hn : (nextS s M).ages.map (Val.int .i64) = [] := max
          simp only [go_sem, qC, qG, qW, h2, e2, h4, e4, h7, h12, h13, h14, h15, hwc, ek, hcp.ret, hbg.ret, List.all_cons, List.getElem?_cons_zero, List.getElem?_cons_succ, Bool.true_or, Bool.or_true, Bool.false_eq_true, if_false, hw, implies_true, hr, hn, List.length_map, Nat.le_refl, if_true, take_map_len]
          rfl
        · have : t1 = 90 := by simpa using tk
          subst this
          have : t2 = 100 := by simpa using ta
          subst this
          simp only [go_sem, qC, qG, qW, h2, e2, h4, e4, h7, h12, h13, h14, h15, hwc, ek, ea, hcp.ret, hbg.ret, List.all_cons, List.getElem?_cons_zero, List.getElem?_cons_succ, Bool.true_or, Bool.or_true, Bool.false_eq_true, if_false, hw, implies_true, hr, List.length_map, Nat.le_refl, if_true, take_map_len]
          rfl
end Go.Proofs.YthpmfghgoabnhaaGreat
