/- Worlds with some objects alone: the program's answer. -/
import Derived.Test.YthpmfghgoabnhaaGreatW35
set_option linter.all false
namespace Go.Proofs.YthpmfghgoabnhaaGreat
open Go.Abs Go.Proofs
def lastAt (keep : List Int) (k : Nat) : Int := if k = 0 then -1 else numAt keep (k - 1)
theorem rise_last {n : Nat} {keep : List Int} {k : Nat} (h : k < keep.length) (hI : ∀ i, i < k → riseAt n keep i = true) : riseAt n keep k = (!decide (keep[k] ≤ lastAt keep k) && !decide ((n : Int) ≤ keep[k])) := by
  rw [Bool.eq_iff_iff]
  by_cases h0 : k = 0
  · subst h0
    simp [riseAt, lastAt, inR, numAt_get h]; omega
  · have hp := hI (k - 1) (by omega)
    simp only [riseAt, Bool.and_eq_true] at hp
    have hp1 := hp.1
    simp only [inR, decide_eq_true_eq] at hp1
    simp only [riseAt, lastAt, if_neg h0, inR, numAt_get h, Bool.and_eq_true, Bool.or_eq_true, decide_eq_true_eq, Bool.not_eq_true', decide_eq_false_iff_not]
    omega
theorem last_succ {keep : List Int} {k : Nat} (h : k < keep.length) : lastAt keep (k + 1) = keep[k] := by rw [lastAt, if_neg (by omega), Nat.add_sub_cancel, numAt_get h]
def staysL (n : Nat) (keep : List Int) (k : Nat) : List Val := (List.range n).map fun i => .bool (memB (keep.take k) (i : Nat))
theorem stays_len (n : Nat) (keep : List Int) (k : Nat) : (staysL n keep k).length = n := by simp [staysL]
theorem stays_zero (n : Nat) (keep : List Int) : staysL n keep 0 = List.replicate n (.bool false) := by simp [staysL, memB, List.map_const']
theorem stays_get {n : Nat} {keep : List Int} {k j : Nat} (h : j < n) : (staysL n keep k)[j]? = some (.bool (memB (keep.take k) j)) := by simp [staysL, h]
theorem stays_set {n : Nat} {keep : List Int} {k j : Nat} (h : k < keep.length) (hj : keep[k] = (j : Int)) : (staysL n keep k).set j (.bool true) = staysL n keep (k + 1) := by
  have hm : ∀ i : Nat, memB (keep.take (k + 1)) (i : Int) = (memB (keep.take k) i || decide (j = i)) := by
    intro i
    rw [take_step h, memB, List.any_append, hj]
    simp only [List.any_cons, List.any_nil, Bool.or_false, memB]
    congr 1
    simp
    omega
  apply List.ext_getElem
  · simp [staysL]
  · intro i h1 h2
    simp only [List.getElem_set, staysL, List.getElem_map, List.getElem_range, hm]
    by_cases hi : j = i
    · simp [hi]
    · simp [hi]
theorem stays_full (n : Nat) (keep : List Int) {j : Nat} (h : j < n) : (staysL n keep keep.length)[j]? = some (.bool (memB keep j)) := by
  rw [stays_get h, List.take_length]
def CI (w : MWorld) (keep : List Int) (k g12 : Nat) (fr0 : Nat → Val) (gk : Nat) (r : List Int) (en : En) (cnt : Nat → Nat → Nat) : Prop :=
  en ⟨1, 0, gk⟩ = some (.loop fr0 [66] (LCode.ops [o 14 (.mv (.t 66))]) (LCode.block 5 (.seq (.ops [o 67 (.load false 1 (.t 8)), o 68 (.load false 1 (.t 12)), o 69 (.ia 1 (.t 67) (.t 68)), o 70 (.load false 1 (.t 69)), o 71 (.mv (.t 70)), og 72 71 true (.load false 1 (.t 8)), og 73 71 true (.mv (.t 14)), og 74 71 true (.ia 1 (.t 72) (.t 73)), og 75 71 true (.load false 1 (.t 74)), og 76 71 true (.un .not (.t 75)), o 77 (.pick (.t 71) (.t 76) (.c (.bool false)))]) (.cond (.t 77) (.seq (.ops [o 78 (.build [(.cl []), (.cl []), (.cl []), (.cl []), (.int .i64 0)] []), on (.store 5 (.t 6) (.t 78)), on (.store 1 (.t 7) (.c (.int .i64 7)))]) .ret) .skip))) .ready) ∧ en ⟨0, 4, 0⟩ = some (.box [.fz (w.objs.map MObj.enc), .fz (w.tasks.map (.int .i64)), .fz (w.outs.map MOut.enc), .fz (w.ins.map (.int .i64)), .int .i64 w.used] false) ∧ en ⟨0, 6, 0⟩ = some (.box [.cl [], .cl [], .cl [], .cl [], .int .i64 0] false) ∧ en ⟨0, 7, 0⟩ = some (.box [.int .i64 0] false) ∧ en ⟨0, 8, 0⟩ = some (.box [.bl ⟨0, 23, 0⟩ 0 w.objs.length] false) ∧ en ⟨0, 12, g12⟩ = some (.box [.int .i64 k] false) ∧ en ⟨0, 23, 0⟩ = some (.blk 1 (staysL w.objs.length keep keep.length) false) ∧
    (∀ x ∈ refsOf (w.obj k), lostB keep k x = true → x ∈ r) ∧ (∀ x ∈ r, x ∈ refsOf (w.obj k)) ∧ 1 ≤ cnt 0 6
def CG (w : MWorld) (keep : List Int) (k : Nat) (fr0 : Nat → Val) (gk : Nat) (en : En) (cnt : Nat → Nat → Nat) : Prop :=
  en ⟨1, 0, gk⟩ = some (.loop fr0 [66] (LCode.ops [o 14 (.mv (.t 66))]) (LCode.block 5 (.seq (.ops [o 67 (.load false 1 (.t 8)), o 68 (.load false 1 (.t 12)), o 69 (.ia 1 (.t 67) (.t 68)), o 70 (.load false 1 (.t 69)), o 71 (.mv (.t 70)), og 72 71 true (.load false 1 (.t 8)), og 73 71 true (.mv (.t 14)), og 74 71 true (.ia 1 (.t 72) (.t 73)), og 75 71 true (.load false 1 (.t 74)), og 76 71 true (.un .not (.t 75)), o 77 (.pick (.t 71) (.t 76) (.c (.bool false)))]) (.cond (.t 77) (.seq (.ops [o 78 (.build [(.cl []), (.cl []), (.cl []), (.cl []), (.int .i64 0)] []), on (.store 5 (.t 6) (.t 78)), on (.store 1 (.t 7) (.c (.int .i64 7)))]) .ret) .skip))) (.done .ret)) ∧ en ⟨0, 6, 0⟩ = some (.box [.cl [], .cl [], .cl [], .cl [], .int .i64 0] false) ∧ en ⟨0, 7, 0⟩ = some (.box [.int .i64 7] false) ∧ ∃ x ∈ refsOf (w.obj k), lostB keep k x = true
theorem alone_rounds (w : MWorld) (keep : List Int) (k g12 : Nat) {fr0 : Nat → Val} {gk : Nat} {c0 : Nat → Nat} (hk : k < w.objs.length) (q6 : fr0 6 = .ptr ⟨0, 6, 0⟩ 0) (q7 : fr0 7 = .ptr ⟨0, 7, 0⟩ 0) (q8 : fr0 8 = .ptr ⟨0, 8, 0⟩ 0) (q12 : fr0 12 = .ptr ⟨0, 12, g12⟩ 0)
    (hino : ∀ x ∈ refsOf (w.obj k), inR x 0 ((w.objs.length : Int) - 1) = true) (hc : 1 ≤ c0 6) : Rounds ⟨1, 0, gk⟩ c0 (CI w keep k g12 fr0 gk) (CG w keep k fr0 gk) := by
  refine ⟨?_, ?_⟩
  · rintro r en cnt en' cnt' ⟨i1, i4, i6, i7, i8, i12, i23, j1, j2, j3⟩ hout hcnt hge
    have hge6 := hge 6 (by decide)
    exact ⟨(hout 1 0 gk (.inl (by omega))).trans i1, (hout 0 4 0 (.inr (.inl (by decide)))).trans i4, (hout 0 6 0 (.inr (.inr (by omega)))).trans i6, (hout 0 7 0 (.inr (.inl (by decide)))).trans i7, (hout 0 8 0 (.inr (.inl (by decide)))).trans i8, (hout 0 12 g12 (.inr (.inl (by decide)))).trans i12, (hout 0 23 0 (.inr (.inl (by decide)))).trans i23, j1, j2, by omega⟩
  · rintro x rest en cnt ⟨i1, i4, i6, i7, i8, i12, i23, j1, j2, j3⟩
    have hxr := j2 x (by simp)
    have hxi := hino x hxr
    have hxi' := hxi
    simp only [inR, decide_eq_true_eq] at hxi'
    obtain ⟨j, rfl⟩ := Int.eq_ofNat_of_zero_le hxi'.1
    have hj : j < w.objs.length := by omega
    have hc1 : (0 : Int) ≤ (k : Int) := by omega
    have hc2 : (k : Int) < (w.objs.length : Int) := by omega
    have hc3 : (0 : Int) ≤ (j : Int) := by omega
    have hc4 : (j : Int) < (w.objs.length : Int) := by omega
    have gk1 := stays_full w.objs.length keep hk
    have gj1 := stays_full w.objs.length keep hj
    refine win_yld (fr := fr0) (ps := [66]) (a := (LCode.ops [o 14 (.mv (.t 66))])) (b := (LCode.block 5 (.seq (.ops [o 67 (.load false 1 (.t 8)), o 68 (.load false 1 (.t 12)), o 69 (.ia 1 (.t 67) (.t 68)), o 70 (.load false 1 (.t 69)), o 71 (.mv (.t 70)), og 72 71 true (.load false 1 (.t 8)), og 73 71 true (.mv (.t 14)), og 74 71 true (.ia 1 (.t 72) (.t 73)), og 75 71 true (.load false 1 (.t 74)), og 76 71 true (.un .not (.t 75)), o 77 (.pick (.t 71) (.t 76) (.c (.bool false)))]) (.cond (.t 77) (.seq (.ops [o 78 (.build [(.cl []), (.cl []), (.cl []), (.cl []), (.int .i64 0)] []), on (.store 5 (.t 6) (.t 78)), on (.store 1 (.t 7) (.c (.int .i64 7)))]) .ret) .skip)))) i1 rfl ?_
    simp only [go_sem, qC, qG, qW, Nat.reduceEqDiff, Nat.reduceAdd, Nat.reduceLeDiff, Int.reduceToNat, Int.reduceEq, q6, q7, q8, q12, i1, i6, i7, i8, i12, i23, stays_len, gk1, hk, hc1, hc2, true_and, and_true, eq_self, if_true, Nat.zero_add, Int.toNat_natCast]
    refine guardK_split (fun ga => ?_) (fun ga => ?_)
    · simp only [go_sem, qC, qG, qW, Nat.reduceEqDiff, Nat.reduceAdd, Nat.reduceLeDiff, Int.reduceToNat, Int.reduceEq, ga, q6, q7, q8, q12, i1, i6, i7, i8, i12, i23, stays_len, gj1, hj, hc3, hc4, true_and, and_true, eq_self, if_true, Nat.zero_add, Int.toNat_natCast]
      refine condK_split (fun hb => ?_) (fun hb => ?_)
      · have hlost : lostB keep k j = true := by rw [lostB, ga, Bool.true_and]; exact hb
        simp only [go_sem, qC, qG, qW, Nat.reduceEqDiff, Nat.reduceAdd, Nat.reduceLeDiff, Int.reduceToNat, Int.reduceEq, q6, q7, i1, i6, i7]
        refine ⟨fun t g ht hg => ?_, fun _ _ => trivial, .inr ⟨rfl, ?_, ?_, ?_, (j : Int), hxr, hlost⟩⟩
        · have n1 : (⟨0, t, g⟩ : Key) ≠ ⟨1, 0, gk⟩ := by intro he; injection he with h1 _ _; omega
          have n2 : (⟨0, t, g⟩ : Key) ≠ ⟨0, 6, 0⟩ := by intro he; injection he with _ h2 h3; subst h2; omega
          have n3 : (⟨0, t, g⟩ : Key) ≠ ⟨0, 7, 0⟩ := by intro he; injection he with _ h2 h3; subst h2; simp [T4] at ht
          rw [en_ne n1, en_ne n3, en_ne n2, en_ne n1]
        · try simp only [go_sem, qW, Nat.reduceEqDiff, Nat.reduceAdd, Nat.reduceLeDiff, Int.reduceToNat, Int.reduceEq]
          try rfl
        · try simp only [go_sem, qW, Nat.reduceEqDiff, Nat.reduceAdd, Nat.reduceLeDiff, Int.reduceToNat, Int.reduceEq, i6]
          try rfl
        · try simp only [go_sem, qW, Nat.reduceEqDiff, Nat.reduceAdd, Nat.reduceLeDiff, Int.reduceToNat, Int.reduceEq, i7]
          try rfl
      · have hlost : lostB keep k j = false := by rw [lostB, ga, Bool.true_and]; exact hb
        simp only [go_sem, qC, qG, qW, Nat.reduceEqDiff, Nat.reduceAdd, Nat.reduceLeDiff, Int.reduceToNat, Int.reduceEq, q6, q7, i1, i6, i7]
        refine ⟨fun t g ht hg => ?_, fun _ _ => trivial, .inl ⟨?_, ?_, ?_, ?_, ?_, ?_, ?_, fun y hy hz => ?_, fun y hy => j2 y (by simp [hy]), j3⟩⟩
        · have n1 : (⟨0, t, g⟩ : Key) ≠ ⟨1, 0, gk⟩ := by intro he; injection he with h1 _ _; omega
          rw [en_ne n1, en_ne n1]
        · try simp only [go_sem, qW, Nat.reduceEqDiff, Nat.reduceAdd, Nat.reduceLeDiff, Int.reduceToNat, Int.reduceEq]
          try rfl
        · simp only [go_sem, qW, Nat.reduceEqDiff, Nat.reduceAdd, Nat.reduceLeDiff, Int.reduceToNat, Int.reduceEq, i4]
        · simp only [go_sem, qW, Nat.reduceEqDiff, Nat.reduceAdd, Nat.reduceLeDiff, Int.reduceToNat, Int.reduceEq, i6]
        · simp only [go_sem, qW, Nat.reduceEqDiff, Nat.reduceAdd, Nat.reduceLeDiff, Int.reduceToNat, Int.reduceEq, i7]
        · simp only [go_sem, qW, Nat.reduceEqDiff, Nat.reduceAdd, Nat.reduceLeDiff, Int.reduceToNat, Int.reduceEq, i8]
        · simp only [go_sem, qW, Nat.reduceEqDiff, Nat.reduceAdd, Nat.reduceLeDiff, Int.reduceToNat, Int.reduceEq, i12]
        · simp only [go_sem, qW, Nat.reduceEqDiff, Nat.reduceAdd, Nat.reduceLeDiff, Int.reduceToNat, Int.reduceEq, i23]
        · rcases List.mem_cons.1 (j1 y hy hz) with rfl | h
          · rw [hlost] at hz; cases hz
          · exact h
    · have hlost : lostB keep k j = false := by rw [lostB, ga]; rfl
      simp only [go_sem, qC, qG, qW, Nat.reduceEqDiff, Nat.reduceAdd, Nat.reduceLeDiff, Int.reduceToNat, Int.reduceEq, ga, q6, q7, i1, i6, i7, Bool.not_true]
      refine ⟨fun t g ht hg => ?_, fun _ _ => trivial, .inl ⟨?_, ?_, ?_, ?_, ?_, ?_, ?_, fun y hy hz => ?_, fun y hy => j2 y (by simp [hy]), j3⟩⟩
      · have n1 : (⟨0, t, g⟩ : Key) ≠ ⟨1, 0, gk⟩ := by intro he; injection he with h1 _ _; omega
        rw [en_ne n1, en_ne n1]
      · try simp only [go_sem, qW, Nat.reduceEqDiff, Nat.reduceAdd, Nat.reduceLeDiff, Int.reduceToNat, Int.reduceEq]
        try rfl
      · simp only [go_sem, qW, Nat.reduceEqDiff, Nat.reduceAdd, Nat.reduceLeDiff, Int.reduceToNat, Int.reduceEq, i4]
      · simp only [go_sem, qW, Nat.reduceEqDiff, Nat.reduceAdd, Nat.reduceLeDiff, Int.reduceToNat, Int.reduceEq, i6]
      · simp only [go_sem, qW, Nat.reduceEqDiff, Nat.reduceAdd, Nat.reduceLeDiff, Int.reduceToNat, Int.reduceEq, i7]
      · simp only [go_sem, qW, Nat.reduceEqDiff, Nat.reduceAdd, Nat.reduceLeDiff, Int.reduceToNat, Int.reduceEq, i8]
      · simp only [go_sem, qW, Nat.reduceEqDiff, Nat.reduceAdd, Nat.reduceLeDiff, Int.reduceToNat, Int.reduceEq, i12]
      · simp only [go_sem, qW, Nat.reduceEqDiff, Nat.reduceAdd, Nat.reduceLeDiff, Int.reduceToNat, Int.reduceEq, i23]
      · rcases List.mem_cons.1 (j1 y hy hz) with rfl | h
        · rw [hlost] at hz; cases hz
        · exact h
theorem keep_len {n : Nat} {keep : List Int} (h : risingOk n keep = true) : keep.length ≤ n := by
  have hp := rising_pair h
  have hin := rising_in h
  have key : ∀ i (hi : i < keep.length), (i : Int) ≤ keep[i] := by
    intro i
    induction i with
    | zero => intro hi; have := hin _ (List.getElem_mem hi); simp only [inR, decide_eq_true_eq] at this; omega
    | succ i ih =>
      intro hi
      have h1 := ih (by omega)
      have h2 := List.pairwise_iff_getElem.1 hp i (i + 1) (by omega) hi (by omega)
      omega
  by_cases h0 : keep.length = 0
  · omega
  · have h1 := key (keep.length - 1) (by omega)
    have h2 := hin _ (List.getElem_mem (show keep.length - 1 < keep.length by omega))
    simp only [inR, decide_eq_true_eq] at h2
    omega
theorem alone_ok {w : MWorld} {keep : List Int} (h : aloneOk w keep = true) (hin : ∀ x ∈ keep, inR x 0 ((w.objs.length : Int) - 1) = true) :
    (∀ n ∈ keep, ∀ x ∈ refsOf (w.obj n), x ∈ keep) ∧ ∀ i, i < w.objs.length → isTask (w.obj i) = true → (i : Int) ∈ keep := by
  rw [alone_all] at h
  refine ⟨fun n hn x hx => ?_, fun i hi ht => ?_⟩
  · have hni := hin n hn
    simp only [inR, decide_eq_true_eq] at hni
    obtain ⟨j, rfl⟩ := Int.eq_ofNat_of_zero_le hni.1
    have := h j (by omega)
    simp only [aloneRow, Bool.and_eq_true, List.all_eq_true] at this
    have hl := this.2 x ((refs_mem _ _).2 hx)
    simp only [lostB, memB_iff.2 hn, Bool.true_and, Bool.not_not] at hl
    exact memB_iff.1 hl
  · have := h i hi
    simp only [aloneRow, Bool.and_eq_true, ht, Bool.true_and, Bool.not_not] at this
    exact memB_iff.1 this.1
theorem reap_Compact_pc (p : BProg) (w : MWorld) (keep : List Int) (hp : p.few) (hw : w.few) (hsp : smallProg p = true) (hsm : smallWorld w = true) (hfk : Few keep.length)
    (htk : given p w = true → ∀ t ∈ w.tasks, ∃ i : Nat, i < w.objs.length ∧ t = i ∧ isTask (w.obj i) = true) :
    PC L F.reap_Compact [.agg [.fz (p.nodes.map BNode.enc), .fz (p.funs.map (.int .i64)), .int .i64 p.main, .fz (p.cons.map BCon.enc)], .agg [.fz (w.objs.map MObj.enc), .fz (w.tasks.map (.int .i64)), .fz (w.outs.map MOut.enc), .fz (w.ins.map (.int .i64)), .int .i64 w.used], .fz (keep.map (.int .i64))] (if given p w = true then
      (if risingOk w.objs.length keep = true then (if aloneOk w keep = true then .tup [.agg [.fz ((compactW w keep).objs.map MObj.enc), .fz ((compactW w keep).tasks.map (.int .i64)), .fz ((compactW w keep).outs.map MOut.enc), .fz ((compactW w keep).ins.map (.int .i64)), .int .i64 (compactW w keep).used], .int .i64 0] else .tup [.agg [.fz [], .fz [], .fz [], .fz [], .int .i64 0], .int .i64 7]) else .tup [.agg [.fz [], .fz [], .fz [], .fz [], .int .i64 0], .int .i64 2]) else .tup [.agg [.fz [], .fz [], .fz [], .fz [], .int .i64 0], .int .i64 2]) := by
  obtain ⟨b1, b2, b3, b4⟩ := smallW_len hsm
  have hmk : w.objs.length ≤ 16777216 := by omega
  have hmc := mean_Check_pc p w hp hw hsp
  refine pc_of LF.reap_Compact rfl rfl ?_
  by_cases hg : given p w = true
  · rw [if_pos hg]
    simp only [hg, if_true] at hmc
    have hz := stays_zero w.objs.length keep
    simp only [go_sem, qC, qG, qW, Nat.reduceEqDiff, Nat.reduceAdd, Nat.reduceLeDiff, Int.reduceToNat, Int.reduceEq, C.reap_Compact, hmc.ret, mk_nat hmk, one_bl, cells_bl]
    refine wp_for (keep.length) (fun k st => ∃ fr en cnt, st = ⟨fr, en, cnt⟩ ∧ (fr 2 = .fz (keep.map (.int .i64))) ∧ (fr 4 = .ptr ⟨0, 4, 0⟩ 0) ∧ (en ⟨0, 4, 0⟩ = some (.box [.fz (w.objs.map MObj.enc), .fz (w.tasks.map (.int .i64)), .fz (w.outs.map MOut.enc), .fz (w.ins.map (.int .i64)), .int .i64 w.used] false)) ∧ (fr 6 = .ptr ⟨0, 6, 0⟩ 0) ∧ (en ⟨0, 6, 0⟩ = some (.box [.cl [], .cl [], .cl [], .cl [], .int .i64 0] false)) ∧ (fr 7 = .ptr ⟨0, 7, 0⟩ 0) ∧ (en ⟨0, 7, 0⟩ = some (.box [.int .i64 0] false)) ∧ (fr 8 = .ptr ⟨0, 8, 0⟩ 0) ∧ (en ⟨0, 8, 0⟩ = some (.box [.bl ⟨0, 23, 0⟩ 0 w.objs.length] false)) ∧ (en ⟨0, 23, 0⟩ = some (.blk 1 (staysL w.objs.length keep k) false)) ∧ (fr 9 = .int .i64 (lastAt keep k)) ∧ (fr 24 = .fz (keep.map (.int .i64))) ∧ (fr 25 = .int .i64 keep.length) ∧ (fr 26 = .int .i64 k) ∧ (1 ≤ cnt 0 6) ∧ (∀ i, i < k → riseAt w.objs.length keep i = true)) 0 (Nat.zero_le _) ⟨_, _, _, rfl, (by first | (simp only [go_sem, Nat.reduceEqDiff, Nat.reduceAdd, Nat.reduceLeDiff, Int.reduceToNat, Int.reduceEq, hz.symm]; (try rfl); done) | rfl | simp), (by first | (simp only [go_sem, Nat.reduceEqDiff, Nat.reduceAdd, Nat.reduceLeDiff, Int.reduceToNat, Int.reduceEq, hz.symm]; (try rfl); done) | rfl | simp), (by first | (simp only [go_sem, Nat.reduceEqDiff, Nat.reduceAdd, Nat.reduceLeDiff, Int.reduceToNat, Int.reduceEq, hz.symm]; (try rfl); done) | rfl | simp), (by first | (simp only [go_sem, Nat.reduceEqDiff, Nat.reduceAdd, Nat.reduceLeDiff, Int.reduceToNat, Int.reduceEq, hz.symm]; (try rfl); done) | rfl | simp), (by first | (simp only [go_sem, Nat.reduceEqDiff, Nat.reduceAdd, Nat.reduceLeDiff, Int.reduceToNat, Int.reduceEq, hz.symm]; (try rfl); done) | rfl | simp), (by first | (simp only [go_sem, Nat.reduceEqDiff, Nat.reduceAdd, Nat.reduceLeDiff, Int.reduceToNat, Int.reduceEq, hz.symm]; (try rfl); done) | rfl | simp), (by first | (simp only [go_sem, Nat.reduceEqDiff, Nat.reduceAdd, Nat.reduceLeDiff, Int.reduceToNat, Int.reduceEq, hz.symm]; (try rfl); done) | rfl | simp), (by first | (simp only [go_sem, Nat.reduceEqDiff, Nat.reduceAdd, Nat.reduceLeDiff, Int.reduceToNat, Int.reduceEq, hz.symm]; (try rfl); done) | rfl | simp), (by first | (simp only [go_sem, Nat.reduceEqDiff, Nat.reduceAdd, Nat.reduceLeDiff, Int.reduceToNat, Int.reduceEq, hz.symm]; (try rfl); done) | rfl | simp), (by first | (simp only [go_sem, Nat.reduceEqDiff, Nat.reduceAdd, Nat.reduceLeDiff, Int.reduceToNat, Int.reduceEq, hz.symm]; (try rfl); done) | rfl | simp), (by first | (simp only [go_sem, Nat.reduceEqDiff, Nat.reduceAdd, Nat.reduceLeDiff, Int.reduceToNat, Int.reduceEq, hz.symm]; (try rfl); done) | rfl | simp), (by first | (simp only [go_sem, Nat.reduceEqDiff, Nat.reduceAdd, Nat.reduceLeDiff, Int.reduceToNat, Int.reduceEq, hz.symm]; (try rfl); done) | rfl | simp), (by first | (simp only [go_sem, Nat.reduceEqDiff, Nat.reduceAdd, Nat.reduceLeDiff, Int.reduceToNat, Int.reduceEq, hz.symm]; (try rfl); done) | rfl | simp), (by first | (simp only [go_sem, Nat.reduceEqDiff, Nat.reduceAdd, Nat.reduceLeDiff, Int.reduceToNat, Int.reduceEq, hz.symm]; (try rfl); done) | rfl | simp), (by first | (simp only [go_sem, Nat.reduceEqDiff, Nat.reduceAdd, Nat.reduceLeDiff, Int.reduceToNat, Int.reduceEq, hz.symm]; (try rfl); done) | rfl | simp), (by first | (simp only [go_sem, Nat.reduceEqDiff, Nat.reduceAdd, Nat.reduceLeDiff, Int.reduceToNat, Int.reduceEq, hz.symm]; (try rfl); done) | rfl | simp)⟩ ?_
    rintro k st hk ⟨fr, en, cnt, rfl, h2, h4, e4, h6, e6, h7, e7, h8, e8, e23, h9, h24, h25, h26, hc6, hI⟩
    simp only [go_sem, qC, qG, qW, Nat.reduceEqDiff, Nat.reduceAdd, Nat.reduceLeDiff, Int.reduceToNat, Int.reduceEq, h2, h4, e4, h6, e6, h7, e7, h8, e8, e23, h9, h24, h25, h26, hc6]
    refine condK_split (fun hq => ?_) (fun hq => ?_)
    · have h' : k < keep.length := of_decide_eq_true hq
      have hrl := rise_last h' hI
      have bad : riseAt w.objs.length keep k = false → risingOk w.objs.length keep = false := fun h => by
        rw [← Bool.not_eq_true, rising_all]
        exact fun hh => by rw [hh k h'] at h; cases h
      have next : riseAt w.objs.length keep k = true → ∀ i, i < k + 1 → riseAt w.objs.length keep i = true := fun h i hi => by
        by_cases hik : i < k
        · exact hI i hik
        · have : i = k := by omega
          subst this; exact h
      simp only [go_sem, qC, qG, qW, Nat.reduceEqDiff, Nat.reduceAdd, Nat.reduceLeDiff, Int.reduceToNat, Int.reduceEq, h2, h4, e4, h6, e6, h7, e7, h8, e8, e23, h9, h24, h25, h26, hc6, h']
      refine guardK_split (fun g1 => ?_) (fun g1 => ?_)
      · simp only [go_sem, qC, qG, qW, Nat.reduceEqDiff, Nat.reduceAdd, Nat.reduceLeDiff, Int.reduceToNat, Int.reduceEq, g1, h2, h4, e4, h6, e6, h7, e7, h8, e8, e23, h9, h24, h25, h26, hc6, h']
        refine condK_split (fun g2 => ?_) (fun g2 => ?_)
        · simp only [go_sem, qC, qG, qW, Nat.reduceEqDiff, Nat.reduceAdd, Nat.reduceLeDiff, Int.reduceToNat, Int.reduceEq, h2, h4, e4, h6, e6, h7, e7, h8, e8, e23, h9, h24, h25, h26, hc6]
          rw [bad (by rw [hrl, g2]; simp), if_neg Bool.false_ne_true]
        · have hok : riseAt w.objs.length keep k = true := by rw [hrl, g1, g2]; rfl
          have hin1 : inR keep[k] 0 ((w.objs.length : Int) - 1) = true := by
            simp only [riseAt, Bool.and_eq_true, numAt_get h'] at hok
            exact hok.1
          simp only [inR, decide_eq_true_eq] at hin1
          obtain ⟨j, hj⟩ := Int.eq_ofNat_of_zero_le hin1.1
          have hjn : j < w.objs.length := by omega
          have hc1 : (0 : Int) ≤ (j : Int) := by omega
          have hc2 : (j : Int) < (w.objs.length : Int) := by omega
          have hgj := stays_get (keep := keep) (k := k) hjn
          have hsj := stays_set (n := w.objs.length) h' hj
          have hls := last_succ h'
          rw [hj] at hls
          simp only [go_sem, qC, qG, qW, Nat.reduceEqDiff, Nat.reduceAdd, Nat.reduceLeDiff, Int.reduceToNat, Int.reduceEq, h2, h4, e4, h6, e6, h7, e7, h8, e8, e23, h9, h24, h25, h26, hc6, h', hj, stays_len, hgj, hsj, hjn, hc1, hc2, true_and, and_true, eq_self, if_true, Nat.zero_add, Int.toNat_natCast]
          refine ⟨_, _, _, rfl, ?_⟩
          simp only [go_sem, qC, qG, qW, Nat.reduceEqDiff, Nat.reduceAdd, Nat.reduceLeDiff, Int.reduceToNat, Int.reduceEq, h2, h4, e4, h6, e6, h7, e7, h8, e8, e23, h9, h24, h25, h26, hc6, hj, hls, hsj, wrap_succ h' hfk]
          exact next hok
      · simp only [go_sem, qC, qG, qW, Nat.reduceEqDiff, Nat.reduceAdd, Nat.reduceLeDiff, Int.reduceToNat, Int.reduceEq, g1, h2, h4, e4, h6, e6, h7, e7, h8, e8, e23, h9, h24, h25, h26, hc6, Bool.not_false]
        rw [bad (by rw [hrl, g1]; simp), if_neg Bool.false_ne_true]
    · have : k = keep.length := by simp at hq; omega
      subst this
      have hR := rising_all.2 hI
      have hkl := keep_len hR
      have hinn := rising_in hR
      rw [if_pos hR]
      simp only [go_sem, qC, qG, qW, Nat.reduceEqDiff, Nat.reduceAdd, Nat.reduceLeDiff, Int.reduceToNat, Int.reduceEq, h2, h4, e4, h6, e6, h7, e7, h8, e8, e23, h9, h24, h25, h26, hc6]
      refine wp_for (w.objs.length) (fun k st => ∃ fr en cnt, st = ⟨fr, en, cnt⟩ ∧ (fr 2 = .fz (keep.map (.int .i64))) ∧ (fr 4 = .ptr ⟨0, 4, 0⟩ 0) ∧ (en ⟨0, 4, 0⟩ = some (.box [.fz (w.objs.map MObj.enc), .fz (w.tasks.map (.int .i64)), .fz (w.outs.map MOut.enc), .fz (w.ins.map (.int .i64)), .int .i64 w.used] false)) ∧ (fr 6 = .ptr ⟨0, 6, 0⟩ 0) ∧ (en ⟨0, 6, 0⟩ = some (.box [.cl [], .cl [], .cl [], .cl [], .int .i64 0] false)) ∧ (fr 7 = .ptr ⟨0, 7, 0⟩ 0) ∧ (en ⟨0, 7, 0⟩ = some (.box [.int .i64 0] false)) ∧ (fr 8 = .ptr ⟨0, 8, 0⟩ 0) ∧ (en ⟨0, 8, 0⟩ = some (.box [.bl ⟨0, 23, 0⟩ 0 w.objs.length] false)) ∧ (en ⟨0, 23, 0⟩ = some (.blk 1 (staysL w.objs.length keep keep.length) false)) ∧ (fr 47 = .fz (w.objs.map MObj.enc)) ∧ (fr 48 = .int .i64 w.objs.length) ∧ (fr 49 = .int .i64 k) ∧ (1 ≤ cnt 0 6) ∧ (∀ i, i < k → aloneRow w keep i = true)) 0 (Nat.zero_le _) ⟨_, _, _, rfl, (by first | (simp only [go_sem, Nat.reduceEqDiff, Nat.reduceAdd, Nat.reduceLeDiff, Int.reduceToNat, Int.reduceEq, h2, h4, e4, h6, e6, h7, e7, h8, e8, e23, h9, h24, h25, h26, hc6]; (try rfl); done) | rfl | simp), (by first | (simp only [go_sem, Nat.reduceEqDiff, Nat.reduceAdd, Nat.reduceLeDiff, Int.reduceToNat, Int.reduceEq, h2, h4, e4, h6, e6, h7, e7, h8, e8, e23, h9, h24, h25, h26, hc6]; (try rfl); done) | rfl | simp), (by first | (simp only [go_sem, Nat.reduceEqDiff, Nat.reduceAdd, Nat.reduceLeDiff, Int.reduceToNat, Int.reduceEq, h2, h4, e4, h6, e6, h7, e7, h8, e8, e23, h9, h24, h25, h26, hc6]; (try rfl); done) | rfl | simp), (by first | (simp only [go_sem, Nat.reduceEqDiff, Nat.reduceAdd, Nat.reduceLeDiff, Int.reduceToNat, Int.reduceEq, h2, h4, e4, h6, e6, h7, e7, h8, e8, e23, h9, h24, h25, h26, hc6]; (try rfl); done) | rfl | simp), (by first | (simp only [go_sem, Nat.reduceEqDiff, Nat.reduceAdd, Nat.reduceLeDiff, Int.reduceToNat, Int.reduceEq, h2, h4, e4, h6, e6, h7, e7, h8, e8, e23, h9, h24, h25, h26, hc6]; (try rfl); done) | rfl | simp), (by first | (simp only [go_sem, Nat.reduceEqDiff, Nat.reduceAdd, Nat.reduceLeDiff, Int.reduceToNat, Int.reduceEq, h2, h4, e4, h6, e6, h7, e7, h8, e8, e23, h9, h24, h25, h26, hc6]; (try rfl); done) | rfl | simp), (by first | (simp only [go_sem, Nat.reduceEqDiff, Nat.reduceAdd, Nat.reduceLeDiff, Int.reduceToNat, Int.reduceEq, h2, h4, e4, h6, e6, h7, e7, h8, e8, e23, h9, h24, h25, h26, hc6]; (try rfl); done) | rfl | simp), (by first | (simp only [go_sem, Nat.reduceEqDiff, Nat.reduceAdd, Nat.reduceLeDiff, Int.reduceToNat, Int.reduceEq, h2, h4, e4, h6, e6, h7, e7, h8, e8, e23, h9, h24, h25, h26, hc6]; (try rfl); done) | rfl | simp), (by first | (simp only [go_sem, Nat.reduceEqDiff, Nat.reduceAdd, Nat.reduceLeDiff, Int.reduceToNat, Int.reduceEq, h2, h4, e4, h6, e6, h7, e7, h8, e8, e23, h9, h24, h25, h26, hc6]; (try rfl); done) | rfl | simp), (by first | (simp only [go_sem, Nat.reduceEqDiff, Nat.reduceAdd, Nat.reduceLeDiff, Int.reduceToNat, Int.reduceEq, h2, h4, e4, h6, e6, h7, e7, h8, e8, e23, h9, h24, h25, h26, hc6]; (try rfl); done) | rfl | simp), (by first | (simp only [go_sem, Nat.reduceEqDiff, Nat.reduceAdd, Nat.reduceLeDiff, Int.reduceToNat, Int.reduceEq, h2, h4, e4, h6, e6, h7, e7, h8, e8, e23, h9, h24, h25, h26, hc6]; (try rfl); done) | rfl | simp), (by first | (simp only [go_sem, Nat.reduceEqDiff, Nat.reduceAdd, Nat.reduceLeDiff, Int.reduceToNat, Int.reduceEq, h2, h4, e4, h6, e6, h7, e7, h8, e8, e23, h9, h24, h25, h26, hc6]; (try rfl); done) | rfl | simp), (by first | (simp only [go_sem, Nat.reduceEqDiff, Nat.reduceAdd, Nat.reduceLeDiff, Int.reduceToNat, Int.reduceEq, h2, h4, e4, h6, e6, h7, e7, h8, e8, e23, h9, h24, h25, h26, hc6]; (try rfl); done) | rfl | simp), (by first | (simp only [go_sem, Nat.reduceEqDiff, Nat.reduceAdd, Nat.reduceLeDiff, Int.reduceToNat, Int.reduceEq, h2, h4, e4, h6, e6, h7, e7, h8, e8, e23, h9, h24, h25, h26, hc6]; (try rfl); done) | rfl | simp), (by first | (simp only [go_sem, Nat.reduceEqDiff, Nat.reduceAdd, Nat.reduceLeDiff, Int.reduceToNat, Int.reduceEq, h2, h4, e4, h6, e6, h7, e7, h8, e8, e23, h9, h24, h25, h26, hc6]; (try rfl); done) | rfl | simp)⟩ ?_
      rintro k st hk ⟨fr, en, cnt, rfl, h2, h4, e4, h6, e6, h7, e7, h8, e8, e23, h47, h48, h49, hc6, hR2⟩
      simp only [go_sem, qC, qG, qW, Nat.reduceEqDiff, Nat.reduceAdd, Nat.reduceLeDiff, Int.reduceToNat, Int.reduceEq, h2, h4, e4, h6, e6, h7, e7, h8, e8, e23, h47, h48, h49, hc6]
      refine condK_split (fun hq2 => ?_) (fun hq2 => ?_)
      · have h' : k < w.objs.length := of_decide_eq_true hq2
        have hso := smallW_obj hsm _ (List.getElem_mem h')
        have bad : aloneRow w keep k = false → aloneOk w keep = false := fun h => by
          rw [← Bool.not_eq_true, alone_all]
          exact fun hh => by rw [hh k h'] at h; cases h
        have next : aloneRow w keep k = true → ∀ i, i < k + 1 → aloneRow w keep i = true := fun h i hi => by
          by_cases hik : i < k
          · exact hR2 i hik
          · have : i = k := by omega
            subst this; exact h
        have hc1 : (0 : Int) ≤ (k : Int) := by omega
        have hc2 : (k : Int) < (w.objs.length : Int) := by omega
        have hgk := stays_full w.objs.length keep h'
        obtain ⟨g12, hg12⟩ : ∃ g, g = cnt 0 12 := ⟨_, rfl⟩
        obtain ⟨g13, hg13⟩ : ∃ g, g = cnt 0 13 := ⟨_, rfl⟩
        refine wops_cut (fun st => (st.fr 2 = .fz (keep.map (.int .i64))) ∧ (st.fr 4 = .ptr ⟨0, 4, 0⟩ 0) ∧ (st.en ⟨0, 4, 0⟩ = some (.box [.fz (w.objs.map MObj.enc), .fz (w.tasks.map (.int .i64)), .fz (w.outs.map MOut.enc), .fz (w.ins.map (.int .i64)), .int .i64 w.used] false)) ∧ (st.fr 6 = .ptr ⟨0, 6, 0⟩ 0) ∧ (st.en ⟨0, 6, 0⟩ = some (.box [.cl [], .cl [], .cl [], .cl [], .int .i64 0] false)) ∧ (st.fr 7 = .ptr ⟨0, 7, 0⟩ 0) ∧ (st.en ⟨0, 7, 0⟩ = some (.box [.int .i64 0] false)) ∧ (st.fr 8 = .ptr ⟨0, 8, 0⟩ 0) ∧ (st.en ⟨0, 8, 0⟩ = some (.box [.bl ⟨0, 23, 0⟩ 0 w.objs.length] false)) ∧ (st.en ⟨0, 23, 0⟩ = some (.blk 1 (staysL w.objs.length keep keep.length) false)) ∧ (st.fr 47 = .fz (w.objs.map MObj.enc)) ∧ (st.fr 48 = .int .i64 w.objs.length) ∧ (st.fr 49 = .int .i64 k) ∧ (1 ≤ st.cnt 0 6) ∧ (st.fr 12 = .ptr ⟨0, 12, g12⟩ 0) ∧ (st.en ⟨0, 12, g12⟩ = some (.box [.int .i64 k] false)) ∧ (st.fr 13 = .ptr ⟨0, 13, g13⟩ 0) ∧ (st.en ⟨0, 13, g13⟩ = some (.box [.int .i64 w.objs[k].form, .int .i64 w.objs[k].n, .fz (w.objs[k].vals.map MVal.enc), .fz (w.objs[k].frames.map MFrame.enc)] false))) ?_ ?_
        · simp only [go_sem, qC, qG, qW, Nat.reduceEqDiff, Nat.reduceAdd, Nat.reduceLeDiff, Int.reduceToNat, Int.reduceEq, h', h2, h4, e4, h6, e6, h7, e7, h8, e8, e23, h47, h48, h49, hc6, ← hg12, ← hg13]
        · rintro fr en cnt ⟨(h2 : fr 2 = .fz (keep.map (.int .i64))), (h4 : fr 4 = .ptr ⟨0, 4, 0⟩ 0), (e4 : en ⟨0, 4, 0⟩ = some (.box [.fz (w.objs.map MObj.enc), .fz (w.tasks.map (.int .i64)), .fz (w.outs.map MOut.enc), .fz (w.ins.map (.int .i64)), .int .i64 w.used] false)), (h6 : fr 6 = .ptr ⟨0, 6, 0⟩ 0), (e6 : en ⟨0, 6, 0⟩ = some (.box [.cl [], .cl [], .cl [], .cl [], .int .i64 0] false)), (h7 : fr 7 = .ptr ⟨0, 7, 0⟩ 0), (e7 : en ⟨0, 7, 0⟩ = some (.box [.int .i64 0] false)), (h8 : fr 8 = .ptr ⟨0, 8, 0⟩ 0), (e8 : en ⟨0, 8, 0⟩ = some (.box [.bl ⟨0, 23, 0⟩ 0 w.objs.length] false)), (e23 : en ⟨0, 23, 0⟩ = some (.blk 1 (staysL w.objs.length keep keep.length) false)), (h47 : fr 47 = .fz (w.objs.map MObj.enc)), (h48 : fr 48 = .int .i64 w.objs.length), (h49 : fr 49 = .int .i64 k), (hc6 : 1 ≤ cnt 0 6), (h12 : fr 12 = .ptr ⟨0, 12, g12⟩ 0), (e12 : en ⟨0, 12, g12⟩ = some (.box [.int .i64 k] false)), (h13 : fr 13 = .ptr ⟨0, 13, g13⟩ 0), (e13 : en ⟨0, 13, g13⟩ = some (.box [.int .i64 w.objs[k].form, .int .i64 w.objs[k].n, .fz (w.objs[k].vals.map MVal.enc), .fz (w.objs[k].frames.map MFrame.enc)] false))⟩
          refine wops_cut (fun st => (st.fr 2 = .fz (keep.map (.int .i64))) ∧ (st.fr 4 = .ptr ⟨0, 4, 0⟩ 0) ∧ (st.en ⟨0, 4, 0⟩ = some (.box [.fz (w.objs.map MObj.enc), .fz (w.tasks.map (.int .i64)), .fz (w.outs.map MOut.enc), .fz (w.ins.map (.int .i64)), .int .i64 w.used] false)) ∧ (st.fr 6 = .ptr ⟨0, 6, 0⟩ 0) ∧ (st.en ⟨0, 6, 0⟩ = some (.box [.cl [], .cl [], .cl [], .cl [], .int .i64 0] false)) ∧ (st.fr 7 = .ptr ⟨0, 7, 0⟩ 0) ∧ (st.en ⟨0, 7, 0⟩ = some (.box [.int .i64 0] false)) ∧ (st.fr 8 = .ptr ⟨0, 8, 0⟩ 0) ∧ (st.en ⟨0, 8, 0⟩ = some (.box [.bl ⟨0, 23, 0⟩ 0 w.objs.length] false)) ∧ (st.en ⟨0, 23, 0⟩ = some (.blk 1 (staysL w.objs.length keep keep.length) false)) ∧ (st.fr 47 = .fz (w.objs.map MObj.enc)) ∧ (st.fr 48 = .int .i64 w.objs.length) ∧ (st.fr 49 = .int .i64 k) ∧ (1 ≤ st.cnt 0 6) ∧ (st.fr 12 = .ptr ⟨0, 12, g12⟩ 0) ∧ (st.en ⟨0, 12, g12⟩ = some (.box [.int .i64 k] false)) ∧ (st.fr 13 = .ptr ⟨0, 13, g13⟩ 0) ∧ (st.en ⟨0, 13, g13⟩ = some (.box [.int .i64 w.objs[k].form, .int .i64 w.objs[k].n, .fz (w.objs[k].vals.map MVal.enc), .fz (w.objs[k].frames.map MFrame.enc)] false)) ∧ (st.fr 62 = .bool (isTask (w.obj k) && !memB keep k))) ?_ ?_
          · simp only [go_sem, qC, qG, qW, Nat.reduceEqDiff, Nat.reduceAdd, Nat.reduceLeDiff, Int.reduceToNat, Int.reduceEq, h', h2, h4, e4, h6, e6, h7, e7, h8, e8, e23, h47, h48, h49, hc6, h12, e12, h13, e13, (reap_isTask_pc _).ret]
            refine guardK_split (fun ga => ?_) (fun ga => ?_)
            · simp only [go_sem, qC, qG, qW, Nat.reduceEqDiff, Nat.reduceAdd, Nat.reduceLeDiff, Int.reduceToNat, Int.reduceEq, h', ga, h2, h4, e4, h6, e6, h7, e7, h8, e8, e23, h47, h48, h49, hc6, h12, e12, h13, e13, stays_len, hgk, hc1, hc2, true_and, and_true, eq_self, if_true, Nat.zero_add, Int.toNat_natCast, objAt_get h', Bool.true_and]
            · simp only [go_sem, qC, qG, qW, Nat.reduceEqDiff, Nat.reduceAdd, Nat.reduceLeDiff, Int.reduceToNat, Int.reduceEq, h', ga, h2, h4, e4, h6, e6, h7, e7, h8, e8, e23, h47, h48, h49, hc6, h12, e12, h13, e13, Bool.not_true, objAt_get h', Bool.false_and]
          · rintro fr en cnt ⟨(h2 : fr 2 = .fz (keep.map (.int .i64))), (h4 : fr 4 = .ptr ⟨0, 4, 0⟩ 0), (e4 : en ⟨0, 4, 0⟩ = some (.box [.fz (w.objs.map MObj.enc), .fz (w.tasks.map (.int .i64)), .fz (w.outs.map MOut.enc), .fz (w.ins.map (.int .i64)), .int .i64 w.used] false)), (h6 : fr 6 = .ptr ⟨0, 6, 0⟩ 0), (e6 : en ⟨0, 6, 0⟩ = some (.box [.cl [], .cl [], .cl [], .cl [], .int .i64 0] false)), (h7 : fr 7 = .ptr ⟨0, 7, 0⟩ 0), (e7 : en ⟨0, 7, 0⟩ = some (.box [.int .i64 0] false)), (h8 : fr 8 = .ptr ⟨0, 8, 0⟩ 0), (e8 : en ⟨0, 8, 0⟩ = some (.box [.bl ⟨0, 23, 0⟩ 0 w.objs.length] false)), (e23 : en ⟨0, 23, 0⟩ = some (.blk 1 (staysL w.objs.length keep keep.length) false)), (h47 : fr 47 = .fz (w.objs.map MObj.enc)), (h48 : fr 48 = .int .i64 w.objs.length), (h49 : fr 49 = .int .i64 k), (hc6 : 1 ≤ cnt 0 6), (h12 : fr 12 = .ptr ⟨0, 12, g12⟩ 0), (e12 : en ⟨0, 12, g12⟩ = some (.box [.int .i64 k] false)), (h13 : fr 13 = .ptr ⟨0, 13, g13⟩ 0), (e13 : en ⟨0, 13, g13⟩ = some (.box [.int .i64 w.objs[k].form, .int .i64 w.objs[k].n, .fz (w.objs[k].vals.map MVal.enc), .fz (w.objs[k].frames.map MFrame.enc)] false)), (h62 : fr 62 = .bool (isTask (w.obj k) && !memB keep k))⟩
            simp only [go_sem, qC, qG, qW, Nat.reduceEqDiff, Nat.reduceAdd, Nat.reduceLeDiff, Int.reduceToNat, Int.reduceEq, h2, h4, e4, h6, e6, h7, e7, h8, e8, e23, h47, h48, h49, hc6, h12, e12, h13, e13, h62]
            refine condK_split (fun hW => ?_) (fun hW => ?_)
            · simp only [go_sem, qC, qG, qW, Nat.reduceEqDiff, Nat.reduceAdd, Nat.reduceLeDiff, Int.reduceToNat, Int.reduceEq, h2, h4, e4, h6, e6, h7, e7, h8, e8, e23, h47, h48, h49, hc6, h12, e12, h13, e13, h62]
              rw [bad (by simp [aloneRow, hW]), if_neg Bool.false_ne_true]
            simp only [go_sem, qC, qG, qW, Nat.reduceEqDiff, Nat.reduceAdd, Nat.reduceLeDiff, Int.reduceToNat, Int.reduceEq, h2, h4, e4, h6, e6, h7, e7, h8, e8, e23, h47, h48, h49, hc6, h12, e12, h13, e13, h62, h', (reap_refs_pc _).ret]
            refine wp_range (f := F.reap_refs_c1) (x := []) (y := [.fp [.int .i64 w.objs[k].form, .int .i64 w.objs[k].n, .fz (w.objs[k].vals.map MVal.enc), .fz (w.objs[k].frames.map MFrame.enc)] 0]) (by simp only [go_sem, Nat.reduceEqDiff, Nat.reduceAdd, Nat.reduceLeDiff, Int.reduceToNat, Int.reduceEq]) ?_
            intro fr0 key hfr0 hkey
            have q4 : fr0 4 = .ptr ⟨0, 4, 0⟩ 0 := by rw [hfr0]; simp only [go_sem, qW, Nat.reduceEqDiff, Nat.reduceAdd, Nat.reduceLeDiff, Int.reduceToNat, Int.reduceEq, h2, h4, e4, h6, e6, h7, e7, h8, e8, e23, h47, h48, h49, hc6, h12, e12, h13, e13, h62]
            have q6 : fr0 6 = .ptr ⟨0, 6, 0⟩ 0 := by rw [hfr0]; simp only [go_sem, qW, Nat.reduceEqDiff, Nat.reduceAdd, Nat.reduceLeDiff, Int.reduceToNat, Int.reduceEq, h2, h4, e4, h6, e6, h7, e7, h8, e8, e23, h47, h48, h49, hc6, h12, e12, h13, e13, h62]
            have q7 : fr0 7 = .ptr ⟨0, 7, 0⟩ 0 := by rw [hfr0]; simp only [go_sem, qW, Nat.reduceEqDiff, Nat.reduceAdd, Nat.reduceLeDiff, Int.reduceToNat, Int.reduceEq, h2, h4, e4, h6, e6, h7, e7, h8, e8, e23, h47, h48, h49, hc6, h12, e12, h13, e13, h62]
            have q8 : fr0 8 = .ptr ⟨0, 8, 0⟩ 0 := by rw [hfr0]; simp only [go_sem, qW, Nat.reduceEqDiff, Nat.reduceAdd, Nat.reduceLeDiff, Int.reduceToNat, Int.reduceEq, h2, h4, e4, h6, e6, h7, e7, h8, e8, e23, h47, h48, h49, hc6, h12, e12, h13, e13, h62]
            have q12 : fr0 12 = .ptr ⟨0, 12, g12⟩ 0 := by rw [hfr0]; simp only [go_sem, qW, Nat.reduceEqDiff, Nat.reduceAdd, Nat.reduceLeDiff, Int.reduceToNat, Int.reduceEq, h2, h4, e4, h6, e6, h7, e7, h8, e8, e23, h47, h48, h49, hc6, h12, e12, h13, e13, h62]
            obtain ⟨gk, rfl⟩ : ∃ gk, key = ⟨1, 0, gk⟩ := ⟨_, hkey⟩
            have hino := given_in hg _ (List.getElem_mem h')
            rw [← objAt_get h'] at hino ⊢
            obtain ⟨c0, hc0⟩ : ∃ c0, c0 = setCnt cnt 1 0 (cnt 1 0 + 1) 0 := ⟨_, rfl⟩
            have hcc : 1 ≤ c0 6 := by rw [hc0]; simpa [setCnt] using hc6
            have hr := alone_rounds w keep k g12 (gk := gk) (c0 := c0) h' q6 q7 q8 q12 (fun x hx => hino x ((refs_mem _ _).2 hx)) hcc
            rw [hc0] at hr
            refine (refs_win (w.obj k) (small_few (by rw [objAt_get h']; exact hso)) hr ⟨by simp only [go_sem, Nat.reduceEqDiff, Nat.reduceAdd, Nat.reduceLeDiff, Int.reduceToNat, Int.reduceEq], by simp only [go_sem, Nat.reduceEqDiff, Nat.reduceAdd, Nat.reduceLeDiff, Int.reduceToNat, Int.reduceEq, e4], by simp only [go_sem, Nat.reduceEqDiff, Nat.reduceAdd, Nat.reduceLeDiff, Int.reduceToNat, Int.reduceEq, e6], by simp only [go_sem, Nat.reduceEqDiff, Nat.reduceAdd, Nat.reduceLeDiff, Int.reduceToNat, Int.reduceEq, e7], by simp only [go_sem, Nat.reduceEqDiff, Nat.reduceAdd, Nat.reduceLeDiff, Int.reduceToNat, Int.reduceEq, e8], by simp only [go_sem, Nat.reduceEqDiff, Nat.reduceAdd, Nat.reduceLeDiff, Int.reduceToNat, Int.reduceEq, e12], by simp only [go_sem, Nat.reduceEqDiff, Nat.reduceAdd, Nat.reduceLeDiff, Int.reduceToNat, Int.reduceEq, e23], fun x hx _ => hx, fun x hx => hx, by simpa [setCnt] using hc6⟩).mono ?_
            rintro v en' cnt' (⟨i1, i4, i6, i7, i8, i12, i23, j1, j2, j3⟩ | ⟨i1, i6, i7, x, hx, hb⟩)
            · have hrow : aloneRow w keep k = true := by
                have : (refsL (w.obj k)).all (fun r => !lostB keep k r) = true := by
                  rw [List.all_eq_true]
                  intro x hx
                  have : lostB keep k x = false := by
                    rw [← Bool.not_eq_true]
                    intro hb
                    exact absurd (j1 x ((refs_mem _ _).1 hx) hb) (by simp)
                  rw [this]; rfl
                rw [aloneRow, hW, this]; rfl
              simp only [go_sem, qC, qG, qW, Nat.reduceEqDiff, Nat.reduceAdd, Nat.reduceLeDiff, Int.reduceToNat, Int.reduceEq, i1, i4, i6, i7, i8, i12, i23, h2, h4, e4, h6, e6, h7, e7, h8, e8, e23, h47, h48, h49, hc6, h12, e12, h13, e13, h62]
              refine ⟨_, _, _, rfl, ?_⟩
              simp only [go_sem, qC, qG, qW, Nat.reduceEqDiff, Nat.reduceAdd, Nat.reduceLeDiff, Int.reduceToNat, Int.reduceEq, i4, i6, i7, i8, i12, i23, h2, h4, h6, h7, h8, h47, h48, h49, wrap_succ h' hw.objs]
              exact ⟨j3, next hrow⟩
            · have hrow : aloneRow w keep k = false := by
                have : (refsL (w.obj k)).all (fun r => !lostB keep k r) = false := by
                  rw [List.all_eq_false]
                  exact ⟨x, (refs_mem _ _).2 hx, by simp [hb]⟩
                rw [aloneRow, this, Bool.and_false]
              simp only [go_sem, qC, qG, qW, Nat.reduceEqDiff, Nat.reduceAdd, Nat.reduceLeDiff, Int.reduceToNat, Int.reduceEq, i1, i6, i7, h6, h7]
              rw [bad hrow, if_neg Bool.false_ne_true]
      · have : k = w.objs.length := by simp at hq2; omega
        subst this
        have hA := alone_all.2 hR2
        obtain ⟨a1, a2⟩ := alone_ok hA hinn
        have hal := reap_alone_pc w keep hw hsm (by omega) (rising_pair hR) hinn a1 (fun t ht => by
          obtain ⟨i, hi, rfl, hti⟩ := htk hg t ht
          exact a2 i hi hti)
        rw [if_pos hA]
        simp only [go_sem, qC, qG, qW, Nat.reduceEqDiff, Nat.reduceAdd, Nat.reduceLeDiff, Int.reduceToNat, Int.reduceEq, h2, h4, e4, h6, e6, h7, e7, h8, e8, e23, h47, h48, h49, hc6, hal.ret]
  · rw [if_neg hg]
    simp only [hg] at hmc
    simp only [go_sem, qC, qG, qW, Nat.reduceEqDiff, Nat.reduceAdd, Nat.reduceLeDiff, Int.reduceToNat, Int.reduceEq, C.reap_Compact, hmc.ret]
end Go.Proofs.YthpmfghgoabnhaaGreat
