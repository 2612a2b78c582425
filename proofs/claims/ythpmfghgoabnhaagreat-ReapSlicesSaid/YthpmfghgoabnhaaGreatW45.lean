/- How a cycle begins: the program's. -/
import Derived.Test.YthpmfghgoabnhaaGreatW44
import Derived.Test.YthpmfghgoabnhaaGreatW21
set_option linter.all false
namespace Go.Proofs.YthpmfghgoabnhaaGreat
open Go.Abs Go.Proofs
def ne2 (a : Int) : Bool := !decide (a = 2)
theorem any_mem {α : Type} {a b : List α} (h : ∀ x, x ∈ a ↔ x ∈ b) (p : α → Bool) : a.any p = b.any p := by
  rw [Bool.eq_iff_iff]; simp only [List.any_eq_true]
  exact ⟨fun ⟨x, hx, k⟩ => ⟨x, (h x).1 hx, k⟩, fun ⟨x, hx, k⟩ => ⟨x, (h x).2 hx, k⟩⟩
theorem ageN_range {ages : List Int} (h : ∀ a ∈ ages, inR a 0 2 = true) (r : Int) : inR (ageN ages r) 0 2 = true := by
  unfold ageN
  rw [List.getD_eq_getElem?_getD]
  cases hg : ages[r.toNat]? with
  | none => rfl
  | some a => exact h a (List.mem_of_getElem? hg)
theorem markB_young {w : MWorld} {ages : List Int} (h : ∀ a ∈ ages, inR a 0 2 = true) (c : Int) (i : Nat) : markB ne2 w ages c i = markB lt2 w ages c i := by
  have : ∀ r, ne2 (ageN ages r) = lt2 (ageN ages r) := fun r => by
    have := ageN_range h r
    simp only [inR, decide_eq_true_eq] at this
    rw [Bool.eq_iff_iff]; simp [ne2, lt2]; omega
  simp only [markB, this]
def partB (ages : List Int) (done : List Int) : Int := if done.any (fun r => ne2 (ageN ages r)) = true then 1 else 2
theorem partB_step (ages : List Int) (done : List Int) (x : Int) : partB ages (done ++ [x]) = if ne2 (ageN ages x) = true then 1 else partB ages done := by
  unfold partB
  rw [List.any_append]
  simp only [List.any_cons, List.any_nil, Bool.or_false]
  by_cases h : ne2 (ageN ages x) = true
  · simp [h]
  · simp [h]
def OI (w : MWorld) (ages : List Int) (c : Int) (m : Nat → Int) (k g1 g2 g13 gk : Nat) (vA : Val) (all : List Int) (en0 : En) (fr0 : Nat → Val) (gl : Nat) (r : List Int) (en : En) (cnt : Nat → Nat → Nat) : Prop :=
  en ⟨1, 0, gl⟩ = some (.loop fr0 [57] (LCode.ops [o 4 (.mv (.t 57))]) (LCode.block 4 (.seq (.ops [o 58 (.load false 1 (.t 1)), o 59 (.mv (.t 4)), o 60 (.call (.f F.reap_collector_old) [(.t 58), (.t 59)]), o 61 (.un .not (.t 60))]) (.cond (.t 61) (.draw [o 62 (.load false 1 (.t 1)), o 63 (.nilck (.t 62)), o 64 (.fa 0 (.t 63)), o 65 (.fa 6 (.t 64)), o 66 (.load false 1 (.t 65)), o 67 (.load false 1 (.t 2)), o 68 (.ia 1 (.t 66) (.t 67)), on (.store 1 (.t 68) (.c (.int .i64 1)))] []) .skip))) .ready) ∧ en ⟨0, 1, g1⟩ = some (.box [.ptr ⟨0, 16, gk⟩ 0] false) ∧ en ⟨0, 2, g2⟩ = some (.box [.int .i64 k] false) ∧ en ⟨0, 16, gk⟩ = some (.box [.fz (w.objs.map MObj.enc), .fz (w.tasks.map (.int .i64)), .fz (w.outs.map MOut.enc), .fz (w.ins.map (.int .i64)), .int .i64 w.used, vA, .bl ⟨0, 13, g13⟩ 0 w.objs.length, .int .i64 c] false) ∧ Mine en vA 1 (ages.map (.int .i64)) [120] ∧ g2 + 1 ≤ cnt 0 2 ∧ 1 ≤ cnt 0 6 ∧ en ⟨0, 6, 0⟩ = en0 ⟨0, 6, 0⟩ ∧
  (∀ g, en ⟨0, 103, g⟩ = en0 ⟨0, 103, g⟩) ∧ ∃ done, done ++ r = all ∧ en ⟨0, 13, g13⟩ = some (.blk 1 (((marksTo m w.objs.length k).set k (partB ages done)).map (.int .i64)) false)
theorem old_rounds (w : MWorld) (ages : List Int) (c : Int) (m : Nat → Int) (k g1 g2 g13 gk : Nat) (vA : Val) (all : List Int) (en0 : En) {fr0 : Nat → Val} {gl : Nat} {c0 : Nat → Nat} (hk : k < w.objs.length) (hal : ages.length = w.objs.length) (q1 : fr0 1 = .ptr ⟨0, 1, g1⟩ 0) (q2 : fr0 2 = .ptr ⟨0, 2, g2⟩ 0)
    (hino : ∀ x ∈ all, inR x 0 ((w.objs.length : Int) - 1) = true) (hc2 : g2 + 1 ≤ c0 2) (hc6 : 1 ≤ c0 6) : Rounds ⟨1, 0, gl⟩ c0 (OI w ages c m k g1 g2 g13 gk vA all en0 fr0 gl) (fun _ _ => False) := by
  refine ⟨?_, ?_⟩
  · rintro r en cnt en' cnt' ⟨i1, j1, j2, j16, mA, hg2, hg6, e6, e103, done, hd, j13⟩ hout hcnt hge
    have h2 := hge 2 (by decide)
    have h6 := hge 6 (by decide)
    exact ⟨(hout 1 0 gl (.inl (by omega))).trans i1, (hout 0 1 g1 (.inr (.inl (by decide)))).trans j1, (hout 0 2 g2 (.inr (.inr (by omega)))).trans j2, (hout 0 16 gk (.inr (.inl (by decide)))).trans j16, mA.keep fun t g ht => hout 0 t g (.inr (.inl (by simp at ht; subst ht; decide))), by omega, by omega, (hout 0 6 0 (.inr (.inr (by omega)))).trans e6, fun g => (hout 0 103 g (.inr (.inl (by decide)))).trans (e103 g), done, hd, (hout 0 13 g13 (.inr (.inl (by decide)))).trans j13⟩
  · rintro x rest en cnt ⟨i1, j1, j2, j16, mA, hg2, hg6, e6, e103, done, hd, j13⟩
    have hxi := hino x (by rw [← hd]; simp)
    have hxi' := hxi
    simp only [inR, decide_eq_true_eq] at hxi'
    obtain ⟨j, rfl⟩ := Int.eq_ofNat_of_zero_le hxi'.1
    have hj : j < ages.length := by omega
    have hne : ages.map (Val.int .i64) ≠ [] := by intro h; have : ages.length = 0 := by { rw [← List.length_map (f := Val.int .i64), h]; rfl }; omega
    obtain ⟨L1, hL1⟩ : ∃ L1, L1 = (marksTo m w.objs.length k).set k (partB ages done) := ⟨_, rfl⟩
    rw [← hL1] at j13
    have hl1 : L1.length = w.objs.length := by rw [hL1]; simp [marksTo_len]
    obtain ⟨ks, s1⟩ := mine_fz (mA.keep (en' := en.set ⟨1, 0, gl⟩ (some (.loop fr0 [57] (LCode.ops [o 4 (.mv (.t 57))]) (LCode.block 4 (.seq (.ops [o 58 (.load false 1 (.t 1)), o 59 (.mv (.t 4)), o 60 (.call (.f F.reap_collector_old) [(.t 58), (.t 59)]), o 61 (.un .not (.t 60))]) (.cond (.t 61) (.draw [o 62 (.load false 1 (.t 1)), o 63 (.nilck (.t 62)), o 64 (.fa 0 (.t 63)), o 65 (.fa 6 (.t 64)), o 66 (.load false 1 (.t 65)), o 67 (.load false 1 (.t 2)), o 68 (.ia 1 (.t 66) (.t 67)), on (.store 1 (.t 68) (.c (.int .i64 1)))] []) .skip))) .busy))) fun t g ht => by simp at ht; subst ht; exact en_ne (by intro he; injection he with h1 _ _; omega)) hne 6
    have htk : (L1.map (Val.int .i64)).take w.objs.length = L1.map (.int .i64) := List.take_of_length_le (by simp [hl1])
    have hold : PC L F.reap_collector_old [.fp [.fz (w.objs.map MObj.enc), .fz (w.tasks.map (.int .i64)), .fz (w.outs.map MOut.enc), .fz (w.ins.map (.int .i64)), .int .i64 w.used, .fz (ages.map (.int .i64)), .fz (L1.map (.int .i64)), .int .i64 c] 0, .int .i64 j] (.bool (decide (ages[j] = 2))) := reap_old_pc ⟨w, ages, L1, c⟩ j hj
    have hc1 : (0 : Int) ≤ (k : Int) := by omega
    have hc2' : (k : Int) < (w.objs.length : Int) := by omega
    have hgk : (L1.map (Val.int .i64))[k]? = some (.int .i64 (partB ages done)) := by rw [hL1]; simp [marksTo_len, hk]
    have hps := partB_step ages done (j : Int)
    have han : ageN ages (j : Int) = ages[j] := ageN_get hj
    refine win_yld (fr := fr0) (ps := [57]) (a := (LCode.ops [o 4 (.mv (.t 57))])) (b := (LCode.block 4 (.seq (.ops [o 58 (.load false 1 (.t 1)), o 59 (.mv (.t 4)), o 60 (.call (.f F.reap_collector_old) [(.t 58), (.t 59)]), o 61 (.un .not (.t 60))]) (.cond (.t 61) (.draw [o 62 (.load false 1 (.t 1)), o 63 (.nilck (.t 62)), o 64 (.fa 0 (.t 63)), o 65 (.fa 6 (.t 64)), o 66 (.load false 1 (.t 65)), o 67 (.load false 1 (.t 2)), o 68 (.ia 1 (.t 66) (.t 67)), on (.store 1 (.t 68) (.c (.int .i64 1)))] []) .skip)))) i1 rfl ?_
    simp only [go_sem, qC, qG, qW, q1, q2, i1, j1, j2, j16, j13, s1, hl1, htk, hold.ret, Nat.le_refl, if_true, List.length_map]
    refine condK_split (fun hb => ?_) (fun hb => ?_)
    · have hyn : ne2 (ageN ages (j : Int)) = true := by rw [han]; exact hb
      rw [if_pos hyn] at hps
      have hst : (L1.map (Val.int .i64)).set k (.int .i64 1) = ((marksTo m w.objs.length k).set k (partB ages (done ++ [(j : Int)]))).map (.int .i64) := by rw [hps, hL1, ← List.map_set, List.set_set]
      simp only [go_sem, qC, qG, qW, q1, q2, i1, j1, j2, j16, j13, hl1, hgk, hst, hc1, hc2', true_and, and_true, eq_self, if_true, Nat.zero_add, Int.toNat_natCast, List.length_map, Nat.le_refl]
      refine ⟨fun t g ht hg => ?_, fun _ _ => trivial, .inl ⟨?_, ?_, ?_, ?_, ?_, hg2, hg6, ?_, ?_, done ++ [(j : Int)], by rw [← hd]; simp, ?_⟩⟩
      · have n1 : (⟨0, t, g⟩ : Key) ≠ ⟨1, 0, gl⟩ := by intro he; injection he with h1 _ _; omega
        have n2 : (⟨0, t, g⟩ : Key) ≠ ⟨0, 13, g13⟩ := by intro he; injection he with _ h2 h3; subst h2; simp [T4] at ht
        rw [en_ne n1, en_ne n2, en_ne n1]
      · try simp only [go_sem, qW]
        try rfl
      · simp only [go_sem, qW, j1]
      · simp only [go_sem, qW, j2]
      · simp only [go_sem, qW, j16]
      · exact mA.keep fun t g ht => by simp at ht; subst ht; simp only [go_sem, qW]; try rfl
      · simp only [go_sem, qW, e6]
      · intro g; simp only [go_sem, qW, e103]
      · simp only [go_sem, qW]
    · have hyn : ¬ ne2 (ageN ages (j : Int)) = true := by rw [han]; intro h; rw [ne2] at h; rw [h] at hb; cases hb
      rw [if_neg hyn] at hps
      simp only [go_sem, qC, qG, qW, q1, q2, i1, j1, j2, j16, j13]
      refine ⟨fun t g ht hg => ?_, fun _ _ => trivial, .inl ⟨?_, ?_, ?_, ?_, ?_, hg2, hg6, ?_, ?_, done ++ [(j : Int)], by rw [← hd]; simp, ?_⟩⟩
      · have n1 : (⟨0, t, g⟩ : Key) ≠ ⟨1, 0, gl⟩ := by intro he; injection he with h1 _ _; omega
        rw [en_ne n1, en_ne n1]
      · try simp only [go_sem, qW]
        try rfl
      · simp only [go_sem, qW, j1]
      · simp only [go_sem, qW, j2]
      · simp only [go_sem, qW, j16]
      · exact mA.keep fun t g ht => by simp at ht; subst ht; simp only [go_sem, qW]; try rfl
      · simp only [go_sem, qW, e6]
      · intro g; simp only [go_sem, qW, e103]
      · rw [hps, ← hL1]; simp only [go_sem, qW, j13]
theorem mine_fzK {en : En} {v : Val} {size t : Nat} {xs : List Val} (h : Mine en v size xs [t]) (hx : xs ≠ []) (n : Nat) : ∃ ks, ∀ en' : En, (∀ g, en' ⟨0, t, g⟩ = en ⟨0, t, g⟩) → snapD (n + 1) en' v = some (.fz xs, ks) := by
  rcases h with ⟨_, h⟩ | ⟨t', g, f, rfl, h2, ht⟩
  · exact absurd h hx
  · have : t' = t := by simpa using ht
    subst this
    exact ⟨[⟨0, t', g⟩], fun en' he => by simp [snapD, he, h2]⟩
theorem begin_win (w : MWorld) (ages : List Int) (c : Int) (hw : w.few) (hs : smallWorld w = true) (hal : ages.length = w.objs.length) (har : ∀ a ∈ ages, inR a 0 2 = true) (hin : InRange w) {en : En} {cnt : Nat → Nat → Nat} {gk : Nat} {vA vM : Val}
    (e16 : en ⟨0, 16, gk⟩ = some (.box [.fz (w.objs.map MObj.enc), .fz (w.tasks.map (.int .i64)), .fz (w.outs.map MOut.enc), .fz (w.ins.map (.int .i64)), .int .i64 w.used, vA, vM, .int .i64 c] false)) (mA : Mine en vA 1 (ages.map (.int .i64)) [120]) (c6 : 1 ≤ cnt 0 6) :
    WIn L (.fn F.reap_collector_begin [] []) [.ptr ⟨0, 16, gk⟩ 0] en cnt fun _ en' cnt' => ∃ g13, en' ⟨0, 16, gk⟩ = some (.box [.fz (w.objs.map MObj.enc), .fz (w.tasks.map (.int .i64)), .fz (w.outs.map MOut.enc), .fz (w.ins.map (.int .i64)), .int .i64 w.used, vA, .bl ⟨0, 13, g13⟩ 0 w.objs.length, .int .i64 c] false) ∧ Mine en' vA 1 (ages.map (.int .i64)) [120] ∧ en' ⟨0, 13, g13⟩ = some (.blk 1 ((marksB lt2 w ages c).map (.int .i64)) false) ∧ en' ⟨0, 6, 0⟩ = en ⟨0, 6, 0⟩ ∧ ∀ g, en' ⟨0, 103, g⟩ = en ⟨0, 103, g⟩ := by
  obtain ⟨b1, b2, b3, b4⟩ := smallW_len hs
  have hmk : w.objs.length ≤ 16777216 := by omega
  obtain ⟨en0, hen0⟩ : ∃ e, e = en := ⟨_, rfl⟩
  obtain ⟨g1, hg1⟩ : ∃ g, g = cnt 0 1 := ⟨_, rfl⟩
  obtain ⟨g13, hg13⟩ : ∃ g, g = cnt 0 13 := ⟨_, rfl⟩
  have hmb : marksB lt2 w ages c = (List.range w.objs.length).map (markB ne2 w ages c) := List.map_congr_left fun i _ => (markB_young har c i).symm
  rw [hmb]
  refine win_of LF.reap_collector_begin rfl rfl ?_
  simp only [go_sem, qC, qG, qW, C.reap_collector_begin, box_any (v := .ptr ⟨0, 16, gk⟩ 0) rfl rfl, ← hg1]
  refine wp_foot ?_
  simp only [go_sem, qC, qG, qW, List.all_cons, List.getElem?_cons_zero, List.getElem?_cons_succ, Bool.true_or, Bool.or_true, Option.getD_some, mk_nat hmk, ← hg1, ← hg13, e16, one_bl, cells_bl]
  have hmz := marksTo_zero (markB ne2 w ages c) w.objs.length
  refine wp_for w.objs.length (fun k st => ∃ fr en cnt, st = ⟨fr, en, cnt⟩ ∧ fr 1 = .ptr ⟨0, 1, g1⟩ 0 ∧ en ⟨0, 1, g1⟩ = some (.box [.ptr ⟨0, 16, gk⟩ 0] false) ∧ en ⟨0, 16, gk⟩ = some (.box [.fz (w.objs.map MObj.enc), .fz (w.tasks.map (.int .i64)), .fz (w.outs.map MOut.enc), .fz (w.ins.map (.int .i64)), .int .i64 w.used, vA, .bl ⟨0, 13, g13⟩ 0 w.objs.length, .int .i64 c] false) ∧ en ⟨0, 13, g13⟩ = some (.blk 1 ((marksTo (markB ne2 w ages c) w.objs.length k).map (.int .i64)) false) ∧ fr 22 = .fz (w.objs.map MObj.enc) ∧ fr 23 = .int .i64 w.objs.length ∧ fr 24 = .int .i64 k ∧ Mine en vA 1 (ages.map (.int .i64)) [120] ∧ 1 ≤ cnt 0 6 ∧ en ⟨0, 6, 0⟩ = en0 ⟨0, 6, 0⟩ ∧ ∀ g, en ⟨0, 103, g⟩ = en0 ⟨0, 103, g⟩) 0 (Nat.zero_le _)
    ⟨_, _, _, rfl, by simp only [go_sem, qW], by simp only [go_sem, qW], by simp only [go_sem, qW], by rw [hmz]; simp only [go_sem, qW], by simp only [go_sem, qW], by simp only [go_sem, qW], by simp only [go_sem, qW], mA.keep (fun t g ht => by simp at ht; subst ht; simp only [go_sem, qW]), by simp only [go_sem, qW]; try exact c6, by simp only [go_sem, hen0], by intro g; simp only [go_sem, qW, hen0]⟩ ?_
  clear mA e16 c6
  rintro k st hk ⟨fr, en, cnt, rfl, h1, e1, e16, e13, h22, h23, h24, mA, c6, q6, q103⟩
  simp only [go_sem, qC, qG, qW, h1, e1, e16, h22, h23, h24]
  refine condK_split (fun hq => ?_) (fun hq => ?_)
  · have h' : k < w.objs.length := of_decide_eq_true hq
    have hka : k < ages.length := by omega
    obtain ⟨g2, hg2⟩ : ∃ g, g = cnt 0 2 := ⟨_, rfl⟩
    obtain ⟨g3, hg3⟩ : ∃ g, g = cnt 0 3 := ⟨_, rfl⟩
    have hmg := marksTo_get (m := markB ne2 w ages c) h'
    have hml := marksTo_len (markB ne2 w ages c) w.objs.length k
    have hc1 : (0 : Int) ≤ (k : Int) := by omega
    have hc2 : (k : Int) < (w.objs.length : Int) := by omega
    have hne : ages.map (Val.int .i64) ≠ [] := by intro h; have : ages.length = 0 := by { rw [← List.length_map (f := Val.int .i64), h]; rfl }; omega
    obtain ⟨ks, s1⟩ := mine_fzK mA hne 6
    have htk : ((marksTo (markB ne2 w ages c) w.objs.length k).map (Val.int .i64)).take w.objs.length = (marksTo (markB ne2 w ages c) w.objs.length k).map (.int .i64) := List.take_of_length_le (by simp [marksTo_len])
    have hfull : PC L F.reap_collector_full [.fp [.fz (w.objs.map MObj.enc), .fz (w.tasks.map (.int .i64)), .fz (w.outs.map MOut.enc), .fz (w.ins.map (.int .i64)), .int .i64 w.used, .fz (ages.map (.int .i64)), .fz ((marksTo (markB ne2 w ages c) w.objs.length k).map (.int .i64)), .int .i64 c] 0] (.bool (decide (c = 3))) := reap_full_pc ⟨w, ages, marksTo (markB ne2 w ages c) w.objs.length k, c⟩
    have hold : PC L F.reap_collector_old [.fp [.fz (w.objs.map MObj.enc), .fz (w.tasks.map (.int .i64)), .fz (w.outs.map MOut.enc), .fz (w.ins.map (.int .i64)), .int .i64 w.used, .fz (ages.map (.int .i64)), .fz ((marksTo (markB ne2 w ages c) w.objs.length k).map (.int .i64)), .int .i64 c] 0, .int .i64 k] (.bool (decide (ages[k] = 2))) := reap_old_pc ⟨w, ages, marksTo (markB ne2 w ages c) w.objs.length k, c⟩ k hka
    simp only [go_sem, qC, qG, qW, h', h1, e1, e16, h22, h23, h24, ← hg2, ← hg3, (reap_isTask_pc _).ret]
    refine condK_split (fun hT => ?_) (fun hT => ?_)
    · have hmm : markB ne2 w ages c k = 1 := by rw [markB, objAt_get h', if_pos hT]
      have hset : ((marksTo (markB ne2 w ages c) w.objs.length k).map (Val.int .i64)).set k (.int .i64 1) = (marksTo (markB ne2 w ages c) w.objs.length (k + 1)).map (.int .i64) := by rw [← marksTo_set, hmm]
      simp only [go_sem, qC, qG, qW, h', h1, e1, e16, e13, h22, h23, h24, hc1, hc2, hmg, hml, true_and, and_true, eq_self, if_true, Nat.zero_add, Int.toNat_natCast, List.length_map, Nat.le_refl]
      refine ⟨_, _, _, rfl, ?_⟩
      simp only [go_sem, qC, qG, qW, h', h1, e1, e16, e13, h22, h23, h24, hset, wrap_succ h' hw.objs]
      exact ⟨mA.keep (fun t g ht => by simp at ht; subst ht; simp only [go_sem, qW]), c6, q6, q103⟩
    · have hnt : ¬ isTask (w.obj k) = true := by rw [objAt_get h', hT]; decide
      have skip : markB ne2 w ages c k = 0 → marksTo (markB ne2 w ages c) w.objs.length (k + 1) = marksTo (markB ne2 w ages c) w.objs.length k := marksTo_skip
      simp only [go_sem, qC, qG, qW, h', h1, e1, e16, e13, h22, h23, h24, s1, htk, implies_true, List.length_map, hml, Nat.le_refl, if_true, hfull.ret]
      refine guardK_split (fun gf => ?_) (fun gf => ?_)
      · simp only [go_sem, qC, qG, qW, gf, h', h1, e1, e16, e13, h22, h23, h24, s1, htk, implies_true, List.length_map, hml, Nat.le_refl, if_true, hold.ret]
        refine condK_split (fun go => ?_) (fun go => ?_)
        · have hp0 : partB ages [] = 2 := rfl
          have hset2 : ((marksTo (markB ne2 w ages c) w.objs.length k).map (Val.int .i64)).set k (.int .i64 2) = ((marksTo (markB ne2 w ages c) w.objs.length k).set k (partB ages [])).map (.int .i64) := by rw [hp0, List.map_set]
          simp only [go_sem, qC, qG, qW, h', h1, e1, e16, e13, h22, h23, h24, hc1, hc2, hmg, hml, hset2, true_and, and_true, eq_self, if_true, Nat.zero_add, Int.toNat_natCast, List.length_map, Nat.le_refl, (reap_refs_pc _).ret]
          refine wp_range (f := F.reap_refs_c1) (x := []) (y := [.fp [.int .i64 w.objs[k].form, .int .i64 w.objs[k].n, .fz (w.objs[k].vals.map MVal.enc), .fz (w.objs[k].frames.map MFrame.enc)] 0]) (by simp only [go_sem, qW]) ?_
          intro fr0 key hfr0 hkey
          have r1 : fr0 1 = .ptr ⟨0, 1, g1⟩ 0 := by rw [hfr0]; simp only [go_sem, qW, h1]
          have r2 : fr0 2 = .ptr ⟨0, 2, g2⟩ 0 := by rw [hfr0]; simp only [go_sem, qW]
          have r22 : fr0 22 = .fz (w.objs.map MObj.enc) := by rw [hfr0]; simp only [go_sem, qW, h22]
          have r23 : fr0 23 = .int .i64 w.objs.length := by rw [hfr0]; simp only [go_sem, qW, h23]
          have r24 : fr0 24 = .int .i64 k := by rw [hfr0]; simp only [go_sem, qW, h24]
          obtain ⟨gl, rfl⟩ : ∃ gl, key = ⟨1, 0, gl⟩ := ⟨_, hkey⟩
          obtain ⟨c0, hc0⟩ : ∃ c0, c0 = setCnt (setCnt (setCnt cnt 0 2 (g2 + 1)) 0 3 (g3 + 1)) 1 0 (cnt 1 0 + 1) 0 := ⟨_, rfl⟩
          have hcc2 : g2 + 1 ≤ c0 2 := by rw [hc0]; simp [setCnt]
          have hcc6 : 1 ≤ c0 6 := by rw [hc0]; simpa [setCnt] using c6
          have hso := smallW_obj hs _ (List.getElem_mem h')
          have hr := old_rounds w ages c (markB ne2 w ages c) k g1 g2 g13 gk vA (refsOf w.objs[k]) en0 (fr0 := fr0) (gl := gl) (c0 := c0) h' hal r1 r2 (hin _ (List.getElem_mem h')) hcc2 hcc6
          rw [hc0] at hr
          have hfin : partB ages (refsOf w.objs[k]) = markB ne2 w ages c k := by
            rw [markB, if_neg hnt, if_pos (by rw [ageN_get hka, go, gf]; rfl), objAt_get h', partB, any_mem (refs_mem w.objs[k])]
          have hsetf : (marksTo (markB ne2 w ages c) w.objs.length k).set k (partB ages (refsOf w.objs[k])) = marksTo (markB ne2 w ages c) w.objs.length (k + 1) := by
            rw [hfin]
            have h := marksTo_set (m := markB ne2 w ages c) (n := w.objs.length) (k := k)
            rw [← List.map_set] at h
            apply List.ext_getElem
            · simp [marksTo_len]
            · intro i h1 h2
              have hh := congrArg (fun l => l[i]?) h
              simp only [List.getElem?_map, List.getElem?_eq_getElem h1, List.getElem?_eq_getElem h2, Option.map_some, Option.some.injEq, Val.int.injEq, true_and] at hh
              exact hh
          refine (refs_win w.objs[k] (small_few hso) hr ⟨by simp only [go_sem, qW], by simp only [go_sem, e1], by simp only [go_sem, qW], by simp only [go_sem, e16], mA.keep (fun t g ht => by simp at ht; subst ht; simp only [go_sem, qW]), by simp [setCnt], by simpa [setCnt] using c6, by simp only [go_sem, q6], by intro g; simp only [go_sem, qW, q103], [], rfl, by simp only [go_sem, qW]⟩).mono ?_
          rintro v en' cnt' (⟨i1, j1, j2, j16, mA', hg2', hg6, e6, e103, done, hd, j13⟩ | hF)
          · rw [List.append_nil] at hd
            subst hd
            rw [hsetf] at j13
            simp only [go_sem, qC, qG, qW, i1, j1, j2, j16, r1, r2, r22, r23, r24, h1, h22, h23, h24]
            refine ⟨_, _, _, rfl, ?_⟩
            simp only [go_sem, qC, qG, qW, j1, j2, j16, j13, r1, r2, r22, r23, r24, h', h1, h22, h23, h24, wrap_succ h' hw.objs]
            exact ⟨mA'.keep (fun t g ht => by simp at ht; subst ht; exact en_ne (by intro he; injection he with h1 _ _; omega)), hg6, by simp only [go_sem, e6], by intro g; simp only [go_sem, qW, e103]⟩
          · exact hF.elim
        · rw [skip (by rw [markB, if_neg hnt, if_neg (by rw [ageN_get hka, go, Bool.and_false]; decide)])]
          simp only [go_sem, qC, qG, qW, h', h1, e1, e16, e13, h22, h23, h24]
          refine ⟨_, _, _, rfl, ?_⟩
          simp only [go_sem, qC, qG, qW, h', h1, e1, e16, e13, h22, h23, h24, wrap_succ h' hw.objs]
          exact ⟨mA.keep (fun t g ht => by simp at ht; subst ht; simp only [go_sem, qW]), c6, q6, q103⟩
      · rw [skip (by rw [markB, if_neg hnt, if_neg (by rw [gf]; simp)])]
        simp only [go_sem, qC, qG, qW, gf, h', h1, e1, e16, e13, h22, h23, h24, Bool.not_true]
        refine ⟨_, _, _, rfl, ?_⟩
        simp only [go_sem, qC, qG, qW, h', h1, e1, e16, e13, h22, h23, h24, wrap_succ h' hw.objs]
        exact ⟨mA.keep (fun t g ht => by simp at ht; subst ht; simp only [go_sem, qW]), c6, q6, q103⟩
  · have : k = w.objs.length := by simp at hq; omega
    subst this
    rw [marksTo_full] at e13
    simp only [go_sem, qC, qG, qW]
    exact ⟨g13, e16, mA, e13, by rw [q6, hen0], fun g => by rw [q103, hen0]⟩
end Go.Proofs.YthpmfghgoabnhaaGreat
