/- Slices: the program's. -/
import Derived.Test.YthpmfghgoabnhaaGreatW46
set_option linter.all false
namespace Go.Proofs.YthpmfghgoabnhaaGreat
open Go.Abs Go.Proofs
theorem mul_less {a b c d : Nat} (h : a + 1 = b) (h2 : d < c) : a * c + d < b * c := by
  subst h; rw [Nat.add_mul, Nat.one_mul]; omega
theorem apart_ownV {ws : List W} {d : Nat} {D : List Nat} (h : ∀ w ∈ ws, w.key.n = 0 ∧ (w.key.t = d ∨ w.key.t ∈ D) ∧ ∃ e, w = .ent w.key e) {t' g' : Nat} (ht : t' ≠ d ∧ t' ∉ D) : (ws.all fun w => apartWR w (.val ⟨0, t', g'⟩)) = true := by
  rw [List.all_eq_true]
  intro w hw
  obtain ⟨h1, h2, e, h3⟩ := h w hw
  rw [h3, apart_ew]
  refine decide_eq_true ?_
  intro he
  rw [he] at h2
  rcases h2 with h2 | h2
  · exact ht.1 h2
  · exact ht.2 h2
theorem ages_in {s : RState} {m : List Int} {n : Nat} (h : ∀ i : Nat, i < n → inR (ageAt s i) 0 2 = true) : ∀ a ∈ agesTo s m n, inR a 0 2 = true := by
  intro a ha
  obtain ⟨i, hi, rfl⟩ := List.mem_map.1 ha
  have hi := (List.mem_filter.1 hi).1
  have := h i (by simpa using hi)
  simp only [inR, decide_eq_true_eq] at this ⊢
  omega
def SlE (s : RState) (most : Nat) (g2 gk : Nat) (vA vM : Val) (en0 : En) (st : St) : Prop :=
  ∃ fr en cnt n, st = ⟨fr, en, cnt⟩ ∧ fr 2 = .ptr ⟨0, 2, g2⟩ 0 ∧ en ⟨0, 2, g2⟩ = some (.box [.ptr ⟨0, 16, gk⟩ 0] false) ∧ fr 6 = .int .i64 (n : Nat) ∧ en ⟨0, 16, gk⟩ = some (.box [.fz (s.world.objs.map MObj.enc), .fz (s.world.tasks.map (.int .i64)), .fz (s.world.outs.map MOut.enc), .fz (s.world.ins.map (.int .i64)), .int .i64 s.world.used, vA, vM, .int .i64 s.cycle] false) ∧ MineO en vA 1 (s.ages.map (.int .i64)) 8 ∧ MineO en vM 1 ((runS s.world most s.marks).map (.int .i64)) 11 ∧ 1 ≤ cnt 0 6 ∧ en ⟨0, 6, 0⟩ = en0 ⟨0, 6, 0⟩ ∧
    decide (n < (runS s.world most s.marks).length) = decide (firstG (runS s.world most s.marks) < (runS s.world most s.marks).length)
theorem slice_win (s : RState) (most : Nat) (hs : s.few) (hsm : smallWorld s.world = true) (hin : InRange s.world) (hok : MarksOk s.world s.marks) (hA : s.ages.length = s.world.objs.length) (hmost : most ≤ 200) (hcy : inR s.cycle 0 3 = true) (hAr : ∀ i : Nat, i < s.world.objs.length → inR (ageAt s i) 0 2 = true)
    (htk : ∀ t ∈ s.world.tasks, ∃ i : Nat, t = i ∧ i < s.world.objs.length ∧ isTask (s.world.obj i) = true) {en : En} {cnt : Nat → Nat → Nat} {gk : Nat} {vA vM : Val} (e16 : en ⟨0, 16, gk⟩ = some (.box [.fz (s.world.objs.map MObj.enc), .fz (s.world.tasks.map (.int .i64)), .fz (s.world.outs.map MOut.enc), .fz (s.world.ins.map (.int .i64)), .int .i64 s.world.used, vA, vM, .int .i64 s.cycle] false)) (mA : MineO en vA 1 (s.ages.map (.int .i64)) 8) (mM : MineO en vM 1 (s.marks.map (.int .i64)) 11) (c6 : 1 ≤ cnt 0 6) (hA8 : ∀ g, vA = .bl ⟨0, 8, g⟩ 0 s.ages.length → g < cnt 0 8) :
    WIn L (.fn F.reap_collector_slice [] []) [.ptr ⟨0, 16, gk⟩ 0, .int .i64 most] en cnt fun v en' cnt' => en' ⟨0, 6, 0⟩ = en ⟨0, 6, 0⟩ ∧
      ((firstG (runS s.world most s.marks) < (runS s.world most s.marks).length ∧ v = .tup [.cl [], .bool false] ∧ en' ⟨0, 16, gk⟩ = some (.box [.fz (s.world.objs.map MObj.enc), .fz (s.world.tasks.map (.int .i64)), .fz (s.world.outs.map MOut.enc), .fz (s.world.ins.map (.int .i64)), .int .i64 s.world.used, vA, vM, .int .i64 s.cycle] false) ∧ MineO en' vA 1 (s.ages.map (.int .i64)) 8 ∧ MineO en' vM 1 ((runS s.world most s.marks).map (.int .i64)) 11) ∨
       (¬ firstG (runS s.world most s.marks) < (runS s.world most s.marks).length ∧ ∃ vg va g13, v = .tup [vg, .bool true] ∧ Mine en' vg 1 ((goneTo (runS s.world most s.marks) s.world.objs.length).map (.int .i64)) [103] ∧
         en' ⟨0, 16, gk⟩ = some (.box [.fz ((nextS s (runS s.world most s.marks)).world.objs.map MObj.enc), .fz ((nextS s (runS s.world most s.marks)).world.tasks.map (.int .i64)), .fz ((nextS s (runS s.world most s.marks)).world.outs.map MOut.enc), .fz ((nextS s (runS s.world most s.marks)).world.ins.map (.int .i64)), .int .i64 (nextS s (runS s.world most s.marks)).world.used, va, .bl ⟨0, 13, g13⟩ 0 (nextS s (runS s.world most s.marks)).world.objs.length, .int .i64 (nextS s (runS s.world most s.marks)).cycle] false) ∧
         Mine en' va 1 ((nextS s (runS s.world most s.marks)).ages.map (.int .i64)) [120] ∧ en' ⟨0, 13, g13⟩ = some (.blk 1 ((nextS s (runS s.world most s.marks)).marks.map (.int .i64)) false))) := by
  obtain ⟨b1, b2, b3, b4⟩ := smallW_len hsm
  have hml := hok.len
  obtain ⟨en0, hen0⟩ : ∃ e, e = en := ⟨_, rfl⟩
  obtain ⟨g2, hg2⟩ : ∃ g, g = cnt 0 2 := ⟨_, rfl⟩
  refine win_of LF.reap_collector_slice rfl rfl ?_
  simp only [go_sem, qC, qG, qW, C.reap_collector_slice, box_any (v := .ptr ⟨0, 16, gk⟩ 0) rfl rfl, ← hg2]
  refine Go.Abs.wp_mono (L := L) _ (Q := fun e st => e = .exit 0 ∧ SlE s most g2 gk vA vM en0 st) ?_ ?_
  · refine Go.Abs.wp_loop (fun (x : Nat × Nat × List Int) (st : Go.Abs.St) => ∃ fr en cnt, st = ⟨fr, en, cnt⟩ ∧ fr 1 = .int .i64 most ∧ fr 2 = .ptr ⟨0, 2, g2⟩ 0 ∧ en ⟨0, 2, g2⟩ = some (.box [.ptr ⟨0, 16, gk⟩ 0] false) ∧ fr 6 = .int .i64 (x.1 : Nat) ∧ fr 7 = .int .i64 (x.2.1 : Nat) ∧ en ⟨0, 16, gk⟩ = some (.box [.fz (s.world.objs.map MObj.enc), .fz (s.world.tasks.map (.int .i64)), .fz (s.world.outs.map MOut.enc), .fz (s.world.ins.map (.int .i64)), .int .i64 s.world.used, vA, vM, .int .i64 s.cycle] false) ∧ MineO en vA 1 (s.ages.map (.int .i64)) 8 ∧ (∀ g, vA = .bl ⟨0, 8, g⟩ 0 s.ages.length → g < cnt 0 8) ∧ MineO en vM 1 (x.2.2.map (.int .i64)) 11 ∧
        g2 + 1 ≤ cnt 0 2 ∧ 1 ≤ cnt 0 6 ∧ en ⟨0, 6, 0⟩ = en0 ⟨0, 6, 0⟩ ∧ MarksOk s.world x.2.2 ∧ x.1 ≤ x.2.2.length ∧ x.2.1 ≤ most ∧ (∀ i, i < x.1 → ¬ markN x.2.2 i = 1) ∧ runS s.world (most - x.2.1) x.2.2 = runS s.world most s.marks)
      (fun x => notBlack x.2.2 * (x.2.2.length + 1) + (x.2.2.length - x.1)) (0, 0, s.marks)
      ⟨_, _, _, rfl, by simp only [go_sem, qW], by simp only [go_sem, qW], by simp only [go_sem, qW], by simp only [go_sem, qW]; try rfl, by simp only [go_sem, qW]; try rfl, by simp only [go_sem, e16], mA.keep (fun g => by simp only [go_sem, qW]), by simp only [go_sem, qW]; exact hA8, mM.keep (fun g => by simp only [go_sem, qW]), by simp only [go_sem, qW]; try exact Nat.le_refl _, by simp only [go_sem, qW]; try exact c6, by simp only [go_sem, hen0], hok, Nat.zero_le _, Nat.zero_le _, fun i hi => by omega, rfl⟩ ?_
    clear e16 mA mM c6 hA8
    rintro ⟨n, lk, m⟩ st ⟨fr, en, cnt, rfl, h1, h2, e2, h6, h7, e16, mA, hA8, mM, c2, c6, q6, hm, hnl, hlk, hng, hrun⟩
    dsimp only at h6 h7 mM hm hnl hlk hng hrun ⊢
    have hlm : m.length = s.world.objs.length := hm.len
    have hlM := mM.mine.len
    rw [List.length_map] at hlM
    have hfl : Few m.length := by unfold Few; omega
    simp only [go_sem, qC, qG, qW, h1, h2, e2, h6, h7, e16, hlM]
    refine condK_split (fun g1 => ?_) (fun g1 => ?_)
    · have hn : n < m.length := of_decide_eq_true g1
      rcases mM with ⟨_, hx⟩ | ⟨gM, rfl, eb⟩
      · have : m.length = 0 := by rw [← List.length_map (f := Val.int .i64), hx]; rfl
        omega
      rw [List.length_map] at e16 hlM
      have hc1 : (0 : Int) ≤ (n : Int) := by omega
      have hc2 : (n : Int) < (m.length : Int) := by omega
      have hgn := ints_get hn
      simp only [go_sem, qC, qG, qW, h1, h2, e2, h6, h7, e16, hlM, eb, hgn, hc1, hc2, true_and, and_true, eq_self, if_true, Nat.zero_add, Int.toNat_natCast, List.length_map, Nat.le_refl]
      refine condK_split (fun g3 => ?_) (fun g3 => ?_)
      · have hne : ¬ markN m n = 1 := by simpa using g3
        simp only [go_sem, qC, qG, qW, h1, h2, e2, h6, h7, e16]
        refine ⟨(n + 1, lk, m), ⟨_, _, _, rfl, by simp only [go_sem, h1], by simp only [go_sem, h2], by simp only [go_sem, e2], by simp only [go_sem, wrap_succ hn hfl], by simp only [go_sem, h7], by simp only [go_sem, e16], mA, hA8, mineO_bl eb (by simp), c2, c6, q6, hm, by dsimp only; omega, hlk, fun i hi => ?_, hrun⟩, ?_⟩
        · by_cases hin' : i < n
          · exact hng i hin'
          · have : i = n := by dsimp only at hi; omega
            subst this; exact hne
        · dsimp only; omega
      · have h1n : markN m n = 1 := by simpa using g3
        have hfg : firstG m = n := firstG_eq hn h1n hng
        simp only [go_sem, qC, qG, qW, h1, h2, e2, h6, h7, e16]
        refine condK_split (fun g4 => ?_) (fun g4 => ?_)
        · have hl : lk = most := by simp at g4; omega
          subst hl
          rw [Nat.sub_self] at hrun
          have hrun' : m = runS s.world lk s.marks := hrun
          simp only [go_sem, qC, qG, qW]
          exact ⟨_, _, _, n, rfl, by simp only [go_sem, h2], by simp only [go_sem, e2], by simp only [go_sem, h6], by simp only [go_sem, e16], mA, by rw [← hrun']; exact mineO_bl eb (by simp), c6, q6, by rw [← hrun', hfg]⟩
        · have hl : lk < most := by simp at g4; omega
          obtain ⟨g8, hg8⟩ : ∃ g, g = cnt 0 8 := ⟨_, rfl⟩
          have hnw : n < s.world.objs.length := by omega
          have hso := smallW_obj hsm _ (List.getElem_mem hnw)
          have hst : (m.map (Val.int .i64)).set n (.int .i64 2) = (lookM m n []).map (.int .i64) := by rw [ints_set, lookM_nil hn]
          have hfm : Few most := by unfold Few; omega
          have hon : s.world.obj n = s.world.objs[n] := objAt_get hnw
          simp only [go_sem, qC, qG, qW, h1, h2, e2, h6, h7, e16, hlM, eb, hgn, hst, hc1, hc2, hnw, true_and, and_true, eq_self, if_true, Nat.zero_add, Int.toNat_natCast, List.length_map, Nat.le_refl, wrap_succ hl hfm, wrap_succ hn hfl, ← hg8, (reap_refs_pc _).ret]
          refine wp_range (f := F.reap_refs_c1) (x := []) (y := [.fp [.int .i64 s.world.objs[n].form, .int .i64 s.world.objs[n].n, .fz (s.world.objs[n].vals.map MVal.enc), .fz (s.world.objs[n].frames.map MFrame.enc)] 0]) (by simp only [go_sem, qW]) ?_
          intro fr0 key hfr0 hkey
          have r1 : fr0 1 = .int .i64 most := by rw [hfr0]; simp only [go_sem, qW, h1]
          have r2 : fr0 2 = .ptr ⟨0, 2, g2⟩ 0 := by rw [hfr0]; simp only [go_sem, qW, h2]
          have r7 : fr0 7 = .int .i64 (lk + 1 : Nat) := by rw [hfr0]; simp only [go_sem, qW]
          have r8 : fr0 8 = .ptr ⟨0, 8, g8⟩ 0 := by rw [hfr0]; simp only [go_sem, qW]
          obtain ⟨gl, rfl⟩ : ∃ gl, key = ⟨1, 0, gl⟩ := ⟨_, hkey⟩
          obtain ⟨c0, hc0⟩ : ∃ c0, c0 = setCnt (setCnt cnt 0 8 (g8 + 1)) 1 0 (cnt 1 0 + 1) 0 := ⟨_, rfl⟩
          have hcc2 : g2 + 1 ≤ c0 2 := by rw [hc0]; simpa [setCnt] using c2
          have hcc6 : 1 ≤ c0 6 := by rw [hc0]; simpa [setCnt] using c6
          have hinm : ∀ x ∈ refsOf s.world.objs[n], inR x 0 ((m.length : Int) - 1) = true := by rw [hlm]; exact hin _ (List.getElem_mem hnw)
          have hA8' : ∀ g, vA = .bl ⟨0, 8, g⟩ 0 s.ages.length → g < g8 := by rw [hg8]; exact hA8
          have hr := look_rounds s m n g2 g8 gM gk vA (refsOf s.world.objs[n]) en0 (fr0 := fr0) (gl := gl) (c0 := c0) hn (by omega) r2 r8 hA8' hinm hcc2 hcc6
          rw [hc0] at hr
          refine (refs_win s.world.objs[n] (small_few hso) hr ⟨by simp only [go_sem, qW], by simp only [go_sem, e2], by simp only [go_sem, e16], ?_, by simpa [setCnt] using c2, by simpa [setCnt] using c6, by simp [setCnt], by simp only [go_sem, q6], [], rfl, by simp only [go_sem, qW], n + 1, by simp only [go_sem, qW], Nat.le_refl _, fun i hi => ?_⟩).mono ?_
          · rcases mA with h | ⟨g, hv, he⟩
            · exact .inl h
            · have hlt := hA8' g (by rw [hv, List.length_map])
              exact .inr ⟨g, hv, by simp only [go_sem, Nat.ne_of_lt hlt, he]⟩
          · by_cases hil : i < m.length
            · rw [lookM_at hil]
              by_cases hin' : i = n
              · rw [if_pos hin']; decide
              · rw [if_neg hin', if_neg (by simp [memB])]
                exact hng i (by omega)
            · rw [markN_out (by rw [lookM_len]; omega)]; decide
          · rintro v en' cnt' (⟨i1, j2, j16, mA', hg2', hg6', hg8', e6', done, hd, j11, nx, j8, hnx, hgr⟩ | hF)
            · rw [List.append_nil] at hd
              subst hd
              have hla : lookM m n (refsOf s.world.objs[n]) = lookedAt s.world m n := by rw [lookedAt, hon]
              rw [hla] at j11 hgr
              have hll : (lookedAt s.world m n).length = m.length := by rw [lookedAt, lookM_len]
              have hnb := notBlack_look (seen := refsOf (s.world.obj n)) hn h1n
              rw [← lookedAt] at hnb
              simp only [go_sem, qC, qG, qW, i1, j2, j16, j8, r1, r2, r7, r8, h1, h2]
              refine ⟨(nx, lk + 1, lookedAt s.world m n), ⟨_, _, _, rfl, by simp only [go_sem, r1, h1], by simp only [go_sem, r2, h2], by simp only [go_sem, j2], by simp only [go_sem, qW], by simp only [go_sem, r7], by simp only [go_sem, j16], mA'.keep (fun g => en_ne (by intro h; injection h with h1 _ _; omega)), fun g hv => by have := hA8' g hv; omega, ?_, hg2', hg6', by simp only [go_sem, e6'], marks_look hin hm n, by dsimp only; omega, by dsimp only; omega, hgr, ?_⟩, ?_⟩
              · exact mineO_bl (by simp only [go_sem, j11]) (by simp [hll])
              · dsimp only
                have e1 : most - lk = (most - (lk + 1)) + 1 := by omega
                rw [e1, runS, hfg, if_pos hn] at hrun
                exact hrun
              · dsimp only
                rw [hll]
                have h3 := mul_less (c := m.length + 1) (d := m.length - nx) hnb (by omega)
                omega
            · exact hF.elim
    · have hn : n = m.length := by simp at g1; omega
      have hnone : firstG m = m.length := firstG_none (by rw [← hn]; exact hng)
      rw [runS_none (by omega)] at hrun
      simp only [go_sem, qC, qG, qW]
      exact ⟨_, _, _, n, rfl, by simp only [go_sem, h2], by simp only [go_sem, e2], by simp only [go_sem, h6], by simp only [go_sem, e16], mA, by rw [← hrun]; exact mM, c6, q6, by rw [← hrun, hnone, hn]⟩
  · rintro e st ⟨rfl, fr, en, cnt, n, rfl, h2, e2, h6, e16, mA, mM, c6, q6, hdec⟩
    obtain ⟨M, hM⟩ : ∃ M, M = runS s.world most s.marks := ⟨_, rfl⟩
    rw [← hM] at mM hdec ⊢
    have hMok : MarksOk s.world M := by rw [hM]; exact marks_run hin most hok
    have hMl : M.length = s.world.objs.length := hMok.len
    have hlM := mM.mine.len
    rw [List.length_map] at hlM
    simp only [go_sem, qC, qG, qW, h2, e2, h6, e16, hlM, hdec]
    refine condK_split (fun g1 => ?_) (fun g1 => ?_)
    · have hfg : firstG M < M.length := of_decide_eq_true g1
      simp only [go_sem, qC, qG, qW, h2, e2, h6, e16]
      exact ⟨by rw [q6, hen0], .inl ⟨hfg, mA, mM⟩⟩
    · have hfg : ¬ firstG M < M.length := of_decide_eq_false g1
      simp only [go_sem, qC, qG, qW, h2, e2, h6, e16, hlM]
      refine wp_for M.length (fun k st => ∃ fr en cnt vg vk va, st = ⟨fr, en, cnt⟩ ∧ fr 2 = .ptr ⟨0, 2, g2⟩ 0 ∧ en ⟨0, 2, g2⟩ = some (.box [.ptr ⟨0, 16, gk⟩ 0] false) ∧ en ⟨0, 16, gk⟩ = some (.box [.fz (s.world.objs.map MObj.enc), .fz (s.world.tasks.map (.int .i64)), .fz (s.world.outs.map MOut.enc), .fz (s.world.ins.map (.int .i64)), .int .i64 s.world.used, vA, vM, .int .i64 s.cycle] false) ∧ MineO en vA 1 (s.ages.map (.int .i64)) 8 ∧ MineO en vM 1 (M.map (.int .i64)) 11 ∧ 1 ≤ cnt 0 6 ∧ en ⟨0, 6, 0⟩ = en0 ⟨0, 6, 0⟩ ∧ fr 10 = vg ∧ fr 11 = vk ∧ fr 12 = va ∧ fr 91 = vM ∧ fr 92 = .int .i64 M.length ∧ fr 93 = .int .i64 k ∧
        Mine en vg 1 ((goneTo M k).map (.int .i64)) [103] ∧ Mine en vk 1 ((keepTo M k).map (.int .i64)) [107] ∧ Mine en va 1 ((agesTo s M k).map (.int .i64)) [120]) 0 (Nat.zero_le _)
        ⟨_, _, _, .cl [], .cl [], .cl [], rfl, by simp only [go_sem, h2], by simp only [go_sem, e2], by simp only [go_sem, e16], mA, mM, c6, q6, by simp only [go_sem, qW], by simp only [go_sem, qW], by simp only [go_sem, qW], by simp only [go_sem, qW], by simp only [go_sem, qW], by simp only [go_sem, qW], Mine.nil _ _, Mine.nil _ _, Mine.nil _ _⟩ ?_
      clear h2 e2 h6 e16 mA mM c6 q6 hdec
      rintro k st hk ⟨fr, en, cnt, vg, vk, va, rfl, h2, e2, e16, mA, mM, c6, q6, h10, h11, h12, h91, h92, h93, mg, mk, ma⟩
      simp only [go_sem, qC, qG, qW, h2, e2, e16, h10, h11, h12, h91, h92, h93]
      refine condK_split (fun hq => ?_) (fun hq => ?_)
      · have h' : k < M.length := of_decide_eq_true hq
        have h'w : k < s.world.objs.length := by omega
        have hka : k < s.ages.length := by omega
        have har := hAr k h'w
        simp only [inR, decide_eq_true_eq, ageAt_get hka] at har
        have hwa : IntKind.i64.wrap (s.ages[k] + 1) = s.ages[k] + 1 := wrap_in (by omega)
        have hgk := ints_get h'
        have hga : (s.ages.map (Val.int .i64))[k]? = some (.int .i64 s.ages[k]) := by simp [hka]
        have hfM : Few M.length := by unfold Few; omega
        have hc1 : (0 : Int) ≤ (k : Int) := by omega
        have hc2 : (k : Int) < (M.length : Int) := by omega
        have hc3 : (k : Int) < (s.ages.length : Int) := by omega
        rcases mM with ⟨_, hx⟩ | ⟨gM, rfl, eb⟩
        · have : M.length = 0 := by rw [← List.length_map (f := Val.int .i64), hx]; rfl
          omega
        rcases mA with ⟨_, hx⟩ | ⟨ga, rfl, ea⟩
        · have : s.ages.length = 0 := by rw [← List.length_map (f := Val.int .i64), hx]; rfl
          omega
        rw [List.length_map] at h91
        simp only [List.length_map] at e16
        simp only [go_sem, qC, qG, qW, h2, e2, e16, h10, h11, h12, h91, h92, h93, eb, hgk, hc1, hc2, true_and, and_true, eq_self, if_true, Nat.zero_add, Int.toNat_natCast, List.length_map, Nat.le_refl]
        refine condK_split (fun g2' => ?_) (fun g2' => ?_)
        · have hm0 : markN M k = 0 := of_decide_eq_true g2'
          simp only [go_sem, qC, qG, qW, h2, e2, e16, h10, h11, h12, h91, h92, h93]
          refine w_append (D := [103]) (xs := (goneTo M k).map (.int .i64)) (ys := [.int .i64 k]) (rs := []) ?_ ?_ ?_ ?_ ?_
          · simp only [go_sem, qW]; exact mg
          · simp only [go_sem, qW]
          · rfl
          · have := gone_len M k; simp; omega
          · intro v' en' cnt' hown hen hcnt
            have k2 : en' ⟨0, 2, g2⟩ = some (.box [.ptr ⟨0, 16, gk⟩ 0] false) := by rw [hen 0 2 g2 (.inr ⟨by decide, by simp⟩)]; exact e2
            have k16 := (hen 0 16 gk (.inr ⟨by decide, by simp⟩)).trans e16
            have kb := (hen 0 11 gM (.inr ⟨by decide, by simp⟩)).trans eb
            have ka := (hen 0 8 ga (.inr ⟨by decide, by simp⟩)).trans ea
            simp only [go_sem, qC, qG, qW, h2, h11, h12, h91, h92, h93]
            refine ⟨h', _, _, _, v', vk, va, rfl, ?_⟩
            simp only [go_sem, qC, qG, qW, h2, k2, h11, h12, h91, h92, h93, wrap_succ h' hfM]
            refine ⟨k16, mineO_bl ka (by simp), mineO_bl kb (by simp), by rw [hcnt 0 6 (by decide)]; exact c6, (hen 0 6 0 (.inr ⟨by decide, by simp⟩)).trans q6, ?_, ?_, ?_⟩
            · rw [gone_t hm0, List.map_append]
              exact Mine.sub (D := [103, 103]) hown (by simp)
            · rw [keep_f hm0]
              exact mk.keep fun t g ht => by rw [hen 0 t g (.inr (by simp at ht; subst ht; decide))]
            · rw [ages_f hm0]
              exact ma.keep fun t g ht => by rw [hen 0 t g (.inr (by simp at ht; subst ht; decide))]
        · have hm0 : ¬ markN M k = 0 := of_decide_eq_false g2'
          simp only [go_sem, qC, qG, qW, h2, e2, e16, h10, h11, h12, h91, h92, h93]
          refine wp_foot ?_
          simp only [go_sem, qC, qG, qW, h2, e2, e16, h10, h11, h12, h91, h92, h93, List.all_cons, List.getElem?_cons_zero, List.getElem?_cons_succ, Bool.true_or, Bool.or_true, Bool.false_eq_true, if_false]
          refine wf_append (D := [107]) (xs := (keepTo M k).map (.int .i64)) (ys := [.int .i64 k]) (rs := []) ?_ ?_ ?_ rfl ?_ ?_
          · simp only [go_sem, qW]; exact mk
          · simp only [go_sem, qW]
          · rfl
          · have := keepTo_len M k; simp; omega
          · intro v1 en1 cnt1 r1 own1 hen1 hcnt1 hw1 hr1 hm1
            have k2 : en1 ⟨0, 2, g2⟩ = some (.box [.ptr ⟨0, 16, gk⟩ 0] false) := by rw [hen1 0 2 g2 (.inr ⟨by decide, by simp⟩)]; exact e2
            have k16 := (hen1 0 16 gk (.inr ⟨by decide, by simp⟩)).trans e16
            have kb := (hen1 0 11 gM (.inr ⟨by decide, by simp⟩)).trans eb
            have ka := (hen1 0 8 ga (.inr ⟨by decide, by simp⟩)).trans ea
            simp only [go_sem, qC, qG, qW, h2, k2, k16, ka, h10, h12, h91, h92, h93, hga, hc1, hc3, hwa, true_and, and_true, eq_self, if_true, Nat.zero_add, Int.toNat_natCast, List.length_map, Nat.le_refl, List.all_cons, List.getElem?_cons_zero, List.getElem?_cons_succ, Bool.true_or, Bool.or_true, Bool.false_eq_true, if_false]
            refine wf_append (D := [120]) (xs := (agesTo s M k).map (.int .i64)) (ys := [.int .i64 (min (s.ages[k] + 1) 2)]) (rs := []) ?_ ?_ ?_ rfl ?_ ?_
            · simp only [go_sem, qW]; exact ma.keep fun t g ht => by rw [hen1 0 t g (.inr (by simp at ht; subst ht; decide))]
            · simp only [go_sem, qW]
            · rfl
            · have := keepTo_len M k; have := agesTo_len s M k; simp; omega
            · intro v2 en2 cnt2 r2 own2 hen2 hcnt2 hw2 hr2 hm2
              have j2 := (hen2 0 2 g2 (.inr ⟨by decide, by simp⟩)).trans k2
              have j16 := (hen2 0 16 gk (.inr ⟨by decide, by simp⟩)).trans k16
              have jb := (hen2 0 11 gM (.inr ⟨by decide, by simp⟩)).trans kb
              have ja := (hen2 0 8 ga (.inr ⟨by decide, by simp⟩)).trans ka
              have p1 := fun o n => apart_own hw1 (t' := 2) (g' := g2) ⟨by decide, by decide⟩ o n
              have p2 := fun o n => apart_own hw1 (t' := 16) (g' := gk) ⟨by decide, by decide⟩ o n
              have p3 := apart_ownV hw1 (t' := 8) (g' := ga) ⟨by decide, by decide⟩
              simp only [go_sem, qC, qG, qW, h2, j2, h10, h91, h92, h93, p1, p2, p3, hm1, hm2, all_tt, List.all_cons, List.getElem?_cons_zero, List.getElem?_cons_succ, Bool.true_or, Bool.or_true, Bool.false_eq_true, if_false]
              refine ⟨h', _, _, _, vg, v1, v2, rfl, ?_⟩
              simp only [go_sem, qC, qG, qW, h2, j2, h10, h91, h92, h93, wrap_succ h' hfM]
              refine ⟨j16, mineO_bl ja (by simp), mineO_bl jb (by simp), by rw [hcnt2 0 6 (by decide), hcnt1 0 6 (by decide)]; exact c6, (hen2 0 6 0 (.inr ⟨by decide, by simp⟩)).trans ((hen1 0 6 0 (.inr ⟨by decide, by simp⟩)).trans q6), ?_, ?_, ?_⟩
              · rw [gone_f hm0]
                exact mg.keep fun t g ht => by rw [hen2 0 t g (.inr (by simp at ht; subst ht; decide)), hen1 0 t g (.inr (by simp at ht; subst ht; decide))]
              · rw [keep_t hm0, List.map_append]
                refine Mine.sub (D := [107, 107]) (own1.keep fun t g ht => ?_) (by simp)
                rw [hen2 0 t g (.inr (by simp at ht; subst ht; decide))]
              · rw [ages_t hm0, ageAt_get hka, List.map_append]
                exact Mine.sub (D := [120, 120]) own2 (by simp)
      · have : k = M.length := by simp at hq; omega
        subst this
        rw [hMl] at mg mk ma
        simp only [go_sem, qC, qG, qW, h2, e2, e16, h10, h11, h12, h91, h92, h93]
        obtain ⟨hsh1, hsh2⟩ := shut_marks hMok hin hfg
        have hkl := hsh1.len
        have hal := reap_alone_pc s.world (keepTo M s.world.objs.length) hs.1 hsm (by omega) hsh1.rise hsh1.rng hsh1.refs (fun t ht => hsh2 t (htk t ht))
        have hkf : Few (keepTo M s.world.objs.length).length := by unfold Few; omega
        have hcf := compact_few hs.1 hsm hkf hsh1.rng
        have hcs := small_compact hsm hsh1
        have hci := compact_in hsh1
        have hcy' := hcy
        simp only [inR, decide_eq_true_eq] at hcy'
        have hwc : IntKind.i64.wrap (s.cycle + 1) = s.cycle + 1 := wrap_in (by omega)
        have hsv := ma.shape
        refine wp_foot ?_
        rcases mk with ⟨rfl, mkx⟩ | ⟨t1, gx, f1, rfl, ek, tk⟩
        · rw [mkx] at hal
          simp only [go_sem, qC, qG, qW, h2, e2, e16, h10, h11, h12, hwc, hal.ret, hsv.1, hsv.2, List.all_cons, List.getElem?_cons_zero, List.getElem?_cons_succ, Bool.true_or, Bool.or_true, Bool.false_eq_true, if_false]
          refine (begin_win (compactW s.world (keepTo M s.world.objs.length)) (agesTo s M s.world.objs.length) ((s.cycle + 1).tmod 4) hcf hcs (by rw [agesTo_len]; simp [compactW]) (ages_in hAr) hci (gk := gk) (vA := va) (vM := vM) (by simp only [go_sem, qW]) (ma.keep fun t g ht => by simp at ht; subst ht; simp only [go_sem, qW]) c6).mono ?_
          rintro v en' cnt' ⟨g13, x16, xA, x13, x6, x103⟩
          try simp only [go_sem, qC, qG, qW, h10]
          refine ⟨by rw [x6]; simp only [go_sem, qW, q6, hen0], .inr ⟨hfg, vg, va, g13, rfl, mg.keep fun t g ht => ?_, x16, xA, x13⟩⟩
          simp at ht; subst ht
          rw [x103]; simp only [go_sem, qW]
        · have : t1 = 107 := by simpa using tk
          subst this
          simp only [go_sem, qC, qG, qW, h2, e2, e16, h10, h11, h12, hwc, hal.ret, hsv.1, hsv.2, ek, List.length_map, Nat.le_refl, if_true, take_map_len, List.all_cons, List.getElem?_cons_zero, List.getElem?_cons_succ, Bool.true_or, Bool.or_true, Bool.false_eq_true, if_false]
          refine (begin_win (compactW s.world (keepTo M s.world.objs.length)) (agesTo s M s.world.objs.length) ((s.cycle + 1).tmod 4) hcf hcs (by rw [agesTo_len]; simp [compactW]) (ages_in hAr) hci (gk := gk) (vA := va) (vM := vM) (by simp only [go_sem, qW]) (ma.keep fun t g ht => by simp at ht; subst ht; simp only [go_sem, qW]) c6).mono ?_
          rintro v en' cnt' ⟨g13, x16, xA, x13, x6, x103⟩
          try simp only [go_sem, qC, qG, qW, h10]
          refine ⟨by rw [x6]; simp only [go_sem, qW, q6, hen0], .inr ⟨hfg, vg, va, g13, rfl, mg.keep fun t g ht => ?_, x16, xA, x13⟩⟩
          simp at ht; subst ht
          rw [x103]; simp only [go_sem, qW]
end Go.Proofs.YthpmfghgoabnhaaGreat
