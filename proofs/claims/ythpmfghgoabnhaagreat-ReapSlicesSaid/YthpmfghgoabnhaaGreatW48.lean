/- States after slices, and the law of slices, as a contract. -/
import Derived.Test.YthpmfghgoabnhaaGreatW47
set_option linter.all false
namespace Go.Proofs.YthpmfghgoabnhaaGreat
open Go.Abs Go.Proofs
theorem mine_snapB {en : En} {v : Val} {size t : Nat} {xs : List Val} (h : Mine en v size xs [t]) (n : Nat) : ∃ r ks, r.wk0 = .fz xs ∧ r.wk1 = .fz xs ∧ ∀ en' : En, (∀ g, en' ⟨0, t, g⟩ = en ⟨0, t, g⟩) → snapD (n + 1) en' v = some (r, ks) := by
  rcases h with ⟨rfl, rfl⟩ | ⟨t', g, f, rfl, h2, ht⟩
  · exact ⟨.cl [], [], rfl, rfl, fun _ _ => rfl⟩
  · have : t' = t := by simpa using ht
    subst this
    exact ⟨.fz xs, [⟨0, t', g⟩], rfl, rfl, fun en' he => by simp [snapD, he, h2]⟩
theorem proper_pc (n : Int) : PC L F.reap_proper [.int .i64 n] (.bool (inR n 1 200)) := by
  have e : inR n 1 200 = (decide (1 ≤ n) && decide (n ≤ 200)) := by simp [inR]
  rw [e]
  refine pc_of LF.reap_proper rfl rfl ?_
  simp only [go_sem, qC, qG, qW, C.reap_proper]
  refine guardK_split (fun g => ?_) (fun g => ?_) <;> simp only [go_sem, qC, qG, qW, g, Bool.true_and, Bool.false_and, Bool.not_true]
theorem Most_pc (n : Int) : PC L F.R18_Most [.int .i64 n] (.bool (inR n 1 200)) := by
  refine pc_of LF.R18_Most rfl rfl ?_
  simp only [go_sem, qC, qG, qW, C.R18_Most, (R18_in_pc' _ _ _).ret]
theorem mark_nat (s : RState) (i : Nat) : markAt s i = markN s.marks i := by simp [markAt, markN]
theorem state_marks {p : BProg} {s : RState} (h : stateOk p s = true) : MarksOk s.world s.marks ∧ s.ages.length = s.world.objs.length ∧ inR s.cycle 0 3 = true ∧ (∀ i : Nat, i < s.world.objs.length → inR (ageAt s i) 0 2 = true) ∧ given p s.world = true := by
  simp only [stateOk, lensOk, rowsOk, Bool.and_eq_true, decide_eq_true_eq, List.all_eq_true] at h
  obtain ⟨⟨hg, ⟨h1, h2⟩, h3⟩, h4⟩ := h
  have row := fun (i : Nat) (hi : i < s.world.objs.length) => h4 i (by simpa using hi)
  refine ⟨⟨h2, fun i hi => ?_, fun i hi ht h0 => ?_, fun i hi hb x hx h0 => ?_⟩, h1, h3, fun i hi => ?_, hg⟩
  · have := (row i (by omega)).1
    simp only [rangeOk, Bool.and_eq_true] at this
    have := this.2
    rw [mark_nat] at this
    simp only [inR, decide_eq_true_eq] at this
    omega
  · have := (row i hi).2
    simp only [rowOk, whiteBad, Bool.and_eq_true, Bool.not_eq_true', mark_nat, h0, ht] at this
    simp at this
  · have := (row i hi).2
    simp only [rowOk, Bool.and_eq_true, List.all_eq_true] at this
    have := this.2 x ((refs_mem _ _).2 hx)
    have h0' : markAt s x = 0 := by unfold markAt; unfold markN at h0; exact h0
    simp only [refBad, mark_nat, hb, h0', decide_true, Bool.and_self, Bool.not_true] at this
    cases this
  · have := (row i hi).1
    simp only [rangeOk, Bool.and_eq_true] at this
    exact this.1
theorem reap_Slice_pc (p : BProg) (s : RState) (most : Int) (hp : p.few) (hs : s.few) (hsp : smallProg p = true) (hss : smallState s = true) :
    PC L F.reap_Slice [.agg [.fz (p.nodes.map BNode.enc), .fz (p.funs.map (.int .i64)), .int .i64 p.main, .fz (p.cons.map BCon.enc)], .agg [.fz (s.world.objs.map MObj.enc), .fz (s.world.tasks.map (.int .i64)), .fz (s.world.outs.map MOut.enc), .fz (s.world.ins.map (.int .i64)), .int .i64 s.world.used, .fz (s.ages.map (.int .i64)), .fz (s.marks.map (.int .i64)), .int .i64 s.cycle], .int .i64 most] (if stateOk p s = true ∧ inR most 1 200 = true then .tup [.agg [.fz ((sliceS s most.toNat).world.objs.map MObj.enc), .fz ((sliceS s most.toNat).world.tasks.map (.int .i64)), .fz ((sliceS s most.toNat).world.outs.map MOut.enc), .fz ((sliceS s most.toNat).world.ins.map (.int .i64)), .int .i64 (sliceS s most.toNat).world.used, .fz ((sliceS s most.toNat).ages.map (.int .i64)), .fz ((sliceS s most.toNat).marks.map (.int .i64)), .int .i64 (sliceS s most.toNat).cycle], .fz ((sliceG s most.toNat).map (.int .i64)), .bool (sliceE s most.toNat), .int .i64 0]
      else .tup [.agg [.fz [], .fz [], .fz [], .fz [], .int .i64 0, .fz [], .fz [], .int .i64 0], .fz [], .bool false, .int .i64 2]) := by
  have hsw1 : smallWorld s.world = true := by
    simp only [smallState, Bool.and_eq_true] at hss
    exact hss.1.1
  have hck := reap_Check_pc p s hp hs hsp hsw1
  refine pc_of LF.reap_Slice rfl rfl ?_
  by_cases h1 : stateOk p s = true
  · rw [if_pos h1] at hck
    obtain ⟨hok, hA, hcy, hAr, hg⟩ := state_marks h1
    have hin : InRange s.world := fun o ho x hx => given_in hg o ho x ((refs_mem _ _).2 hx)
    by_cases h2 : inR most 1 200 = true
    · rw [if_pos ⟨h1, h2⟩]
      have hpr := proper_pc most
      rw [h2] at hpr
      simp only [inR, decide_eq_true_eq] at h2
      obtain ⟨k, rfl⟩ := Int.eq_ofNat_of_zero_le (show 0 ≤ most by omega)
      simp only [go_sem, qC, qG, qW, C.reap_Slice, hck.ret, hpr.ret]
      refine (own_win2 s hs hss).mono ?_
      rintro v en1 cnt1 ⟨g16, vA, vM, rfl, e16, mA, mM, hfr, hcn, hA8⟩
      have q6 := hfr 6 0 (by decide) (by decide) (by decide) (by decide)
      have c6 : 1 ≤ cnt1 0 6 := by rw [hcn 6 (by decide) (by decide) (by decide) (by decide)]; simp only [go_sem, qW]; try exact Nat.le_refl _
      have q6' : en1 ⟨0, 6, 0⟩ = some (.box [.cl [], .cl [], .cl [], .cl [], .int .i64 0, .cl [], .cl [], .int .i64 0] false) := by rw [q6]; simp only [go_sem, qW]
      try simp only [go_sem, qC, qG, qW]
      refine (slice_win s k hs hsw1 hin hok hA (by omega) hcy hAr (given_tasks hg).1 e16 mA mM c6 hA8).mono ?_
      rintro v en2 cnt2 ⟨x6, (⟨hfg, rfl, x16, xA, xM⟩ | ⟨hfg, vg, va, g13, rfl, xg, x16, xA, x13⟩)⟩
      · have y6 := x6.trans q6'
        have hS : sliceS s k = ⟨s.world, s.ages, runS s.world k s.marks, s.cycle⟩ := by rw [sliceS, if_pos hfg]
        have hG : sliceG s k = [] := by rw [sliceG, if_pos hfg]
        have hE : sliceE s k = false := by rw [sliceE, decide_eq_true hfg]; rfl
        rw [Int.toNat_natCast, hS, hG, hE]
        obtain ⟨r1, k1, a1, a2, a3⟩ := mine_snapB xA.mine 5
        obtain ⟨r2, k2, d1, d2, d3⟩ := mine_snapB xM.mine 5
        simp only [go_sem, qC, qG, qW, x16, y6, a1, a2, a3, d1, d2, d3, implies_true]
      · have y6 := x6.trans q6'
        have hS : sliceS s k = nextS s (runS s.world k s.marks) := by rw [sliceS, if_neg hfg]
        have hG : sliceG s k = goneTo (runS s.world k s.marks) s.world.objs.length := by rw [sliceG, if_neg hfg]
        have hE : sliceE s k = true := by rw [sliceE, decide_eq_false hfg]; rfl
        rw [Int.toNat_natCast, hS, hG, hE]
        obtain ⟨r1, k1, a1, a2, a3⟩ := mine_snapB xA 5
        obtain ⟨r2, k2, d1, d2, d3⟩ := mine_snapB xg 6
        have hlm : (nextS s (runS s.world k s.marks)).marks.length = (nextS s (runS s.world k s.marks)).world.objs.length := by simp [nextS, marksB]
        have htk : ((nextS s (runS s.world k s.marks)).marks.map (Val.int .i64)).take (nextS s (runS s.world k s.marks)).world.objs.length = (nextS s (runS s.world k s.marks)).marks.map (.int .i64) := List.take_of_length_le (by simp [hlm])
        simp only [go_sem, qC, qG, qW, x16, y6, x13, a1, a2, a3, d1, d2, d3, implies_true, hlm, htk, List.length_map, Nat.le_refl, if_true]
    · rw [if_neg (fun h => h2 h.2)]
      have hpr := proper_pc most
      rw [Bool.not_eq_true] at h2
      rw [h2] at hpr
      simp only [go_sem, qC, qG, qW, C.reap_Slice, hck.ret, hpr.ret]
  · rw [if_neg h1] at hck
    rw [if_neg (fun h => h1 h.1)]
    simp only [go_sem, qC, qG, qW, C.reap_Slice, hck.ret]
theorem bin_eqb2 {x : Bool} : (x == x) = true := beq_self_eq_true x
theorem next_few {s : RState} {m : List Int} (hs : s.few) (hsm : smallWorld s.world = true) (h : Shut s.world (keepTo m s.world.objs.length)) : (nextS s m).few := by
  have hl := h.len
  have h1 := hs.1.objs
  have hkf : Few (keepTo m s.world.objs.length).length := by unfold Few at *; omega
  refine ⟨compact_few hs.1 hsm hkf h.rng, ?_, ?_⟩
  · simp only [nextS, agesTo_len]; exact hkf
  · simpa [nextS, marksB, compactW] using hkf
theorem slice_few {s : RState} {most : Nat} (hs : s.few) (hsm : smallWorld s.world = true) (hin : InRange s.world) (hok : MarksOk s.world s.marks) : (sliceS s most).few := by
  unfold sliceS
  split
  · refine ⟨hs.1, hs.2.1, ?_⟩
    have := hok.len
    have h1 := hs.1.objs
    simp only [runS_len]
    unfold Few at *; omega
  · rename_i hfg
    exact next_few hs hsm (shut_marks (marks_run hin most hok) hin hfg).1
theorem sliceG_few {s : RState} {most : Nat} (hs : s.few) : Few (sliceG s most).length := by
  have h1 := hs.1.objs
  unfold sliceG; split
  · unfold Few at *; simp
  · have := gone_len (runS s.world most s.marks) s.world.objs.length
    unfold Few at *; omega
theorem blankS_pc : PC L F.W18_blank [.agg [.fz [], .fz [], .fz [], .fz [], .int .i64 0, .fz [], .fz [], .int .i64 0]] (.bool true) := by
  have hf0 : Few 0 := by unfold Few; omega
  have := W18_blank_pc blankS ⟨⟨hf0, hf0, hf0, hf0, by intro o ho; cases ho⟩, hf0, hf0⟩
  simp only [decide_true] at this
  exact this
theorem W18_ReapSlices_pc (hk : PC L F.W18_known [] (.bool true)) (p : BProg) (s : RState) (most : Int) (hp : p.few) (hs : s.few) : PC L F.W18_ReapSlices [.agg [.fz (p.nodes.map BNode.enc), .fz (p.funs.map (.int .i64)), .int .i64 p.main, .fz (p.cons.map BCon.enc)], .agg [.fz (s.world.objs.map MObj.enc), .fz (s.world.tasks.map (.int .i64)), .fz (s.world.outs.map MOut.enc), .fz (s.world.ins.map (.int .i64)), .int .i64 s.world.used, .fz (s.ages.map (.int .i64)), .fz (s.marks.map (.int .i64)), .int .i64 s.cycle], .int .i64 most] (.bool true) := by
  refine pc_of LF.W18_ReapSlices rfl rfl ?_
  simp only [go_sem, qC, qG, qW, C.W18_ReapSlices, (R05_SmallProg_pc p hp).ret]
  refine guardK_split (fun g1 => ?_) (fun g1 => ?_)
  · simp only [go_sem, qC, qG, qW, g1, (R18_SmallState_pc s hs).ret]
    refine condK_split (fun g2 => ?_) (fun g2 => ?_)
    · simp only [go_sem, qC, qG, qW, hk.ret]
    · have hsp : smallProg p = true := by rw [Bool.not_eq_false'] at g1; exact g1
      have hss : smallState s = true := by rw [Bool.not_eq_false'] at g2; exact g2
      have hsw : smallWorld s.world = true := by
        simp only [smallState, Bool.and_eq_true] at hss
        exact hss.1.1
      have hc : p.cons.length ≤ 1000 := by
        have := hsp
        simp only [smallProg, Bool.and_eq_true, decide_eq_true_eq] at this
        omega
      have hT := reap_Slice_pc p s most hp hs hsp hss
      have hst := R18_State_pc p s hp hs hc hsw
      have hmo := Most_pc most
      by_cases h1 : stateOk p s = true
      · rw [h1] at hst
        obtain ⟨hok, hA, hcy, hAr, hg⟩ := state_marks h1
        have hin : InRange s.world := fun o ho x hx => given_in hg o ho x ((refs_mem _ _).2 hx)
        by_cases h2 : inR most 1 200 = true
        · rw [h2] at hmo
          rw [if_pos ⟨h1, h2⟩] at hT
          simp only [inR, decide_eq_true_eq] at h2
          obtain ⟨k, rfl⟩ := Int.eq_ofNat_of_zero_le (show 0 ≤ most by omega)
          rw [Int.toNat_natCast] at hT
          have hR := R18_Slice_pc s k hs hsw hin hok hA (by omega) hcy hAr
          have hsame := R18_Same_pc (sliceS s k) (sliceS s k) (slice_few hs hsw hin hok)
          have hsg := R06_SameInts_pc (sliceG s k) (sliceG s k) (sliceG_few hs)
          simp only [decide_true] at hsame hsg
          simp only [go_sem, qC, qG, qW, hT.ret, hst.ret, hmo.ret, hR.ret, hsame.ret, hsg.ret, hk.ret, bin_eqb2]
        · rw [if_neg (fun h => h2 h.2)] at hT
          rw [Bool.not_eq_true] at h2
          rw [h2] at hmo
          simp only [go_sem, qC, qG, qW, hT.ret, hst.ret, hmo.ret, blankS_pc.ret, hk.ret]
      · rw [if_neg (fun h => h1 h.1)] at hT
        rw [Bool.not_eq_true] at h1
        rw [h1] at hst
        simp only [go_sem, qC, qG, qW, hT.ret, hst.ret, blankS_pc.ret, hk.ret]
  · simp only [go_sem, qC, qG, qW, g1, hk.ret]
end Go.Proofs.YthpmfghgoabnhaaGreat
