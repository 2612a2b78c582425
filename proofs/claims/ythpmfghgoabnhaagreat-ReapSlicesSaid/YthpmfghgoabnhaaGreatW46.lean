/- Slices: the program's looking. -/
import Derived.Test.YthpmfghgoabnhaaGreatW45
set_option linter.all false
namespace Go.Proofs.YthpmfghgoabnhaaGreat
open Go.Abs Go.Proofs
theorem own_win2 (s : RState) (hs : s.few) (hsm : smallState s = true) {en : En} {cnt : Nat → Nat → Nat} :
    WIn L (.fn F.reap_own [] []) [.agg [.fz (s.world.objs.map MObj.enc), .fz (s.world.tasks.map (.int .i64)), .fz (s.world.outs.map MOut.enc), .fz (s.world.ins.map (.int .i64)), .int .i64 s.world.used, .fz (s.ages.map (.int .i64)), .fz (s.marks.map (.int .i64)), .int .i64 s.cycle]] en cnt fun v en' cnt' => ∃ g16 vA vM, v = .ptr ⟨0, 16, g16⟩ 0 ∧ en' ⟨0, 16, g16⟩ = some (.box [.fz (s.world.objs.map MObj.enc), .fz (s.world.tasks.map (.int .i64)), .fz (s.world.outs.map MOut.enc), .fz (s.world.ins.map (.int .i64)), .int .i64 s.world.used, vA, vM, .int .i64 s.cycle] false) ∧
      MineO en' vA 1 (s.ages.map (.int .i64)) 8 ∧ MineO en' vM 1 (s.marks.map (.int .i64)) 11 ∧ (∀ t g, ¬ t = 1 → ¬ t = 8 → ¬ t = 11 → ¬ t = 16 → en' ⟨0, t, g⟩ = en ⟨0, t, g⟩) ∧ (∀ t, ¬ t = 1 → ¬ t = 8 → ¬ t = 11 → ¬ t = 16 → cnt' 0 t = cnt 0 t) ∧ ∀ g, vA = .bl ⟨0, 8, g⟩ 0 s.ages.length → g < cnt' 0 8 := by
  have hsw : smallWorld s.world = true ∧ (s.ages.length : Int) ≤ 130 ∧ (s.marks.length : Int) ≤ 130 := by
    simp only [smallState, Bool.and_eq_true, decide_eq_true_eq] at hsm
    exact ⟨hsm.1.1, hsm.1.2, hsm.2⟩
  have c1 := Clone_int_pc (s.ages.map (.int .i64)) (headOk_ints _) (by simp; omega)
  have c2 := Clone_int_pc (s.marks.map (.int .i64)) (headOk_ints _) (by simp; omega)
  obtain ⟨g1, hg1⟩ : ∃ g, g = cnt 0 1 := ⟨_, rfl⟩
  obtain ⟨g8, hg8⟩ : ∃ g, g = cnt 0 8 := ⟨_, rfl⟩
  obtain ⟨g11, hg11⟩ : ∃ g, g = cnt 0 11 := ⟨_, rfl⟩
  obtain ⟨g16, hg16⟩ : ∃ g, g = cnt 0 16 := ⟨_, rfl⟩
  refine win_of LF.reap_own rfl rfl ?_
  simp only [go_sem, qC, qG, qW, C.reap_own, ← hg1]
  refine wp_foot ?_
  rcases clone_cases 1 (s.ages.map (Val.int .i64)) with ⟨t1, t2⟩ | ⟨t1, t2⟩ <;> rw [t2] at c1 <;>
  rcases clone_cases 1 (s.marks.map (Val.int .i64)) with ⟨o1, o2⟩ | ⟨o1, o2⟩ <;> rw [o2] at c2
  all_goals simp only [go_sem, qC, qG, qW, List.all_cons, List.getElem?_cons_zero, List.getElem?_cons_succ, Bool.true_or, Bool.or_true, Bool.false_eq_true, if_false, Option.getD_some, (reap_copied_pc s.world hs.1 hsw.1).ret, c1.ret, c2.ret, ← hg8, ← hg11, ← hg16, List.length_map, one_cl, cells_cl, one_bl, cells_bl]
  all_goals refine ⟨g16, _, _, rfl, en_eq, ?_, ?_, ?_, ?_, ?_⟩
  all_goals first
    | exact .inl ⟨rfl, by assumption⟩
    | exact mineO_bl (by simp only [go_sem, qW]; try rfl) (by simp only [List.length_map])
    | (intro t g n1 n2 n3 n4; simp only [go_sem, qW, n1, n2, n3, n4])
    | (intro t n1 n2 n3 n4; simp only [go_sem, qW, n1, n2, n3, n4]; done)
    | (intro g hg; cases hg; done)
    | (intro g hg; injection hg with h3 _ _; injection h3 with _ _ h6; subst h6; first | omega | (simp [setCnt]; done) | (simp [setCnt]; omega))
def LI (s : RState) (m : List Int) (n g2 g8 gM gk : Nat) (vA : Val) (all : List Int) (en0 : En) (fr0 : Nat → Val) (gl : Nat) (r : List Int) (en : En) (cnt : Nat → Nat → Nat) : Prop :=
  en ⟨1, 0, gl⟩ = some (.loop fr0 [58] (LCode.ops [o 9 (.mv (.t 58))]) (LCode.block 3 (.seq (.ops [o 59 (.load false 1 (.t 2)), o 60 (.nilck (.t 59)), o 61 (.fa 0 (.t 60)), o 62 (.fa 6 (.t 61)), o 63 (.load false 1 (.t 62)), o 64 (.mv (.t 9)), o 65 (.ia 1 (.t 63) (.t 64)), o 66 (.load false 1 (.t 65)), o 67 (.bin .eql .num (.t 66) (.c (.int .i64 0)))]) (.cond (.t 67) (.seq (.ops [o 68 (.load false 1 (.t 2)), o 69 (.nilck (.t 68)), o 70 (.fa 0 (.t 69)), o 71 (.fa 6 (.t 70)), o 72 (.load false 1 (.t 71)), o 73 (.mv (.t 9)), o 74 (.ia 1 (.t 72) (.t 73)), on (.store 1 (.t 74) (.c (.int .i64 1)))]) (.ops [o 75 (.load false 1 (.t 8)), o 76 (.mv (.t 9)), o 77 (.minmax false [(.t 75), (.t 76)]), on (.store 1 (.t 8) (.t 77))])) .skip))) .ready) ∧ en ⟨0, 2, g2⟩ = some (.box [.ptr ⟨0, 16, gk⟩ 0] false) ∧ en ⟨0, 16, gk⟩ = some (.box [.fz (s.world.objs.map MObj.enc), .fz (s.world.tasks.map (.int .i64)), .fz (s.world.outs.map MOut.enc), .fz (s.world.ins.map (.int .i64)), .int .i64 s.world.used, vA, .bl ⟨0, 11, gM⟩ 0 m.length, .int .i64 s.cycle] false) ∧ MineO en vA 1 (s.ages.map (.int .i64)) 8 ∧ g2 + 1 ≤ cnt 0 2 ∧ 1 ≤ cnt 0 6 ∧ g8 + 1 ≤ cnt 0 8 ∧ en ⟨0, 6, 0⟩ = en0 ⟨0, 6, 0⟩ ∧
  ∃ done, done ++ r = all ∧ en ⟨0, 11, gM⟩ = some (.blk 1 ((lookM m n done).map (.int .i64)) false) ∧ ∃ nx : Nat, en ⟨0, 8, g8⟩ = some (.box [.int .i64 nx] false) ∧ nx ≤ n + 1 ∧ ∀ i, i < nx → ¬ markN (lookM m n done) i = 1
theorem look_rounds (s : RState) (m : List Int) (n g2 g8 gM gk : Nat) (vA : Val) (all : List Int) (en0 : En) {fr0 : Nat → Val} {gl : Nat} {c0 : Nat → Nat} (hn : n < m.length) (hml : m.length ≤ 1000) (q2 : fr0 2 = .ptr ⟨0, 2, g2⟩ 0) (q8 : fr0 8 = .ptr ⟨0, 8, g8⟩ 0)
    (hA8 : ∀ g, vA = .bl ⟨0, 8, g⟩ 0 s.ages.length → g < g8)
    (hino : ∀ x ∈ all, inR x 0 ((m.length : Int) - 1) = true) (hc2 : g2 + 1 ≤ c0 2) (hc6 : 1 ≤ c0 6) : Rounds ⟨1, 0, gl⟩ c0 (LI s m n g2 g8 gM gk vA all en0 fr0 gl) (fun _ _ => False) := by
  refine ⟨?_, ?_⟩
  · rintro r en cnt en' cnt' ⟨i1, j2, j16, mA, hg2, hg6, hg8, e6, done, hd, j11, nx, j8, hnx, hgr⟩ hout hcnt hge
    have h2 := hge 2 (by decide)
    have h6 := hge 6 (by decide)
    exact ⟨(hout 1 0 gl (.inl (by omega))).trans i1, (hout 0 2 g2 (.inr (.inr (by omega)))).trans j2, (hout 0 16 gk (.inr (.inl (by decide)))).trans j16, mA.keep fun g => hout 0 8 g (.inr (.inl (by decide))), by omega, by omega, by rw [hcnt 0 8 (by decide)]; exact hg8, (hout 0 6 0 (.inr (.inr (by omega)))).trans e6, done, hd, (hout 0 11 gM (.inr (.inl (by decide)))).trans j11, nx, (hout 0 8 g8 (.inr (.inl (by decide)))).trans j8, hnx, hgr⟩
  · rintro x rest en cnt ⟨i1, j2, j16, mA, hg2, hg6, hg8, e6, done, hd, j11, nx, j8, hnx, hgr⟩
    have hxi := hino x (by rw [← hd]; simp)
    simp only [inR, decide_eq_true_eq] at hxi
    obtain ⟨j, rfl⟩ := Int.eq_ofNat_of_zero_le hxi.1
    have hj : j < m.length := by omega
    have hjl : j < (lookM m n done).length := by rw [lookM_len]; exact hj
    have hc1 : (0 : Int) ≤ (j : Int) := by omega
    have hc2' : (j : Int) < (m.length : Int) := by omega
    have hgj := ints_get hjl
    refine win_yld (fr := fr0) (ps := [58]) (a := (LCode.ops [o 9 (.mv (.t 58))])) (b := (LCode.block 3 (.seq (.ops [o 59 (.load false 1 (.t 2)), o 60 (.nilck (.t 59)), o 61 (.fa 0 (.t 60)), o 62 (.fa 6 (.t 61)), o 63 (.load false 1 (.t 62)), o 64 (.mv (.t 9)), o 65 (.ia 1 (.t 63) (.t 64)), o 66 (.load false 1 (.t 65)), o 67 (.bin .eql .num (.t 66) (.c (.int .i64 0)))]) (.cond (.t 67) (.seq (.ops [o 68 (.load false 1 (.t 2)), o 69 (.nilck (.t 68)), o 70 (.fa 0 (.t 69)), o 71 (.fa 6 (.t 70)), o 72 (.load false 1 (.t 71)), o 73 (.mv (.t 9)), o 74 (.ia 1 (.t 72) (.t 73)), on (.store 1 (.t 74) (.c (.int .i64 1)))]) (.ops [o 75 (.load false 1 (.t 8)), o 76 (.mv (.t 9)), o 77 (.minmax false [(.t 75), (.t 76)]), on (.store 1 (.t 8) (.t 77))])) .skip)))) i1 rfl ?_
    simp only [go_sem, qC, qG, qW, q2, q8, i1, j2, j16, j11, lookM_len, hgj, hc1, hc2', true_and, and_true, eq_self, if_true, Nat.zero_add, Int.toNat_natCast, List.length_map, Nat.le_refl]
    refine condK_split (fun hb => ?_) (fun hb => ?_)
    · have h0 : markN (lookM m n done) j = 0 := of_decide_eq_true hb
      have hst : ((lookM m n done).map (Val.int .i64)).set j (.int .i64 1) = (lookM m n (done ++ [(j : Int)])).map (.int .i64) := by rw [ints_set, lookM_set hj h0]
      have hmin : (min (nx : Int) (j : Int)) = ((min nx j : Nat) : Int) := by omega
      simp only [go_sem, qC, qG, qW, q2, q8, i1, j2, j16, j11, j8, lookM_len, hgj, hst, hc1, hc2', true_and, and_true, eq_self, if_true, Nat.zero_add, Int.toNat_natCast, List.length_map, Nat.le_refl, hmin]
      refine ⟨fun t g ht hg => ?_, fun _ _ => trivial, .inl ⟨?_, ?_, ?_, ?_, hg2, hg6, hg8, ?_, done ++ [(j : Int)], by rw [← hd]; simp, ?_, min nx j, ?_, by omega, fun i hi => ?_⟩⟩
      · have n1 : (⟨0, t, g⟩ : Key) ≠ ⟨1, 0, gl⟩ := by intro he; injection he with h1 _ _; omega
        have n2 : (⟨0, t, g⟩ : Key) ≠ ⟨0, 11, gM⟩ := by intro he; injection he with _ h2 h3; subst h2; simp [T4] at ht
        have n3 : (⟨0, t, g⟩ : Key) ≠ ⟨0, 8, g8⟩ := by intro he; injection he with _ h2 h3; subst h2; simp [T4] at ht
        rw [en_ne n1, en_ne n3, en_ne n2, en_ne n1]
      · try simp only [go_sem, qW]
        try rfl
      · simp only [go_sem, qW, j2]
      · simp only [go_sem, qW, j16]
      · rcases mA with h | ⟨g, hv, he⟩
        · exact .inl h
        · have hlt := hA8 g (by rw [hv, List.length_map])
          exact .inr ⟨g, hv, by rw [en_ne (by intro h; injection h with h1 _ _; omega), en_ne (by intro h; injection h with _ _ h3; omega), en_ne (by intro h; injection h with _ h2 _; omega), en_ne (by intro h; injection h with h1 _ _; omega)]; exact he⟩
      · simp only [go_sem, qW, e6]
      · simp only [go_sem, qW]
      · simp only [go_sem, qW]
      · have hij : ¬ (j : Int) = (i : Int) := by omega
        have hold := hgr i (by omega)
        by_cases hil : i < m.length
        · rw [lookM_at hil] at hold ⊢
          rw [memB_append, decide_eq_false hij, Bool.or_false]
          exact hold
        · rw [markN_out (by rw [lookM_len]; omega)]; decide
    · have h0 : ¬ markN (lookM m n done) j = 0 := of_decide_eq_false hb
      have hsk := lookM_skip hj h0
      simp only [go_sem, qC, qG, qW, q2, q8, i1, j2, j16, j11]
      refine ⟨fun t g ht hg => ?_, fun _ _ => trivial, .inl ⟨?_, ?_, ?_, ?_, hg2, hg6, hg8, ?_, done ++ [(j : Int)], by rw [← hd]; simp, ?_, nx, ?_, hnx, by rw [hsk]; exact hgr⟩⟩
      · have n1 : (⟨0, t, g⟩ : Key) ≠ ⟨1, 0, gl⟩ := by intro he; injection he with h1 _ _; omega
        rw [en_ne n1, en_ne n1]
      · try simp only [go_sem, qW]
        try rfl
      · simp only [go_sem, qW, j2]
      · simp only [go_sem, qW, j16]
      · exact mA.keep fun g => by rw [en_ne (by intro h; injection h with h1 _ _; omega), en_ne (by intro h; injection h with h1 _ _; omega)]
      · simp only [go_sem, qW, e6]
      · rw [hsk]; simp only [go_sem, qW, j11]
      · simp only [go_sem, qW, j8]
end Go.Proofs.YthpmfghgoabnhaaGreat
