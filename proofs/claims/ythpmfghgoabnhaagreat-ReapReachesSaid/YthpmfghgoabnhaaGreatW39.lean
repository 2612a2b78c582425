/- Which objects are reached: the program's answer. -/
import Derived.Test.YthpmfghgoabnhaaGreatW38
set_option linter.all false
namespace Go.Proofs.YthpmfghgoabnhaaGreat
open Go.Abs Go.Proofs
def QI (w : MWorld) (ks td : List Int) (all : List Int) (fr0 : Nat → Val) (gk : Nat) (r : List Int) (en : En) (cnt : Nat → Nat → Nat) : Prop :=
  en ⟨1, 0, gk⟩ = some (.loop fr0 [47] (LCode.ops [o 10 (.mv (.t 47))]) (LCode.block 3 (.ops [o 48 (.load false 1 (.t 8)), o 49 (.mv (.t 10)), o 50 (.bslice 1 1 [(.int .i64 0)] [(0, (.t 49))]), o 51 (.append 1 (.t 48) (.t 50)), on (.store 1 (.t 8) (.t 51))])) .ready) ∧ en ⟨0, 3, 0⟩ = some (.box [.fz (w.objs.map MObj.enc), .fz (w.tasks.map (.int .i64)), .fz (w.outs.map MOut.enc), .fz (w.ins.map (.int .i64)), .int .i64 w.used] false) ∧ en ⟨0, 18, 0⟩ = some (.map (ks.map (.int .i64)) (ks.map fun _ => .bool true) false) ∧ 1 ≤ cnt 0 3 ∧
  ∃ v done, en ⟨0, 8, 0⟩ = some (.box [v] false) ∧ CutL en v ((td ++ done).map (.int .i64)) [21, 51] ∧ done ++ r = all
theorem reach_rounds (w : MWorld) (ks td all : List Int) {fr0 : Nat → Val} {gk : Nat} {c0 : Nat → Nat} (q8 : fr0 8 = .ptr ⟨0, 8, 0⟩ 0) (hc : 1 ≤ c0 3) (hlen : td.length + all.length ≤ 16777215) :
    Rounds ⟨1, 0, gk⟩ c0 (QI w ks td all fr0 gk) (fun _ _ => False) := by
  refine ⟨?_, ?_⟩
  · rintro r en cnt en' cnt' ⟨i1, i3, i18, ic, v, done, i8, hv, hd⟩ hout hcnt hge
    have hge3 := hge 3 (by decide)
    refine ⟨(hout 1 0 gk (.inl (by omega))).trans i1, (hout 0 3 0 (.inr (.inr (by omega)))).trans i3, (hout 0 18 0 (.inr (.inl (by decide)))).trans i18, by omega, v, done, (hout 0 8 0 (.inr (.inl (by decide)))).trans i8, hv.keep fun t g ht => hout 0 t g (.inr (.inl ?_)), hd⟩
    have ht' : t = 21 ∨ t = 51 := by simpa using ht
    rcases ht' with rfl | rfl <;> decide
  · rintro x rest en cnt ⟨i1, i3, i18, ic, v, done, i8, hv, hd⟩
    have hl : done.length + (rest.length + 1) = all.length := by rw [← hd]; simp
    refine win_yld (fr := fr0) (ps := [47]) (a := (LCode.ops [o 10 (.mv (.t 47))])) (b := (LCode.block 3 (.ops [o 48 (.load false 1 (.t 8)), o 49 (.mv (.t 10)), o 50 (.bslice 1 1 [(.int .i64 0)] [(0, (.t 49))]), o 51 (.append 1 (.t 48) (.t 50)), on (.store 1 (.t 8) (.t 51))]))) i1 rfl ?_
    simp only [go_sem, qC, qG, qW, Nat.reduceEqDiff, Nat.reduceMul, Nat.reduceLeDiff, Nat.reduceAdd, Nat.reduceLT, Int.reduceEq, q8, i1, i8]
    refine w_append_cut (D := [21, 51]) (xs := (td ++ done).map (.int .i64)) (ys := [.int .i64 x]) (rs := []) ?_ ?_ rfl ?_ (by simp) ?_
    · simp only [go_sem, qW, Nat.reduceEqDiff, Nat.reduceMul, Nat.reduceLeDiff, Nat.reduceAdd, Nat.reduceLT, Int.reduceEq]
      exact hv.keep fun t g ht => by
        have ht' : t = 21 ∨ t = 51 := by simpa using ht
        rw [en_ne (by intro he; injection he with h1 _ _; omega)]
    · simp only [go_sem, qW, Nat.reduceEqDiff, Nat.reduceMul, Nat.reduceLeDiff, Nat.reduceAdd, Nat.reduceLT, Int.reduceEq]
    · simp; omega
    · intro v' en' cnt' hown hen hcnt
      have k8 : en' ⟨0, 8, 0⟩ = some (.box [v] false) := by rw [hen 0 8 0 (.inr ⟨by decide, by decide⟩)]; simp only [go_sem, qW, Nat.reduceEqDiff, Nat.reduceMul, Nat.reduceLeDiff, Nat.reduceAdd, Nat.reduceLT, Int.reduceEq, i8]
      have k3 : en' ⟨0, 3, 0⟩ = some (.box [.fz (w.objs.map MObj.enc), .fz (w.tasks.map (.int .i64)), .fz (w.outs.map MOut.enc), .fz (w.ins.map (.int .i64)), .int .i64 w.used] false) := by rw [hen 0 3 0 (.inr ⟨by decide, by decide⟩)]; simp only [go_sem, qW, Nat.reduceEqDiff, Nat.reduceMul, Nat.reduceLeDiff, Nat.reduceAdd, Nat.reduceLT, Int.reduceEq, i3]
      have k18 : en' ⟨0, 18, 0⟩ = some (.map (ks.map (.int .i64)) (ks.map fun _ => .bool true) false) := by rw [hen 0 18 0 (.inr ⟨by decide, by decide⟩)]; simp only [go_sem, qW, Nat.reduceEqDiff, Nat.reduceMul, Nat.reduceLeDiff, Nat.reduceAdd, Nat.reduceLT, Int.reduceEq, i18]
      have k1 := hen 1 0 gk (.inl (by omega))
      obtain ⟨s1, s2⟩ := hown.shape
      simp only [go_sem, qC, qG, qW, Nat.reduceEqDiff, Nat.reduceMul, Nat.reduceLeDiff, Nat.reduceAdd, Nat.reduceLT, Int.reduceEq, q8, k8, s1, s2, k1]
      refine ⟨fun t g ht hg => ?_, fun t ht => hcnt 0 t (by intro h; subst h; simp [T4] at ht), .inl ⟨en_eq, ?_, ?_, ?_, v', done ++ [x], ?_, ?_, by rw [← hd]; simp⟩⟩
      · have n1 : (⟨0, t, g⟩ : Key) ≠ ⟨1, 0, gk⟩ := by intro he; injection he with h1 _ _; omega
        have n2 : (⟨0, t, g⟩ : Key) ≠ ⟨0, 8, 0⟩ := by intro he; injection he with _ h2 h3; subst h2; simp [T4] at ht
        have n3 : t ≠ 51 ∧ t ∉ [21, 51] := by
          simp only [T4, List.mem_cons, List.not_mem_nil, or_false] at ht ⊢
          omega
        rw [en_ne n1, en_ne n2, hen 0 t g (.inr n3), en_ne n1]
      · simp only [go_sem, qW, Nat.reduceEqDiff, Nat.reduceMul, Nat.reduceLeDiff, Nat.reduceAdd, Nat.reduceLT, Int.reduceEq, k3]
      · simp only [go_sem, qW, Nat.reduceEqDiff, Nat.reduceMul, Nat.reduceLeDiff, Nat.reduceAdd, Nat.reduceLT, Int.reduceEq, k18]
      · rw [hcnt 0 3 (by decide)]; exact ic
      · simp only [go_sem, qW, Nat.reduceEqDiff, Nat.reduceMul, Nat.reduceLeDiff, Nat.reduceAdd, Nat.reduceLT, Int.reduceEq]
      · have e1 : (td ++ (done ++ [x])).map (Val.int .i64) = (td ++ done).map (.int .i64) ++ [.int .i64 x] := by simp
        rw [e1]
        refine (hown.keep fun t g ht => ?_).sub (by simp)
        have ht' : t = 51 ∨ t = 21 := by simp at ht; omega
        rw [en_ne (by intro he; injection he with h1 _ _; omega), en_ne (by intro he; injection he with _ h2 _; omega)]
theorem CutL.nil {en : En} {v : Val} {xs : List Val} {D : List Nat} (h : CutL en v xs D) (h0 : xs.length = 0) : xs = [] := List.eq_nil_of_length_eq_zero h0
theorem refs_count {w : MWorld} (hsm : smallWorld w = true) {i : Nat} (h : i < w.objs.length) : (refsOf (w.obj i)).length ≤ 5000 := by
  have hs := smallW_obj hsm _ (List.getElem_mem h)
  obtain ⟨c1, c2, c3⟩ := small_frames hs
  rw [objAt_get h]
  have hv : ∀ l : List MVal, (refVals l).length ≤ l.length := fun l => by
    have := List.length_filter_le isRef l
    simpa [refVals] using this
  have hf : ∀ l : List MFrame, (∀ f ∈ l, f.env.length ≤ 40 ∧ f.vals.length ≤ 40) → (l.flatMap frameRefs).length ≤ 80 * l.length := by
    intro l
    induction l with
    | nil => intro _; simp
    | cons f l ih =>
      intro hl
      have h1 := ih fun g hg => hl g (by simp [hg])
      have h2 := hl f (by simp)
      have h3 := hv f.env
      have h4 := hv f.vals
      simp only [List.flatMap_cons, List.length_append, List.length_cons, frameRefs]
      omega
  have h1 := hv w.objs[i].vals
  have h2 := hf w.objs[i].frames c3
  simp only [refsOf, List.length_append]
  omega
theorem sum_le {f : Nat → Nat} {m : Nat} : ∀ n, (∀ i, i < n → f i ≤ m) → ((List.range n).map f).sum ≤ n * m
  | 0, _ => by simp
  | n + 1, h => by
    rw [List.range_succ, List.map_append, List.sum_append]
    have h1 := sum_le n fun i hi => h i (by omega)
    have h2 := h n (by omega)
    simp only [List.map_cons, List.map_nil, List.sum_cons, List.sum_nil]
    rw [Nat.add_mul]; omega
theorem weight_le {w : MWorld} (hsm : smallWorld w = true) (ks : List Int) : weight w ks ≤ 650000 := by
  have hl := (smallW_len hsm).1
  have := sum_le (f := fun i => if memB ks (i : Nat) = true then 0 else (refsOf (w.obj (i : Nat))).length) (m := 5000) w.objs.length fun i hi => by
    split
    · omega
    · exact refs_count hsm hi
  unfold weight
  omega
theorem put_clone {L : Prog} {l : List LOper} {d g : Nat} {fr : Nat → Val} {en : En} {cnt : Nat → Nat → Nat} {Q : St → Prop} {xs : List Val} (hg : g = cnt 0 d)
    (k : ∀ v en' cnt', MineO en' v 1 xs d → (∀ n t g, ¬ t = d → en' ⟨n, t, g⟩ = en ⟨n, t, g⟩) → (∀ n t, ¬ t = d → cnt' n t = cnt n t) → WOps L l ⟨setFr fr d v, en', cnt'⟩ Q) : WPut L l (some d) fr en cnt Q (some (callRes 0 d g (cloneV 1 xs) [])) := by
  subst hg
  rcases clone_cases 1 xs with ⟨o1, o2⟩ | ⟨o1, o2⟩ <;> rw [o2]
  · have := k (.cl []) en cnt (.inl ⟨rfl, o1⟩) (fun _ _ _ _ => rfl) (fun _ _ _ => rfl)
    simpa [WPut, callRes, putFr, applyAll_nil, applyAll_cons, apply_ent] using this
  · have := k (.bl ⟨0, d, cnt 0 d⟩ 0 xs.length) (en.set ⟨0, d, cnt 0 d⟩ (some (.blk 1 xs false))) (setCnt cnt 0 d (cnt 0 d + 1)) (.inr ⟨_, rfl, en_eq⟩) (fun _ _ _ h => en_ne_t h) (fun n t h => by simp [setCnt, h])
    simpa [WPut, callRes, putFr, applyAll_nil, applyAll_cons, apply_ent] using this
theorem reap_Reached_pc (p : BProg) (w : MWorld) (hp : p.few) (hw : w.few) (hsp : smallProg p = true) (hsm : smallWorld w = true)
    (htk : given p w = true → (∀ t ∈ w.tasks, ∃ i : Nat, t = i ∧ i < w.objs.length ∧ isTask (w.obj i) = true) ∧ ∀ i : Nat, i < w.objs.length → isTask (w.obj i) = true → (i : Int) ∈ w.tasks) :
    PC L F.reap_Reached [.agg [.fz (p.nodes.map BNode.enc), .fz (p.funs.map (.int .i64)), .int .i64 p.main, .fz (p.cons.map BCon.enc)], .agg [.fz (w.objs.map MObj.enc), .fz (w.tasks.map (.int .i64)), .fz (w.outs.map MOut.enc), .fz (w.ins.map (.int .i64)), .int .i64 w.used]] (if given p w = true then .tup [.fz ((numsL (reachL w)).map (.int .i64)), .int .i64 0] else .tup [.fz [], .int .i64 2]) := by
  obtain ⟨b1, b2, b3, b4⟩ := smallW_len hsm
  have hmc := mean_Check_pc p w hp hw hsp
  refine pc_of LF.reap_Reached rfl rfl ?_
  by_cases hg : given p w = true
  · rw [if_pos hg]
    simp only [hg, if_true] at hmc
    obtain ⟨ht1, ht2⟩ := htk hg
    have hino : InRange w := fun o ho x hx => given_in hg o ho x ((refs_mem _ _).2 hx)
    have hcl := Clone_int_pc (w.tasks.map (.int .i64)) (headOk_ints _) (by simp; omega)
    have s0 : Search w [] w.tasks := ⟨fun x hx => (by cases hx), fun x hx => by obtain ⟨i, h1, h2, h3⟩ := ht1 x hx; exact ⟨i, h1, h2, .task h2 h3⟩, fun x hx => .inr hx, fun n hn => (by cases hn)⟩
    simp only [go_sem, qC, qG, qW, Nat.reduceEqDiff, Nat.reduceMul, Nat.reduceLeDiff, Nat.reduceAdd, Nat.reduceLT, Int.reduceEq, C.reap_Reached, hmc.ret, hcl.ret]
    refine put_clone (g := 0) (by simp only [go_sem, Nat.reduceEqDiff, Nat.reduceMul, Nat.reduceLeDiff, Nat.reduceAdd, Nat.reduceLT, Int.reduceEq]) ?_
    intro v0 en0 cnt0 mv hen hcnt
    have e3 : en0 ⟨0, 3, 0⟩ = some (.box [.fz (w.objs.map MObj.enc), .fz (w.tasks.map (.int .i64)), .fz (w.outs.map MOut.enc), .fz (w.ins.map (.int .i64)), .int .i64 w.used] false) := by rw [hen 0 3 0 (by decide)]; simp only [go_sem, qW, Nat.reduceEqDiff, Nat.reduceMul, Nat.reduceLeDiff, Nat.reduceAdd, Nat.reduceLT, Int.reduceEq]
    have e18 : en0 ⟨0, 18, 0⟩ = some (.map [] [] false) := by rw [hen 0 18 0 (by decide)]; simp only [go_sem, qW, Nat.reduceEqDiff, Nat.reduceMul, Nat.reduceLeDiff, Nat.reduceAdd, Nat.reduceLT, Int.reduceEq]
    have c3 : 1 ≤ cnt0 0 3 := by rw [hcnt 0 3 (by decide)]; simp only [go_sem, qW, Nat.reduceEqDiff, Nat.reduceMul, Nat.reduceLeDiff, Nat.reduceAdd, Nat.reduceLT, Int.reduceEq]; try exact Nat.le_refl _
    have c8 : cnt0 0 8 = 0 := by rw [hcnt 0 8 (by decide)]; simp only [go_sem, qW, Nat.reduceEqDiff, Nat.reduceMul, Nat.reduceLeDiff, Nat.reduceAdd, Nat.reduceLT, Int.reduceEq]
    have hv0 : CutL en0 v0 (w.tasks.map (.int .i64)) [21, 51] := by
      rcases mv with h | ⟨g, h1, h2⟩
      · exact .inl h
      · exact .inr ⟨21, g, _, h1, h2, Nat.le_refl _, List.take_of_length_le (Nat.le_refl _), by simp⟩
    have hsh := hv0.shape
    simp only [go_sem, qC, qG, qW, Nat.reduceEqDiff, Nat.reduceMul, Nat.reduceLeDiff, Nat.reduceAdd, Nat.reduceLT, Int.reduceEq, hsh.1, hsh.2, c8]
    refine Go.Abs.wp_loop (fun (x : List Int × List Int) (st : Go.Abs.St) => ∃ fr en cnt v, st = ⟨fr, en, cnt⟩ ∧ fr 3 = .ptr ⟨0, 3, 0⟩ 0 ∧ en ⟨0, 3, 0⟩ = some (.box [.fz (w.objs.map MObj.enc), .fz (w.tasks.map (.int .i64)), .fz (w.outs.map MOut.enc), .fz (w.ins.map (.int .i64)), .int .i64 w.used] false) ∧ fr 7 = .mp ⟨0, 18, 0⟩ ∧ en ⟨0, 18, 0⟩ = some (.map (x.1.map (.int .i64)) (x.1.map fun _ => .bool true) false) ∧ fr 8 = .ptr ⟨0, 8, 0⟩ 0 ∧ en ⟨0, 8, 0⟩ = some (.box [v] false) ∧ 1 ≤ cnt 0 3 ∧ CutL en v (x.2.map (.int .i64)) [21, 51] ∧ Search w x.1 x.2 ∧ x.2.length + weight w x.1 ≤ 700000)
      (fun x => x.2.length + weight w x.1) ([], w.tasks) ⟨_, _, _, v0, rfl, by simp only [go_sem, Nat.reduceEqDiff, Nat.reduceMul, Nat.reduceLeDiff, Nat.reduceAdd, Nat.reduceLT, Int.reduceEq], by simp only [go_sem, Nat.reduceEqDiff, Nat.reduceMul, Nat.reduceLeDiff, Nat.reduceAdd, Nat.reduceLT, Int.reduceEq, e3], by simp only [go_sem, Nat.reduceEqDiff, Nat.reduceMul, Nat.reduceLeDiff, Nat.reduceAdd, Nat.reduceLT, Int.reduceEq], by simp only [go_sem, Nat.reduceEqDiff, Nat.reduceMul, Nat.reduceLeDiff, Nat.reduceAdd, Nat.reduceLT, Int.reduceEq, e18]; try rfl, by simp only [go_sem, Nat.reduceEqDiff, Nat.reduceMul, Nat.reduceLeDiff, Nat.reduceAdd, Nat.reduceLT, Int.reduceEq], by simp only [go_sem, Nat.reduceEqDiff, Nat.reduceMul, Nat.reduceLeDiff, Nat.reduceAdd, Nat.reduceLT, Int.reduceEq], by simp only [go_sem, Nat.reduceEqDiff, Nat.reduceMul, Nat.reduceLeDiff, Nat.reduceAdd, Nat.reduceLT, Int.reduceEq]; try exact c3, ?_, s0, ?_⟩ ?_
    · exact hv0.keep fun t g ht => by simp at ht; rcases ht with rfl | rfl <;> simp only [go_sem, qW, Nat.reduceEqDiff, Nat.reduceMul, Nat.reduceLeDiff, Nat.reduceAdd, Nat.reduceLT, Int.reduceEq]
    · have := weight_le hsm []; dsimp only; omega
    clear hv0 hsh e3 e18 c3 c8 mv
    rintro ⟨ks, td⟩ st ⟨fr, en, cnt, v, rfl, h3, e3, h7, e18, h8, e8, hc3, hv, hS, hwt⟩
    dsimp only at e18 hv hS hwt ⊢
    have hlv := hv.len
    rw [List.length_map] at hlv
    simp only [go_sem, qC, qG, qW, Nat.reduceEqDiff, Nat.reduceMul, Nat.reduceLeDiff, Nat.reduceAdd, Nat.reduceLT, Int.reduceEq, h3, e3, h7, e18, h8, e8, hlv]
    refine condK_split (fun hq => ?_) (fun hq => ?_)
    · have hpos : 0 < td.length := by simp at hq; omega
      have hne : td ≠ [] := by intro h; rw [h] at hpos; cases hpos
      obtain ⟨td', n, rfl⟩ : ∃ a b, td = a ++ [b] := ⟨td.dropLast, td.getLast hne, (List.dropLast_concat_getLast hne).symm⟩
      rcases hv with ⟨_, hx⟩ | ⟨t, g, zs, rfl, ez, hle, htk', ht⟩
      · simp at hx
      rw [List.length_map] at hle htk' e8 hlv
      have hll : (td' ++ [n]).length = td'.length + 1 := by simp
      have hw1 : IntKind.i64.wrap (((td' ++ [n]).length : Int) - 1) = (td'.length : Int) := by
        rw [hll, wrap_in (by omega)]; omega
      have hgz : zs[td'.length]? = some (.int .i64 n) := by
        have h1 : (zs.take (td' ++ [n]).length)[td'.length]? = some (.int .i64 n) := by rw [htk']; simp
        rw [List.getElem?_take] at h1
        rw [if_pos (by omega)] at h1
        exact h1
      have hc1 : (0 : Int) ≤ (td'.length : Int) := by omega
      have hc2 : (td'.length : Int) < ((td' ++ [n]).length : Int) := by omega
      have hsl := fun kk => slice_bl (size := 1) (kk := kk) (n := (td' ++ [n]).length) (i := td'.length) ez (by omega)
      obtain ⟨m, rfl, hm, hrm⟩ := hS.todo n (by simp)
      have hin1 : inR (m : Int) 0 ((w.objs.length : Int) - 1) = true := by simp only [inR, decide_eq_true_eq]; omega
      have hcut : CutL en (.bl ⟨0, t, g⟩ 0 td'.length) (td'.map (.int .i64)) [21, 51] := by
        refine .inr ⟨t, g, zs, by simp, ez, by simp; omega, ?_, ht⟩
        have : (zs.take (td' ++ [(m : Int)]).length).take td'.length = td'.map (.int .i64) := by rw [htk']; simp
        rw [List.take_take, Nat.min_eq_left (by omega)] at this
        simpa using this
      have hmb : (ks.any fun x => decide (x = (m : Int))) = memB ks m := rfl
      simp only [go_sem, qC, qG, qW, Nat.reduceEqDiff, Nat.reduceMul, Nat.reduceLeDiff, Nat.reduceAdd, Nat.reduceLT, Int.reduceEq, h3, e3, h7, e18, h8, e8, ez, hw1, hgz, hc1, hc2, hle, hsl, one_bl, cells_bl, look_bool, hmb, true_and, and_true, eq_self, if_true, Nat.zero_add, Int.toNat_natCast]
      refine condK_split (fun gm => ?_) (fun gm => ?_)
      · simp only [go_sem, qC, qG, qW, Nat.reduceEqDiff, Nat.reduceMul, Nat.reduceLeDiff, Nat.reduceAdd, Nat.reduceLT, Int.reduceEq, h3, e3, h7, e18, h8, e8]
        refine ⟨(ks, td'), ⟨_, _, _, .bl ⟨0, t, g⟩ 0 td'.length, rfl, by simp only [go_sem, Nat.reduceEqDiff, Nat.reduceMul, Nat.reduceLeDiff, Nat.reduceAdd, Nat.reduceLT, Int.reduceEq, h3], by simp only [go_sem, Nat.reduceEqDiff, Nat.reduceMul, Nat.reduceLeDiff, Nat.reduceAdd, Nat.reduceLT, Int.reduceEq, e3], by simp only [go_sem, Nat.reduceEqDiff, Nat.reduceMul, Nat.reduceLeDiff, Nat.reduceAdd, Nat.reduceLT, Int.reduceEq, h7], by simp only [go_sem, Nat.reduceEqDiff, Nat.reduceMul, Nat.reduceLeDiff, Nat.reduceAdd, Nat.reduceLT, Int.reduceEq, e18], by simp only [go_sem, Nat.reduceEqDiff, Nat.reduceMul, Nat.reduceLeDiff, Nat.reduceAdd, Nat.reduceLT, Int.reduceEq, h8], by simp only [go_sem, Nat.reduceEqDiff, Nat.reduceMul, Nat.reduceLeDiff, Nat.reduceAdd, Nat.reduceLT, Int.reduceEq], hc3, ?_, search_drop hS (memB_iff.1 gm), ?_⟩, ?_⟩
        · refine hcut.keep fun t g ht => ?_
          have ht' : t = 21 ∨ t = 51 := by simpa using ht
          rcases ht' with rfl | rfl <;> simp only [go_sem, qW, Nat.reduceEqDiff, Nat.reduceMul, Nat.reduceLeDiff, Nat.reduceAdd, Nat.reduceLT, Int.reduceEq]
        · dsimp only; omega
        · dsimp only; omega
      · have hnm : (m : Int) ∉ ks := fun h => by rw [memB_iff.2 h] at gm; cases gm
        have hfd := findKey_idx (m : Int) ks
        rw [if_neg hnm] at hfd
        have hws := weight_step w ks hm gm
        have hk1 : (ks ++ [(m : Int)]).map (Val.int .i64) = ks.map (.int .i64) ++ [.int .i64 m] := by simp
        have hk2 : (ks ++ [(m : Int)]).map (fun _ => Val.bool true) = (ks.map fun _ => .bool true) ++ [.bool true] := by simp
        have hrc := refs_count hsm hm
        simp only [go_sem, qC, qG, qW, Nat.reduceEqDiff, Nat.reduceMul, Nat.reduceLeDiff, Nat.reduceAdd, Nat.reduceLT, Int.reduceEq, h3, e3, h7, e18, h8, e8, hfd, keyOk_int, flat1_bool, Bool.and_true, Bool.and_self, if_true, ia_obj hin1, (reap_refs_pc _).ret]
        refine wp_range (f := F.reap_refs_c1) (x := []) (y := [.fp [.int .i64 (w.obj m).form, .int .i64 (w.obj m).n, .fz ((w.obj m).vals.map MVal.enc), .fz ((w.obj m).frames.map MFrame.enc)] 0]) (by simp only [go_sem, Nat.reduceEqDiff, Nat.reduceMul, Nat.reduceLeDiff, Nat.reduceAdd, Nat.reduceLT, Int.reduceEq]) ?_
        intro fr0 key hfr0 hkey
        have q3 : fr0 3 = .ptr ⟨0, 3, 0⟩ 0 := by rw [hfr0]; simp only [go_sem, qW, Nat.reduceEqDiff, Nat.reduceMul, Nat.reduceLeDiff, Nat.reduceAdd, Nat.reduceLT, Int.reduceEq, h3]
        have q7 : fr0 7 = .mp ⟨0, 18, 0⟩ := by rw [hfr0]; simp only [go_sem, qW, Nat.reduceEqDiff, Nat.reduceMul, Nat.reduceLeDiff, Nat.reduceAdd, Nat.reduceLT, Int.reduceEq, h7]
        have q8 : fr0 8 = .ptr ⟨0, 8, 0⟩ 0 := by rw [hfr0]; simp only [go_sem, qW, Nat.reduceEqDiff, Nat.reduceMul, Nat.reduceLeDiff, Nat.reduceAdd, Nat.reduceLT, Int.reduceEq, h8]
        obtain ⟨gk, rfl⟩ : ∃ gk, key = ⟨1, 0, gk⟩ := ⟨_, hkey⟩
        obtain ⟨c0, hc0⟩ : ∃ c0, c0 = setCnt cnt 1 0 (cnt 1 0 + 1) 0 := ⟨_, rfl⟩
        have hcc : 1 ≤ c0 3 := by rw [hc0]; simpa [setCnt] using hc3
        have hr := reach_rounds w (ks ++ [(m : Int)]) td' (refsOf (w.obj m)) (gk := gk) (c0 := c0) q8 hcc (by omega)
        rw [hc0] at hr
        have hso : smallObj (w.obj m) = true := by rw [objAt_get hm]; exact smallW_obj hsm _ (List.getElem_mem hm)
        refine (refs_win (w.obj m) (small_few hso) hr ⟨by simp only [go_sem, Nat.reduceEqDiff, Nat.reduceMul, Nat.reduceLeDiff, Nat.reduceAdd, Nat.reduceLT, Int.reduceEq], by simp only [go_sem, Nat.reduceEqDiff, Nat.reduceMul, Nat.reduceLeDiff, Nat.reduceAdd, Nat.reduceLT, Int.reduceEq, e3], by rw [hk1, hk2]; simp only [go_sem, qW, Nat.reduceEqDiff, Nat.reduceMul, Nat.reduceLeDiff, Nat.reduceAdd, Nat.reduceLT, Int.reduceEq], by simpa [setCnt] using hc3, .bl ⟨0, t, g⟩ 0 td'.length, [], by simp only [go_sem, Nat.reduceEqDiff, Nat.reduceMul, Nat.reduceLeDiff, Nat.reduceAdd, Nat.reduceLT, Int.reduceEq], ?_, rfl⟩).mono ?_
        · rw [List.append_nil]
          refine hcut.keep fun t g ht => ?_
          have ht' : t = 21 ∨ t = 51 := by simpa using ht
          rcases ht' with rfl | rfl <;> simp only [go_sem, qW, Nat.reduceEqDiff, Nat.reduceMul, Nat.reduceLeDiff, Nat.reduceAdd, Nat.reduceLT, Int.reduceEq]
        rintro v en' cnt' (⟨i1, i3, i18, ic, v', done, i8, hv', hd⟩ | hF)
        · rw [List.append_nil] at hd
          subst hd
          simp only [go_sem, qC, qG, qW, Nat.reduceEqDiff, Nat.reduceMul, Nat.reduceLeDiff, Nat.reduceAdd, Nat.reduceLT, Int.reduceEq, i1, i3, i18, i8, q3, q7, q8, h3, h7, h8]
          refine ⟨(ks ++ [(m : Int)], td' ++ refsOf (w.obj m)), ⟨_, _, _, v', rfl, by simp only [go_sem, Nat.reduceEqDiff, Nat.reduceMul, Nat.reduceLeDiff, Nat.reduceAdd, Nat.reduceLT, Int.reduceEq, h3, q3], by simp only [go_sem, Nat.reduceEqDiff, Nat.reduceMul, Nat.reduceLeDiff, Nat.reduceAdd, Nat.reduceLT, Int.reduceEq, i3], by simp only [go_sem, Nat.reduceEqDiff, Nat.reduceMul, Nat.reduceLeDiff, Nat.reduceAdd, Nat.reduceLT, Int.reduceEq, h7, q7], by simp only [go_sem, Nat.reduceEqDiff, Nat.reduceMul, Nat.reduceLeDiff, Nat.reduceAdd, Nat.reduceLT, Int.reduceEq, i18], by simp only [go_sem, Nat.reduceEqDiff, Nat.reduceMul, Nat.reduceLeDiff, Nat.reduceAdd, Nat.reduceLT, Int.reduceEq, h8, q8], by simp only [go_sem, Nat.reduceEqDiff, Nat.reduceMul, Nat.reduceLeDiff, Nat.reduceAdd, Nat.reduceLT, Int.reduceEq, i8], ic, hv', search_step hS hino, ?_⟩, ?_⟩
          · dsimp only; rw [List.length_append]; omega
          · dsimp only; rw [List.length_append]; omega
        · exact hF.elim
    · have h0 : td = [] := by simp at hq; omega
      subst h0
      simp only [go_sem, qC, qG, qW, Nat.reduceEqDiff, Nat.reduceMul, Nat.reduceLeDiff, Nat.reduceAdd, Nat.reduceLT, Int.reduceEq, h3, e3, h7, e18, h8, e8, hlv]
      have hend := search_end hS ht2
      refine wp_for w.objs.length (fun k st => ∃ fr en cnt v, st = ⟨fr, en, cnt⟩ ∧ fr 7 = .mp ⟨0, 18, 0⟩ ∧ en ⟨0, 18, 0⟩ = some (.map (ks.map (.int .i64)) (ks.map fun _ => .bool true) false) ∧ fr 11 = v ∧ fr 54 = .int .i64 w.objs.length ∧ fr 55 = .int .i64 k ∧ Mine en v 1 ((numsTo (reachL w) k).map (.int .i64)) [64]) 0 (Nat.zero_le _) ⟨_, _, _, .cl [], rfl, by simp only [go_sem, Nat.reduceEqDiff, Nat.reduceMul, Nat.reduceLeDiff, Nat.reduceAdd, Nat.reduceLT, Int.reduceEq, h7], by simp only [go_sem, Nat.reduceEqDiff, Nat.reduceMul, Nat.reduceLeDiff, Nat.reduceAdd, Nat.reduceLT, Int.reduceEq, e18], by simp only [go_sem, Nat.reduceEqDiff, Nat.reduceMul, Nat.reduceLeDiff, Nat.reduceAdd, Nat.reduceLT, Int.reduceEq], by simp only [go_sem, Nat.reduceEqDiff, Nat.reduceMul, Nat.reduceLeDiff, Nat.reduceAdd, Nat.reduceLT, Int.reduceEq], by simp only [go_sem, Nat.reduceEqDiff, Nat.reduceMul, Nat.reduceLeDiff, Nat.reduceAdd, Nat.reduceLT, Int.reduceEq], Mine.nil _ _⟩ ?_
      clear h3 e3 h7 e18 h8 e8 hv
      rintro k st hk ⟨fr, en, cnt, v, rfl, h7, e18, h11, h54, h55, hv⟩
      simp only [go_sem, qC, qG, qW, Nat.reduceEqDiff, Nat.reduceMul, Nat.reduceLeDiff, Nat.reduceAdd, Nat.reduceLT, Int.reduceEq, h7, e18, h11, h54, h55]
      refine condK_split (fun hq2 => ?_) (fun hq2 => ?_)
      · have h' : k < w.objs.length := of_decide_eq_true hq2
        have hgt : (reachL w).getD k false = reachB w k := by simp [reachL, List.getD_eq_getElem?_getD, h']
        have hmb : (ks.any fun x => decide (x = (k : Int))) = reachB w k := hend k
        simp only [go_sem, qC, qG, qW, Nat.reduceEqDiff, Nat.reduceMul, Nat.reduceLeDiff, Nat.reduceAdd, Nat.reduceLT, Int.reduceEq, h7, e18, h11, h54, h55, look_bool, hmb]
        refine condK_split (fun gm => ?_) (fun gm => ?_)
        · simp only [go_sem, qC, qG, qW, Nat.reduceEqDiff, Nat.reduceMul, Nat.reduceLeDiff, Nat.reduceAdd, Nat.reduceLT, Int.reduceEq, h7, e18, h11, h54, h55]
          refine w_append (D := [64]) (xs := (numsTo (reachL w) k).map (.int .i64)) (ys := [.int .i64 k]) (rs := []) ?_ ?_ ?_ ?_ ?_
          · simp only [go_sem, qW, Nat.reduceEqDiff, Nat.reduceMul, Nat.reduceLeDiff, Nat.reduceAdd, Nat.reduceLT, Int.reduceEq]
            exact hv
          · simp only [go_sem, qW, Nat.reduceEqDiff, Nat.reduceMul, Nat.reduceLeDiff, Nat.reduceAdd, Nat.reduceLT, Int.reduceEq]
          · rfl
          · have := numsTo_len (reachL w) k; simp; omega
          · intro v' en' cnt' hown hen hcnt
            have k18 : en' ⟨0, 18, 0⟩ = some (.map (ks.map (.int .i64)) (ks.map fun _ => .bool true) false) := by rw [hen 0 18 0 (.inr ⟨by decide, by simp⟩)]; simp only [go_sem, qW, Nat.reduceEqDiff, Nat.reduceMul, Nat.reduceLeDiff, Nat.reduceAdd, Nat.reduceLT, Int.reduceEq, e18]
            simp only [go_sem, qC, qG, qW, Nat.reduceEqDiff, Nat.reduceMul, Nat.reduceLeDiff, Nat.reduceAdd, Nat.reduceLT, Int.reduceEq, h7, k18, h54, h55]
            refine ⟨h', _, _, _, v', rfl, ?_⟩
            simp only [go_sem, qC, qG, qW, Nat.reduceEqDiff, Nat.reduceMul, Nat.reduceLeDiff, Nat.reduceAdd, Nat.reduceLT, Int.reduceEq, h7, k18, h54, h55, wrap_succ h' hw.objs]
            rw [numsTo_t (hgt.trans gm), List.map_append]
            exact Mine.sub (D := [64, 64]) hown (by simp)
        · simp only [go_sem, qC, qG, qW, Nat.reduceEqDiff, Nat.reduceMul, Nat.reduceLeDiff, Nat.reduceAdd, Nat.reduceLT, Int.reduceEq, h7, e18, h11, h54, h55]
          refine ⟨h', _, _, _, v, rfl, ?_⟩
          simp only [go_sem, qC, qG, qW, Nat.reduceEqDiff, Nat.reduceMul, Nat.reduceLeDiff, Nat.reduceAdd, Nat.reduceLT, Int.reduceEq, h7, e18, h11, h54, h55, wrap_succ h' hw.objs]
          rw [numsTo_f (hgt.trans gm)]
          exact hv
      · have : k = w.objs.length := by simp at hq2; omega
        subst this
        simp only [go_sem, qC, qG, qW, Nat.reduceEqDiff, Nat.reduceMul, Nat.reduceLeDiff, Nat.reduceAdd, Nat.reduceLT, Int.reduceEq, h11]
        obtain ⟨r, ks', s1, _, s2, _⟩ := hv.snap 6
        have hnl : numsTo (reachL w) w.objs.length = numsL (reachL w) := by simp [numsL, reachL]
        simp only [go_sem, qC, qG, qW, Nat.reduceEqDiff, Nat.reduceMul, Nat.reduceLeDiff, Nat.reduceAdd, Nat.reduceLT, Int.reduceEq, s1, s2, hnl]
  · rw [if_neg hg]
    simp only [hg] at hmc
    simp only [go_sem, qC, qG, qW, Nat.reduceEqDiff, Nat.reduceMul, Nat.reduceLeDiff, Nat.reduceAdd, Nat.reduceLT, Int.reduceEq, C.reap_Reached, hmc.ret]
end Go.Proofs.YthpmfghgoabnhaaGreat
