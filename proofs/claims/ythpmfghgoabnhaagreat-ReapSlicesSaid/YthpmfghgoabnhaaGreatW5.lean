/- Contracts: programs, by the document's answer. -/
import Derived.Test.YthpmfghgoabnhaaGreatW4
set_option linter.all false
namespace Go.Proofs.YthpmfghgoabnhaaGreat
open Go.Abs Go.Proofs
theorem R05_SmallProg_pc (p : BProg) (hp : p.few) : PC L F.R05_SmallProg [.agg [.fz (p.nodes.map BNode.enc), .fz (p.funs.map (.int .i64)), .int .i64 p.main, .fz (p.cons.map BCon.enc)]] (.bool (smallProg p)) := by
  refine pc_of LF.R05_SmallProg rfl rfl ?_
  simp only [go_sem, qC, qG, qS, qW, C.R05_SmallProg]
  repeat' ((first | with_reducible refine condK_split (fun h => ?_) (fun h => ?_) | with_reducible refine guardK_split (fun h => ?_) (fun h => ?_)) <;> (try simp only [decide_eq_true_eq, decide_eq_false_iff_not, Bool.not_true, Bool.not_false] at h) <;> try simp only [go_sem, qC, qG, qS, qW, *])
  all_goals (try simp only [Bool.not_eq_true', Bool.not_eq_false', Int.not_lt, Int.not_le] at *)
  all_goals try (simp [smallProg, *]; done)
  all_goals try (simp [smallProg, *]; intros; omega)
  rename_i g1 g2
  refine wp_for (p.cons.length) (fun k st => ∃ fr en cnt, st = ⟨fr, en, cnt⟩ ∧ (fr 1 = .ptr ⟨0, 1, 0⟩ 0) ∧ (en ⟨0, 1, 0⟩ = some (.box p.cells false)) ∧ (fr 3 = .int .i64 k) ∧ ((p.cons.drop k).all (fun c => decide ((c.name.size : Int) ≤ 40)) = p.cons.all fun c => decide ((c.name.size : Int) ≤ 40))) 0 (Nat.zero_le _) ⟨_, _, _, rfl, (by first | (simp only [go_sem, qW]; (try rfl); done) | rfl | simp), (by first | (simp only [go_sem, qW]; (try rfl); done) | rfl | simp), (by first | (simp only [go_sem, qW]; (try rfl); done) | rfl | simp), (by first | (simp only [go_sem, qW]; (try rfl); done) | rfl | simp)⟩ ?_
  rintro k st hk ⟨fr, en, cnt, rfl, h1, e1, h3, hI⟩
  simp only [go_sem, qC, qG, qS, qW, h1, e1, h3]
  refine condK_split (fun hq => ?_) (fun hq => ?_)
  · have h' : k < p.cons.length := of_decide_eq_true hq
    rw [all_step h'] at hI
    simp only [go_sem, qC, qG, qS, qW, h', h1, e1, h3]
    refine condK_split (fun hb => ?_) (fun hb => ?_)
    · simp only [go_sem, qC, qG, qS, qW]
      simp at hb
      have : p.cons.all (fun c => decide ((c.name.size : Int) ≤ 40)) = false := by rw [← hI]; simp; intros; omega
      simp only [smallProg, this]; simp
    · simp only [go_sem, qC, qG, qS, qW, h', h1, e1, h3]
      simp at hb
      refine ⟨_, _, _, rfl, ?_⟩
      simp only [go_sem, qW, h1, e1, h3, wrap_succ h' hp.cons]
      rw [← hI]; simp; intros; omega
  · have : k = p.cons.length := by simp at hq; omega
    subst this
    have hcon : p.cons.all (fun c => decide ((c.name.size : Int) ≤ 40)) = true := by rw [← hI]; simp
    clear hI hq
    simp only [go_sem, qC, qG, qS, qW, h1, e1, h3]
    refine wp_for (p.nodes.length) (fun k st => ∃ fr en cnt, st = ⟨fr, en, cnt⟩ ∧ (fr 1 = .ptr ⟨0, 1, 0⟩ 0) ∧ (en ⟨0, 1, 0⟩ = some (.box p.cells false)) ∧ (fr 4 = .int .i64 k) ∧ ((p.nodes.drop k).all smallNode = p.nodes.all smallNode)) 0 (Nat.zero_le _) ⟨_, _, _, rfl, (by first | (simp only [go_sem, h1, e1, h3]; (try rfl); done) | rfl | simp), (by first | (simp only [go_sem, h1, e1, h3]; (try rfl); done) | rfl | simp), (by first | (simp only [go_sem, h1, e1, h3]; (try rfl); done) | rfl | simp), (by first | (simp only [go_sem, h1, e1, h3]; (try rfl); done) | rfl | simp)⟩ ?_
    rintro k st hk ⟨fr, en, cnt, rfl, h1, e1, h4, hI⟩
    simp only [go_sem, qC, qG, qS, qW, h1, e1, h4]
    refine condK_split (fun hq => ?_) (fun hq => ?_)
    · have h' : k < p.nodes.length := of_decide_eq_true hq
      have hx := hp.node p.nodes[k] (List.getElem_mem _)
      rw [all_step h'] at hI
      have fin : smallNode p.nodes[k] = false → Val.bool false = Val.bool (smallProg p) := by
        intro h; simp [smallProg, ← hI, h]
      simp only [go_sem, qC, qG, qS, qW, h', h1, e1, h4]
      refine guardK_split (fun hb => ?_) (fun hb => ?_)
      · simp only [go_sem, qC, qG, qS, qW, hb, h', h1, e1, h4]
        simp at hb
        refine condK_split (fun hc => ?_) (fun hc => ?_)
        · simp only [go_sem, qC, qG, qS, qW]
          simp at hc
          exact fin (by simp [smallNode]; intros; omega)
        · simp only [go_sem, qC, qG, qS, qW, h', h1, e1, h4]
          simp at hc
          generalize cnt 0 5 = g5
          refine wp_for (p.nodes[k].pats.length) (fun j st => ∃ fr en cnt, st = ⟨fr, en, cnt⟩ ∧ (fr 1 = .ptr ⟨0, 1, 0⟩ 0) ∧ (en ⟨0, 1, 0⟩ = some (.box p.cells false)) ∧ (fr 5 = .ptr ⟨0, 5, g5⟩ 0) ∧ (en ⟨0, 5, g5⟩ = some (.box [.int .i64 p.nodes[k].op, .int .i64 p.nodes[k].n, .fz (p.nodes[k].kids.map (.int .i64)), .fz (p.nodes[k].pats.map Pat.enc)] false)) ∧ (fr 4 = .int .i64 k) ∧ (fr 6 = .int .i64 j) ∧ ((p.nodes[k].pats.drop j).all smallPat = p.nodes[k].pats.all smallPat)) 0 (Nat.zero_le _) ⟨_, _, _, rfl, (by first | (simp only [go_sem, h1, e1, h4]; (try rfl); done) | rfl | simp), (by first | (simp only [go_sem, h1, e1, h4]; (try rfl); done) | rfl | simp), (by first | (simp only [go_sem, h1, e1, h4]; (try rfl); done) | rfl | simp), (by first | (simp only [go_sem, h1, e1, h4]; (try rfl); done) | rfl | simp), (by first | (simp only [go_sem, h1, e1, h4]; (try rfl); done) | rfl | simp), (by first | (simp only [go_sem, h1, e1, h4]; (try rfl); done) | rfl | simp), (by first | (simp only [go_sem, h1, e1, h4]; (try rfl); done) | rfl | simp)⟩ ?_
          rintro j st hk ⟨fr, en, cnt, rfl, h1, e1, h5, e5, h4, h6, hJ⟩
          simp only [go_sem, qC, qG, qS, qW, h1, e1, h5, e5, h4, h6]
          refine condK_split (fun h2 => ?_) (fun h2 => ?_)
          · have h2' : j < p.nodes[k].pats.length := of_decide_eq_true h2
            rw [all_step h2'] at hJ
            simp only [go_sem, qC, qG, qS, qW, h2', h1, e1, h5, e5, h4, h6, (R01_SmallPat_pc _ (hx.pat _ (List.getElem_mem _))).ret]
            refine condK_split (fun hd => ?_) (fun hd => ?_)
            · simp only [go_sem, qC, qG, qS, qW]
              simp at hd
              exact fin (by simp [smallNode, ← hJ, hd])
            · simp only [go_sem, qC, qG, qS, qW, h2', h1, e1, h5, e5, h4, h6]
              simp at hd
              refine ⟨_, _, _, rfl, ?_⟩
              simp only [go_sem, qW, h1, e1, h5, e5, h4, h6, wrap_succ h2' hx.pats]
              rw [← hJ, hd]; simp
          · have : j = p.nodes[k].pats.length := by simp at h2; omega
            subst this
            have hfr : smallNode p.nodes[k] = true := by
              simp only [smallNode, ← hJ]; simp; exact ⟨by omega, by omega⟩
            simp only [go_sem, qC, qG, qS, qW, h', h1, e1, h5, e5, h4, h6]
            refine ⟨_, _, _, rfl, ?_⟩
            simp only [go_sem, qW, h1, e1, h5, e5, h4, h6, wrap_succ h' hp.nodes]
            rw [← hI, hfr]; simp
      · simp only [go_sem, qC, qG, qS, qW, hb, Bool.not_false, h1, e1, h4]
        simp at hb
        exact fin (by simp [smallNode]; intros; omega)
    · have : k = p.nodes.length := by simp at hq; omega
      subst this
      have hn : p.nodes.all smallNode = true := by rw [← hI]; simp
      simp only [go_sem, qC, qG, qS, qW, h1, e1, h4]
      simp only [smallProg, hcon, hn]
      simp [g1, g2, h]
theorem R05_node_pc (p : BProg) (n : BNode) (hp : p.few) (hn : n.few) : PC L F.R05_node [.agg [.fz (p.nodes.map BNode.enc), .fz (p.funs.map (.int .i64)), .int .i64 p.main, .fz (p.cons.map BCon.enc)], .agg [.int .i64 n.op, .int .i64 n.n, .fz (n.kids.map (.int .i64)), .fz (n.pats.map Pat.enc)]] (.bool (nodeOk p n)) := by
  have e1 : IntKind.i64.wrap (0 - (p.funs.length : Int)) = -(p.funs.length : Int) := by have := hp.funs; unfold Few at this; rw [wrap_in (by omega)]; omega
  have e2 := wrap_pred hp.cons
  refine pc_of LF.R05_node rfl rfl ?_
  simp only [go_sem, wp_seq_ops, Go.Abs.start, qC, qG, qS, C.R05_node]
  refine wp_cut' (fun st => (st.fr 2 = .ptr ⟨0, 2, 0⟩ 0) ∧ (st.en ⟨0, 2, 0⟩ = some (.box p.cells false)) ∧ (st.fr 3 = .ptr ⟨0, 3, 0⟩ 0) ∧ (st.en ⟨0, 3, 0⟩ = some (.box [.int .i64 n.op, .int .i64 n.n, .fz (n.kids.map (.int .i64)), .fz (n.pats.map Pat.enc)] false)) ∧ (st.fr 6 = .bool (numOk p n)) ∧ (st.fr 5 = .int .i64 (argsOf p n))) ?_ ?_
  · simp only [go_sem, qC, qG, qS, qW]
    repeat' ((first | with_reducible refine condK_split (fun h => ?_) (fun h => ?_) | with_reducible refine guardK_split (fun h => ?_) (fun h => ?_)) <;> (try simp only [decide_eq_true_eq, decide_eq_false_iff_not, Bool.not_true, Bool.not_false] at h) <;> try simp only [go_sem, qC, qG, qS, qW, *, (R05_in_pc _ _ _).ret, ia_con])
    all_goals simp [numOk, argsOf, *]
  · rintro fr en cnt ⟨(h2 : fr 2 = .ptr ⟨0, 2, 0⟩ 0), (e2 : en ⟨0, 2, 0⟩ = some (.box p.cells false)), (h3 : fr 3 = .ptr ⟨0, 3, 0⟩ 0), (e3 : en ⟨0, 3, 0⟩ = some (.box [.int .i64 n.op, .int .i64 n.n, .fz (n.kids.map (.int .i64)), .fz (n.pats.map Pat.enc)] false)), (h6 : fr 6 = .bool (numOk p n)), (h5 : fr 5 = .int .i64 (argsOf p n))⟩
    refine wp_cut' (fun st => (st.fr 2 = .ptr ⟨0, 2, 0⟩ 0) ∧ (st.en ⟨0, 2, 0⟩ = some (.box p.cells false)) ∧ (st.fr 3 = .ptr ⟨0, 3, 0⟩ 0) ∧ (st.en ⟨0, 3, 0⟩ = some (.box [.int .i64 n.op, .int .i64 n.n, .fz (n.kids.map (.int .i64)), .fz (n.pats.map Pat.enc)] false)) ∧ (st.fr 6 = .bool (numOk p n && patsNum n)) ∧ (st.fr 5 = .int .i64 (argsOf p n))) ?_ ?_
    · simp only [go_sem, qC, qG, qS, qW, h2, e2, h3, e3, h6, h5]
      repeat' ((first | with_reducible refine condK_split (fun h => ?_) (fun h => ?_) | with_reducible refine guardK_split (fun h => ?_) (fun h => ?_)) <;> (try simp only [decide_eq_true_eq, decide_eq_false_iff_not, Bool.not_true, Bool.not_false] at h) <;> try simp only [go_sem, qC, qG, qS, qW, *, (R05_in_pc _ _ _).ret])
      all_goals simp [patsNum, *]
    · rintro fr en cnt ⟨(h2 : fr 2 = .ptr ⟨0, 2, 0⟩ 0), (e2 : en ⟨0, 2, 0⟩ = some (.box p.cells false)), (h3 : fr 3 = .ptr ⟨0, 3, 0⟩ 0), (e3 : en ⟨0, 3, 0⟩ = some (.box [.int .i64 n.op, .int .i64 n.n, .fz (n.kids.map (.int .i64)), .fz (n.pats.map Pat.enc)] false)), (h6 : fr 6 = .bool (numOk p n && patsNum n)), (h5 : fr 5 = .int .i64 (argsOf p n))⟩
      have hb0 : (numOk p n && patsNum n) = true → 0 ≤ (n.pats.length : Int) ∧ (n.pats.length : Int) ≤ 1000 := by
        intro h; simp only [Bool.and_eq_true] at h
        have := h.2; unfold patsNum at this; split at this
        · simp [inR] at this; omega
        · simp at this; simp [this]
      have hres : nodeOk p n = (((numOk p n && patsNum n) && n.pats.all (patFine p.cons)) && decide ((n.kids.length : Int) = kidsOf n.op n.pats.length (argsOf p n))) := rfl
      rw [hres]
      clear hres e1
      generalize (numOk p n && patsNum n) = b0 at h6 hb0
      refine wp_cut' (fun st => st.fr 2 = .ptr ⟨0, 2, 0⟩ 0 ∧ st.en ⟨0, 2, 0⟩ = some (.box p.cells false) ∧ st.fr 3 = .ptr ⟨0, 3, 0⟩ 0 ∧ st.en ⟨0, 3, 0⟩ = some (.box [.int .i64 n.op, .int .i64 n.n, .fz (n.kids.map (.int .i64)), .fz (n.pats.map Pat.enc)] false) ∧ st.fr 6 = .bool (b0 && n.pats.all (patFine p.cons)) ∧ st.fr 5 = .int .i64 (argsOf p n)) ?_ ?_
      · simp only [go_sem, qC, qG, qS, qW, h2, e2, h3, e3, h6, h5]
        refine wp_for n.pats.length (fun k st => ∃ fr en cnt b, st = ⟨fr, en, cnt⟩ ∧ fr 2 = .ptr ⟨0, 2, 0⟩ 0 ∧ en ⟨0, 2, 0⟩ = some (.box p.cells false) ∧ fr 3 = .ptr ⟨0, 3, 0⟩ 0 ∧ en ⟨0, 3, 0⟩ = some (.box [.int .i64 n.op, .int .i64 n.n, .fz (n.kids.map (.int .i64)), .fz (n.pats.map Pat.enc)] false) ∧ fr 5 = .int .i64 (argsOf p n) ∧ fr 7 = .int .i64 k ∧ fr 6 = .bool b ∧ (b && (n.pats.drop k).all (patFine p.cons)) = (b0 && n.pats.all (patFine p.cons))) 0 (Nat.zero_le _) ⟨_, _, _, b0, rfl, by simp only [go_sem, h2, e2, h3, e3, h6, h5], by simp only [go_sem, h2, e2, h3, e3, h6, h5], by simp only [go_sem, h2, e2, h3, e3, h6, h5], by simp only [go_sem, h2, e2, h3, e3, h6, h5], by simp only [go_sem, h2, e2, h3, e3, h6, h5], by simp only [go_sem, h2, e2, h3, e3, h6, h5], by simp only [go_sem, h2, e2, h3, e3, h6, h5], rfl⟩ ?_
        rintro k st hk ⟨fr, en, cnt, b, rfl, h2, e2, h3, e3, h5, h7, h6, hI⟩
        simp only [go_sem, qC, qG, qS, qW, h2, e2, h3, e3, h5, h7, h6]
        refine guardK_split (fun hd => ?_) (fun hd => ?_)
        · have h' : k < n.pats.length := of_decide_eq_true hd
          have hm : n.pats[k] ∈ n.pats := List.getElem_mem _
          rw [all_step h'] at hI
          simp only [go_sem, qC, qG, qS, qW, hd, h2, e2, h3, e3, h5, h7, h6]
          refine condK_split (fun hb => ?_) (fun hb => ?_)
          · rw [hb] at hI
            simp only [go_sem, qC, qG, qS, qW, hd, h', h2, e2, h3, e3, h5, h7, h6, (R01_WeighPat_pc _ (hn.pat _ hm) 12 (by omega) (by omega)).ret]
            refine guardK_split (fun hw => ?_) (fun hw => ?_)
            · simp only [go_sem, qC, qG, qS, qW, hw, h', h2, e2, h3, e3, h5, h7, h6, (R05_pat_pc _ hp.cons _ (hn.pat _ hm)).ret]
              refine ⟨_, _, _, patOk p.cons n.pats[k], rfl, ?_⟩
              simp only [go_sem, qC, qG, qS, qW, h', h2, e2, h3, e3, h5, h7, h6, wrap_succ h' hn.pats]
              rw [← hI]; simp [patFine, of_decide_eq_true hw]
            · simp only [go_sem, qC, qG, qS, qW, hw, h', h2, e2, h3, e3, h5, h7, h6]
              refine ⟨_, _, _, false, rfl, ?_⟩
              simp only [go_sem, qC, qG, qS, qW, h', h2, e2, h3, e3, h5, h7, h6, wrap_succ h' hn.pats]
              simp at hw
              rw [← hI]; simp [patFine]; intros; omega
          · simp only [go_sem, qC, qG, qS, qW, hd, h', h2, e2, h3, e3, h5, h7, h6]
            rw [← hI, hb]; simp
        · have : k = n.pats.length := by simp at hd; omega
          subst this
          simp only [go_sem, qC, qG, qS, qW, hd, h2, e2, h3, e3, h5, h7, h6]
          rw [← hI]; simp
      · rintro fr en cnt ⟨(h2 : fr 2 = _), (e2 : en _ = _), (h3 : fr 3 = _), (e3 : en _ = _), (h6 : fr 6 = _), (h5 : fr 5 = _)⟩
        generalize hbb : (b0 && n.pats.all (patFine p.cons)) = b at h6 ⊢
        simp only [go_sem, qC, qG, qS, qW]
        refine wp_still ?_ ?_
        · decide
        simp only [go_sem, qC, qG, qS, qW, h2, e2, h3, e3, h5, h6]
        refine guardK_split (fun hd => ?_) (fun hd => ?_)
        · have h0 : b0 = true := by
            simp only [hd, Bool.and_eq_true] at hbb; exact hbb.1
          simp only [go_sem, qC, qG, qS, qW, hd, h2, e2, h3, e3, h5, h6, (R05_kids_pc _ _ _ (hb0 h0)).ret]
        · simp only [go_sem, qC, qG, qS, qW, hd, h2, e2, h3, e3, h5, h6]
theorem use_get {u : List Bool} {n : Nat} {x : Int} (hu : u.length = n) (h : inR x 0 ((n : Int) - 1) = true) : 0 ≤ x ∧ x < (n : Int) ∧ (u.map Val.bool)[x.toNat]? = some (.bool (u.getD x.toNat false)) := by
  simp only [inR, decide_eq_true_eq] at h
  have hx : x.toNat < u.length := by omega
  exact ⟨by omega, by omega, by simp [List.getD_eq_getElem?_getD, hx]⟩
theorem R05_Formed_pc (p : BProg) (hp : p.few) (hs : p.cons.length ≤ 1000) : PC L F.R05_Formed [.agg [.fz (p.nodes.map BNode.enc), .fz (p.funs.map (.int .i64)), .int .i64 p.main, .fz (p.cons.map BCon.enc)]] (.bool (formedOk p)) := by
  have w1 := wrap_pred hp.nodes
  have w2 := wrap_pred hp.funs
  refine pc_of LF.R05_Formed rfl rfl ?_
  simp only [go_sem, qC, qG, qS, qW, C.R05_Formed, w1, w2]
  repeat' ((first | with_reducible refine condK_split (fun h => ?_) (fun h => ?_) | with_reducible refine guardK_split (fun h => ?_) (fun h => ?_)) <;> (try simp only [decide_eq_true_eq, decide_eq_false_iff_not, Bool.not_true, Bool.not_false] at h) <;> try simp only [go_sem, qC, qG, qS, qW, *, (R05_in_pc _ _ _).ret, (R05_cons_pc _ hs hp.con).ret])
  all_goals (try simp only [Bool.not_eq_true', Bool.not_eq_false', Int.not_lt, Int.not_le] at *)
  all_goals try (simp [formedOk, *]; done)
  all_goals try (simp [formedOk, *]; intros; omega)
  rename_i g1 g2 g3
  have hn : p.nodes.length ≤ 16777216 := by omega
  have hfo : formedOk p = allMet ((meet 0 (p.nodes.length - 1) (List.replicate p.nodes.length false) p.funs).bind fun u => meetNodes p 0 u p.nodes) := by simp [formedOk, g1, g2, g3, h]
  rw [hfo]
  clear hfo
  simp only [go_sem, qC, qG, qS, qW, mk_nat hn]
  refine wp_for p.funs.length (fun k st => ∃ fr en cnt u, st = ⟨fr, en, cnt⟩ ∧ (fr 1 = .ptr ⟨0, 1, 0⟩ 0 ∧ en ⟨0, 1, 0⟩ = some (.box p.cells false) ∧ fr 3 = .int .i64 p.nodes.length ∧ fr 4 = .bl ⟨0, 40, 0⟩ 0 p.nodes.length ∧ en ⟨0, 40, 0⟩ = some (.blk 1 (u.map Val.bool) false) ∧ u.length = p.nodes.length) ∧ fr 5 = .int .i64 k ∧ meet 0 (p.nodes.length - 1) u (p.funs.drop k) = meet 0 (p.nodes.length - 1) (List.replicate p.nodes.length false) p.funs) 0 (Nat.zero_le _) ⟨_, _, _, List.replicate p.nodes.length false, rfl, ⟨by simp only [go_sem, qW], by simp only [go_sem, qW], by simp only [go_sem, qW], by simp only [go_sem, qW], by simp only [go_sem, List.map_replicate], by simp⟩, by simp only [go_sem, qW], rfl⟩ ?_
  rintro k st hk ⟨fr, en, cnt, u, rfl, ⟨h1, e1, h3, h4, eu, hu⟩, h5, hI⟩
  simp only [go_sem, qC, qG, qS, qW, h1, e1, h5]
  refine condK_split (fun hq => ?_) (fun hq => ?_)
  · have h' : k < p.funs.length := of_decide_eq_true hq
    rw [List.drop_eq_getElem_cons h', meet] at hI
    simp only [go_sem, qC, qG, qS, qW, h', h1, e1, h3, h4, eu, h5, (R05_in_pc _ _ _).ret, w1]
    refine guardK_split (fun hb => ?_) (fun hb => ?_)
    · simp at hb
      obtain ⟨a1, a2, a3⟩ := use_get hu hb
      rw [hb] at hI
      simp only [go_sem, qC, qG, qS, qW, hb, Bool.not_true, h', h1, e1, h3, h4, eu, h5, a1, a2, a3]
      refine condK_split (fun hc => ?_) (fun hc => ?_)
      · simp only [go_sem, qC, qG, qS, qW]
        rw [hc] at hI
        simp at hI
        rw [← hI]; rfl
      · simp only [go_sem, qC, qG, qS, qW, h', h1, e1, h3, h4, eu, h5, a1, a2, a3]
        rw [hc] at hI
        simp at hI
        refine ⟨_, _, _, u.set p.funs[k].toNat true, rfl, ?_⟩
        simp only [go_sem, qC, qG, qS, qW, h', h1, e1, h3, h4, eu, h5, a1, a2, a3, ← List.map_set, wrap_succ h' hp.funs]
        exact ⟨by simp [hu], hI⟩
    · simp only [go_sem, qC, qG, qS, qW, hb, Bool.not_false]
      simp at hb
      rw [hb] at hI
      simp at hI
      rw [← hI]; rfl
  · have : k = p.funs.length := by simp at hq; omega
    subst this
    rw [List.drop_length, meet] at hI
    rw [← hI]
    simp only [Option.bind_some]
    clear hq hI hk
    generalize hM : meetNodes p 0 u p.nodes = M
    simp only [go_sem, qC, qG, qS, qW, h1, e1, h3]
    refine wp_for p.nodes.length (fun k st => ∃ fr en cnt u, st = ⟨fr, en, cnt⟩ ∧ (fr 1 = .ptr ⟨0, 1, 0⟩ 0 ∧ en ⟨0, 1, 0⟩ = some (.box p.cells false) ∧ fr 3 = .int .i64 p.nodes.length ∧ fr 4 = .bl ⟨0, 40, 0⟩ 0 p.nodes.length ∧ en ⟨0, 40, 0⟩ = some (.blk 1 (u.map Val.bool) false) ∧ u.length = p.nodes.length) ∧ fr 6 = .int .i64 k ∧ meetNodes p k u (p.nodes.drop k) = M) 0 (Nat.zero_le _) ⟨_, _, _, u, rfl, ⟨by simp only [go_sem, h1, e1, h3, h4, eu, hu], by simp only [go_sem, h1, e1, h3, h4, eu, hu], by simp only [go_sem, h1, e1, h3, h4, eu, hu], by simp only [go_sem, h1, e1, h3, h4, eu, hu], by simp only [go_sem, h1, e1, h3, h4, eu, hu], hu⟩, by simp only [go_sem, qW], hM⟩ ?_
    clear hM h1 e1 h3 h4 eu hu h5
    rintro k st hk ⟨fr, en, cnt, u, rfl, ⟨h1, e1, h3, h4, eu, hu⟩, h6, hI⟩
    simp only [go_sem, qC, qG, qS, qW, h1, e1, h3, h6]
    refine condK_split (fun hq => ?_) (fun hq => ?_)
    · have h' : k < p.nodes.length := of_decide_eq_true hq
      have hx := hp.node p.nodes[k] (List.getElem_mem _)
      rw [List.drop_eq_getElem_cons h', meetNodes] at hI
      simp only [go_sem, qC, qG, qS, qW, h', h1, e1, h3, h6, (R05_node_pc p _ hp hx).ret]
      refine condK_split (fun hb => ?_) (fun hb => ?_)
      · simp only [go_sem, qC, qG, qS, qW]
        simp at hb
        rw [hb] at hI
        rw [← hI]; rfl
      · simp only [go_sem, qC, qG, qS, qW, h', h1, e1, h3, h6]
        simp at hb
        rw [hb] at hI
        simp only [if_true] at hI
        generalize hm : meet ((k : Int) + 1) (p.nodes.length - 1) u p.nodes[k].kids = m at hI
        refine wp_for p.nodes[k].kids.length (fun j st => ∃ fr en cnt u, st = ⟨fr, en, cnt⟩ ∧ (fr 1 = .ptr ⟨0, 1, 0⟩ 0 ∧ en ⟨0, 1, 0⟩ = some (.box p.cells false) ∧ fr 3 = .int .i64 p.nodes.length ∧ fr 4 = .bl ⟨0, 40, 0⟩ 0 p.nodes.length ∧ en ⟨0, 40, 0⟩ = some (.blk 1 (u.map Val.bool) false) ∧ u.length = p.nodes.length) ∧ fr 6 = .int .i64 k ∧ fr 7 = .int .i64 j ∧ meet ((k : Int) + 1) (p.nodes.length - 1) u (p.nodes[k].kids.drop j) = m) 0 (Nat.zero_le _) ⟨_, _, _, u, rfl, ⟨by simp only [go_sem, h1, e1, h3, h4, eu, hu], by simp only [go_sem, h1, e1, h3, h4, eu, hu], by simp only [go_sem, h1, e1, h3, h4, eu, hu], by simp only [go_sem, h1, e1, h3, h4, eu, hu], by simp only [go_sem, h1, e1, h3, h4, eu, hu], hu⟩, by simp only [go_sem, h6], by simp only [go_sem, qW], hm⟩ ?_
        clear hm h1 e1 h3 h4 eu hu h6
        rintro j st hj ⟨fr, en, cnt, u, rfl, ⟨h1, e1, h3, h4, eu, hu⟩, h6, h7, hJ⟩
        simp only [go_sem, qC, qG, qS, qW, h', h1, e1, h3, h6, h7]
        refine condK_split (fun h2 => ?_) (fun h2 => ?_)
        · have h2' : j < p.nodes[k].kids.length := of_decide_eq_true h2
          rw [List.drop_eq_getElem_cons h2', meet] at hJ
          have w3 : IntKind.i64.wrap ((k : Int) + 1) = (k : Int) + 1 := wrap_in (by omega)
          simp only [go_sem, qC, qG, qS, qW, h', h2', h1, e1, h3, h4, eu, h6, h7, (R05_in_pc _ _ _).ret, w1, w3]
          refine guardK_split (fun hc => ?_) (fun hc => ?_)
          · simp at hc
            have hc0 : inR p.nodes[k].kids[j] 0 ((p.nodes.length : Int) - 1) = true := by simp [inR] at hc ⊢; omega
            obtain ⟨a1, a2, a3⟩ := use_get hu hc0
            rw [hc] at hJ
            simp only [go_sem, qC, qG, qS, qW, hc, Bool.not_true, h1, e1, h3, h4, eu, h6, h7, a1, a2, a3]
            refine condK_split (fun hd => ?_) (fun hd => ?_)
            · simp only [go_sem, qC, qG, qS, qW]
              rw [hd] at hJ
              simp at hJ
              rw [← hI, ← hJ]; rfl
            · simp only [go_sem, qC, qG, qS, qW, h2', h1, e1, h3, h4, eu, h6, h7, a1, a2, a3]
              rw [hd] at hJ
              simp at hJ
              refine ⟨_, _, _, u.set p.nodes[k].kids[j].toNat true, rfl, ?_⟩
              simp only [go_sem, qC, qG, qS, qW, h2', h1, e1, h3, h4, eu, h6, h7, a1, a2, a3, ← List.map_set, wrap_succ h2' hx.kids]
              exact ⟨by simp [hu], hJ⟩
          · simp only [go_sem, qC, qG, qS, qW, hc, Bool.not_false]
            simp at hc
            rw [hc] at hJ
            simp at hJ
            rw [← hI, ← hJ]; rfl
        · have : j = p.nodes[k].kids.length := by simp at h2; omega
          subst this
          rw [List.drop_length, meet] at hJ
          rw [← hJ] at hI
          simp only [Option.bind_some] at hI
          simp only [go_sem, qC, qG, qS, qW, h', h1, e1, h3, h4, eu, h6, h7]
          refine ⟨_, _, _, u, rfl, ?_⟩
          simp only [go_sem, qC, qG, qS, qW, h1, e1, h3, h4, eu, h6, h7, hu, wrap_succ h' hp.nodes]
          exact hI
    · have : k = p.nodes.length := by simp at hq; omega
      subst this
      rw [List.drop_length, meetNodes] at hI
      rw [← hI]
      simp only [allMet]
      simp only [go_sem, qC, qG, qS, qW, h1, e1, h3, h4]
      refine wp_for p.nodes.length (fun k st => ∃ fr en cnt, st = ⟨fr, en, cnt⟩ ∧ fr 3 = .int .i64 p.nodes.length ∧ fr 4 = .bl ⟨0, 40, 0⟩ 0 p.nodes.length ∧ en ⟨0, 40, 0⟩ = some (.blk 1 (u.map Val.bool) false) ∧ fr 9 = .int .i64 k ∧ (u.drop k).all id = u.all id) 0 (Nat.zero_le _) ⟨_, _, _, rfl, by simp only [go_sem, h1, e1, h3, h4, eu, hu], by simp only [go_sem, h1, e1, h3, h4, eu, hu], by simp only [go_sem, h1, e1, h3, h4, eu, hu], by simp only [go_sem, qW], rfl⟩ ?_
      clear h1 e1 h3 h4 eu h6 hI hq hk
      rintro k st hk ⟨fr, en, cnt, rfl, h3, h4, eu, h9, hI⟩
      simp only [go_sem, qC, qG, qS, qW, h3, h9]
      refine condK_split (fun hq => ?_) (fun hq => ?_)
      · have h' : k < p.nodes.length := of_decide_eq_true hq
        have h'' : k < u.length := by omega
        rw [all_step h''] at hI
        have a3 : (u.map Val.bool)[k]? = some (.bool u[k]) := by simp [h'']
        simp only [go_sem, qC, qG, qS, qW, h', h3, h4, eu, h9, a3, Int.natCast_nonneg, Int.toNat_natCast]
        refine condK_split (fun hb => ?_) (fun hb => ?_)
        · simp only [go_sem, qC, qG, qS, qW]
          simp at hb
          rw [← hI, hb]; rfl
        · simp only [go_sem, qC, qG, qS, qW, h', h3, h4, eu, h9]
          simp at hb
          refine ⟨_, _, _, rfl, ?_⟩
          simp only [go_sem, qC, qG, qS, qW, h3, h4, eu, h9, wrap_succ h' hp.nodes]
          rw [← hI, hb]; simp
      · have : k = p.nodes.length := by simp at hq; omega
        subst this
        simp only [go_sem, qC, qG, qS, qW]
        rw [← hI, List.drop_eq_nil_of_le (by omega)]; rfl
end Go.Proofs.YthpmfghgoabnhaaGreat
