/- Contracts: what is formed, by the program, III. -/
import Derived.Test.YthpmfghgoabnhaaGreatW7
set_option linter.all false
namespace Go.Proofs.YthpmfghgoabnhaaGreat
open Go.Abs Go.Proofs
theorem bind_differ_pc (l : List ByteArray) (hl : Few l.length) : PC L F.bind_differ [.fz (l.map .str)] (.bool (apartStr [] l)) := by
  refine pc_of LF.bind_differ rfl rfl ?_
  simp only [go_sem, qC, qG, qW, C.bind_differ]
  refine wp_for l.length (fun k st => ∃ fr en cnt ks vs, st = ⟨fr, en, cnt⟩ ∧ fr 0 = .fz (l.map .str) ∧ fr 3 = .mp ⟨0, 6, 0⟩ ∧ fr 7 = .fz (l.map .str) ∧ fr 8 = .int .i64 l.length ∧ fr 9 = .int .i64 k ∧ en ⟨0, 6, 0⟩ = some (.map (List.map Val.str ks) vs false) ∧ (l.drop k).foldl metStr ks = l.foldl metStr []) 0 (Nat.zero_le _) ⟨_, _, _, [], [], rfl, by simp only [go_sem, qW], by simp only [go_sem, qW], by simp only [go_sem, qW], by simp only [go_sem, qW], by simp only [go_sem, qW], by simp only [go_sem, qW], rfl⟩ ?_
  rintro k st hk ⟨fr, en, cnt, ks, vs, rfl, h0, h3, h7, h8, h9, e6, hI⟩
  simp only [go_sem, qC, qG, qW, h0, h3, h7, h8, h9]
  refine condK_split (fun hq => ?_) (fun hq => ?_)
  · have h' : k < l.length := of_decide_eq_true hq
    rw [List.drop_eq_getElem_cons h', List.foldl_cons, metStr] at hI
    rcases findKey_str l[k] ks with ⟨i, f1, f2, f3⟩ | ⟨f1, f2⟩
    · rw [f2] at hI
      simp only [go_sem, qC, qG, qW, h', h0, h3, h7, h8, h9, e6, f1, f3]
      refine ⟨_, _, _, ks, vs.set i (.bool true), rfl, ?_⟩
      simp only [go_sem, qC, qG, qW, h0, h3, h7, h8, h9, wrap_succ h' hl]
      simpa using hI
    · rw [f2] at hI
      simp only [go_sem, qC, qG, qW, h', h0, h3, h7, h8, h9, e6, f1]
      refine ⟨_, _, _, ks ++ [l[k]], vs ++ [.bool true], rfl, ?_⟩
      simp only [go_sem, qC, qG, qW, h0, h3, h7, h8, h9, wrap_succ h' hl]
      refine ⟨by simp, ?_⟩
      simpa using hI
  · have : k = l.length := by simp at hq; omega
    subst this
    simp only [List.drop_length, List.foldl_nil] at hI
    simp only [go_sem, qC, qG, qW, h0, h3, e6]
    have := metStr_apart l []
    rw [← this, ← hI]
    simp
theorem mine_ret {en : En} {v : Val} {size : Nat} {xs : List Val} {D : List Nat} (h : Mine en v size xs D) : ∃ r ks, snapD 8 en v = some (r, ks) ∧ r.wk = .fz xs ∧ r.wk1 = .fz xs := by
  obtain ⟨r, ks, h1, _, h2, h3, _⟩ := h.snap 7
  exact ⟨r, ks, h1, h3, h2⟩
theorem bind_mapped_pc (l : List BCon) (hl : l.length ≤ 1000) : PC L F.bind_mapped_api_BindCon_string [.fz (l.map BCon.enc), .fn F.bind_program_formed_c1 [] []] (.fz (l.map fun c => .str c.name)) := by
  have hf : Few l.length := by unfold Few; omega
  refine pc_of LF.bind_mapped_api_BindCon_string rfl rfl ?_
  simp only [go_sem, qC, qG, qW, C.bind_mapped_api_BindCon_string]
  refine wp_for l.length (fun k st => ∃ fr en cnt, st = ⟨fr, en, cnt⟩ ∧ fr 1 = .fn F.bind_program_formed_c1 [] [] ∧ fr 8 = .fz (l.map BCon.enc) ∧ fr 9 = .int .i64 l.length ∧ fr 10 = .int .i64 k ∧ Mine en (fr 5) 1 ((l.take k).map fun c => .str c.name) [19]) 0 (Nat.zero_le _) ⟨_, _, _, rfl, by simp only [go_sem, qW], by simp only [go_sem, qW], by simp only [go_sem, qW], by simp only [go_sem, qW], by simp only [go_sem, qW]; exact Mine.nil _ _⟩ ?_
  rintro k st hk ⟨fr, en, cnt, rfl, h1, h8, h9, h10, h5⟩
  simp only [go_sem, qC, qG, qW, h1, h8, h9, h10]
  refine condK_split (fun hq => ?_) (fun hq => ?_)
  · have h' : k < l.length := of_decide_eq_true hq
    simp only [go_sem, qC, qG, qW, h', h1, h8, h9, h10, (bind_program_formed_c1_pc _).ret]
    refine w_append (D := [19]) (xs := (l.take k).map fun c => Val.str c.name) (ys := [.str l[k].name]) (rs := []) ?_ ?_ ?_ ?_ ?_
    · simp only [go_sem, qW]
      exact h5.keep fun t g ht => by simp at ht; subst ht; simp only [go_sem, qW]
    · simp only [go_sem, qW]
    · rfl
    · simp; omega
    · intro v en' cnt' hown hen hcnt
      simp only [go_sem, qC, qG, qW, h', h1, h8, h9, h10]
      refine ⟨_, _, _, rfl, ?_⟩
      simp only [go_sem, qC, qG, qW, h', h1, h8, h9, h10, wrap_succ h' hf]
      exact Mine.sub (by rw [take_step h', List.map_append]; exact hown) (by simp)
  · have : k = l.length := by simp at hq; omega
    subst this
    rw [List.take_length] at h5
    simp only [go_sem, qC, qG, qW]
    obtain ⟨r, ks, e1, e2, _⟩ := mine_ret h5
    simp only [go_sem, qC, qG, qW, e1, e2]
theorem use_getI {u : List Int} {n : Nat} {x : Int} (hu : u.length = n) (h : inR x 0 ((n : Int) - 1) = true) : 0 ≤ x ∧ x < (n : Int) ∧ (u.map (Val.int .i64))[x.toNat]? = some (.int .i64 (u.getD x.toNat 0)) := by
  simp only [inR, decide_eq_true_eq] at h
  have hx : x.toNat < u.length := by omega
  exact ⟨by omega, by omega, by simp [List.getD_eq_getElem?_getD, hx]⟩
theorem bind_program_formed_pc (p : BProg) (hp : p.few) (hs : p.cons.length ≤ 1000) (hm : ∀ n ∈ p.nodes, n.pats.length ≤ 1000) : PC L F.bind_program_formed [.agg [.fz (p.nodes.map BNode.enc), .fz (p.funs.map (.int .i64)), .int .i64 p.main, .fz (p.cons.map BCon.enc)]] (.bool (formedB p)) := by
  have w1 := wrap_pred hp.nodes
  have w2 := wrap_pred hp.funs
  have ask1 : AsksT L (fun x : BCon => .agg [.str x.name, .int .i64 x.args]) (.fn F.bind_con [] []) conOk p.cons := by
    refine ⟨fun n en hn => ?_, rfl, rfl, rfl, fun x hx en K hK => ?_⟩
    · obtain ⟨m, rfl⟩ : ∃ m, n = m + 4 := ⟨n - 4, by omega⟩
      simp only [go_sem, qW]
    · simp only [go_sem, qW, (bind_con_pc x).ret]
      exact hK
  have ask2 : AsksT L (fun x : BNode => .agg [.int .i64 x.op, .int .i64 x.n, .fz (x.kids.map (.int .i64)), .fz (x.pats.map Pat.enc)]) (.fn F.bind_program_node [.agg [.fz (p.nodes.map BNode.enc), .fz (p.funs.map (.int .i64)), .int .i64 p.main, .fz (p.cons.map BCon.enc)]] []) (nodeOk p) p.nodes := by
    refine ⟨fun n en hn => ?_, rfl, rfl, rfl, fun x hx en K hK => ?_⟩
    · obtain ⟨m, rfl⟩ : ∃ m, n = m + 4 := ⟨n - 4, by omega⟩
      simp only [go_sem, qW]
    · simp only [go_sem, qW, (bind_program_node_pc p x hp (hp.node x hx) (hm x hx)).ret]
      exact hK
  have hd := bind_differ_pc (p.cons.map BCon.name) (by simpa using hp.cons)
  rw [show (p.cons.map BCon.name).map Val.str = p.cons.map fun c => Val.str c.name by simp] at hd
  refine pc_of LF.bind_program_formed rfl rfl ?_
  simp only [go_sem, qC, qG, qW, C.bind_program_formed, w1, w2]
  repeat' ((first | with_reducible refine condK_split (fun h => ?_) (fun h => ?_) | with_reducible refine guardK_split (fun h => ?_) (fun h => ?_)) <;> (try simp only [decide_eq_true_eq, decide_eq_false_iff_not, Bool.not_true, Bool.not_false] at h) <;> try simp only [go_sem, qC, qG, qW, *, (bind_in_pc _ _ _).ret, (bind_every_api_BindCon_pc _ _ _ hp.cons ask1).ret, (bind_mapped_pc _ hs).ret, hd.ret, (bind_every_api_BindNode_pc _ _ _ hp.nodes ask2).ret])
  all_goals (try simp only [Bool.not_eq_true', Bool.not_eq_false', Int.not_lt, Int.not_le] at *)
  all_goals try (simp [formedB, *]; done)
  all_goals try (simp [formedB, *]; intros; omega)
  have hn : p.nodes.length ≤ 16777216 := by omega
  have hfo : formedB p = allOne ((tally 0 (p.nodes.length - 1) (List.replicate p.nodes.length 0) p.funs).bind fun u => tallyNodes p 0 u p.nodes) := by
    simp [formedB, *]
    intros; omega
  rw [hfo]
  clear hfo
  simp only [go_sem, qC, qG, qW, mk_nat hn]
  refine wp_for p.funs.length (fun k st => ∃ fr en cnt u, st = ⟨fr, en, cnt⟩ ∧ (fr 1 = .ptr ⟨0, 1, 0⟩ 0 ∧ en ⟨0, 1, 0⟩ = some (.box p.cells false) ∧ fr 3 = .int .i64 p.nodes.length ∧ fr 4 = .bl ⟨0, 74, 0⟩ 0 p.nodes.length ∧ en ⟨0, 74, 0⟩ = some (.blk 1 (u.map (Val.int .i64)) false) ∧ u.length = p.nodes.length) ∧ fr 77 = .fz (p.funs.map (.int .i64)) ∧ fr 78 = .int .i64 p.funs.length ∧ fr 79 = .int .i64 k ∧ tally 0 (p.nodes.length - 1) u (p.funs.drop k) = tally 0 (p.nodes.length - 1) (List.replicate p.nodes.length 0) p.funs) 0 (Nat.zero_le _) ⟨_, _, _, List.replicate p.nodes.length 0, rfl, ⟨by simp only [go_sem, qW], by simp only [go_sem, qW], by simp only [go_sem, qW], by simp only [go_sem, qW], by simp only [go_sem, List.map_replicate], by simp⟩, by simp only [go_sem, qW], by simp only [go_sem, qW], by simp only [go_sem, qW], rfl⟩ ?_
  rintro k st hk ⟨fr, en, cnt, u, rfl, ⟨h1, e1, h3, h4, eu, hu⟩, h77, h78, h79, hI⟩
  simp only [go_sem, qC, qG, qW, h77, h78, h79]
  refine condK_split (fun hq => ?_) (fun hq => ?_)
  · have h' : k < p.funs.length := of_decide_eq_true hq
    rw [List.drop_eq_getElem_cons h', tally] at hI
    simp only [go_sem, qC, qG, qW, h', h1, e1, h3, h4, eu, h77, h78, h79, (bind_in_pc _ _ _).ret, w1]
    refine condK_split (fun hb => ?_) (fun hb => ?_)
    · simp only [go_sem, qC, qG, qW]
      simp at hb
      rw [hb] at hI
      simp at hI
      rw [← hI]; rfl
    · simp at hb
      obtain ⟨a1, a2, a3⟩ := use_getI hu hb
      rw [hb] at hI
      simp at hI
      simp only [go_sem, qC, qG, qW, h', h1, e1, h3, h4, eu, h77, h78, h79, a1, a2, a3]
      refine ⟨_, _, _, u.set p.funs[k].toNat (IntKind.i64.wrap (u.getD p.funs[k].toNat 0 + 1)), rfl, ?_⟩
      simp only [go_sem, qC, qG, qW, h', h1, e1, h3, h4, eu, h77, h78, h79, a1, a2, a3, ← List.map_set, wrap_succ h' hp.funs]
      exact ⟨by simp [hu], by simpa using hI⟩
  · have : k = p.funs.length := by simp at hq; omega
    subst this
    rw [List.drop_length, tally] at hI
    rw [← hI]
    simp only [Option.bind_some]
    clear hq hI hk
    generalize hM : tallyNodes p 0 u p.nodes = M
    simp only [go_sem, qC, qG, qW, h1, e1, h3]
    refine wp_for p.nodes.length (fun k st => ∃ fr en cnt u, st = ⟨fr, en, cnt⟩ ∧ (fr 1 = .ptr ⟨0, 1, 0⟩ 0 ∧ en ⟨0, 1, 0⟩ = some (.box p.cells false) ∧ fr 3 = .int .i64 p.nodes.length ∧ fr 4 = .bl ⟨0, 74, 0⟩ 0 p.nodes.length ∧ en ⟨0, 74, 0⟩ = some (.blk 1 (u.map (Val.int .i64)) false) ∧ u.length = p.nodes.length) ∧ fr 97 = .fz (p.nodes.map BNode.enc) ∧ fr 98 = .int .i64 p.nodes.length ∧ fr 99 = .int .i64 k ∧ tallyNodes p k u (p.nodes.drop k) = M) 0 (Nat.zero_le _) ⟨_, _, _, u, rfl, ⟨by simp only [go_sem, h1, e1, h3, h4, eu, hu], by simp only [go_sem, h1, e1, h3, h4, eu, hu], by simp only [go_sem, h1, e1, h3, h4, eu, hu], by simp only [go_sem, h1, e1, h3, h4, eu, hu], by simp only [go_sem, h1, e1, h3, h4, eu, hu], hu⟩, by simp only [go_sem, qW], by simp only [go_sem, qW], by simp only [go_sem, qW], hM⟩ ?_
    clear hM h1 e1 h3 h4 eu hu h77 h78 h79
    rintro k st hk ⟨fr, en, cnt, u, rfl, ⟨h1, e1, h3, h4, eu, hu⟩, h97, h98, h99, hI⟩
    simp only [go_sem, qC, qG, qW, h97, h98, h99]
    refine condK_split (fun hq => ?_) (fun hq => ?_)
    · have h' : k < p.nodes.length := of_decide_eq_true hq
      have hx := hp.node p.nodes[k] (List.getElem_mem _)
      rw [List.drop_eq_getElem_cons h', tallyNodes] at hI
      generalize hmm : tally ((k : Int) + 1) (p.nodes.length - 1) u p.nodes[k].kids = m at hI
      simp only [go_sem, qC, qG, qW, h', h1, e1, h3, h97, h98, h99]
      refine wp_for p.nodes[k].kids.length (fun j st => ∃ fr en cnt u, st = ⟨fr, en, cnt⟩ ∧ (fr 1 = .ptr ⟨0, 1, 0⟩ 0 ∧ en ⟨0, 1, 0⟩ = some (.box p.cells false) ∧ fr 3 = .int .i64 p.nodes.length ∧ fr 4 = .bl ⟨0, 74, 0⟩ 0 p.nodes.length ∧ en ⟨0, 74, 0⟩ = some (.blk 1 (u.map (Val.int .i64)) false) ∧ u.length = p.nodes.length) ∧ fr 7 = .int .i64 k ∧ fr 97 = .fz (p.nodes.map BNode.enc) ∧ fr 98 = .int .i64 p.nodes.length ∧ fr 99 = .int .i64 k ∧ fr 105 = .fz (p.nodes[k].kids.map (.int .i64)) ∧ fr 106 = .int .i64 p.nodes[k].kids.length ∧ fr 107 = .int .i64 j ∧ tally ((k : Int) + 1) (p.nodes.length - 1) u (p.nodes[k].kids.drop j) = m) 0 (Nat.zero_le _) ⟨_, _, _, u, rfl, ⟨by simp only [go_sem, h1, e1, h3, h4, eu, hu], by simp only [go_sem, h1, e1, h3, h4, eu, hu], by simp only [go_sem, h1, e1, h3, h4, eu, hu], by simp only [go_sem, h1, e1, h3, h4, eu, hu], by simp only [go_sem, h1, e1, h3, h4, eu, hu], hu⟩, by simp only [go_sem, qW], by simp only [go_sem, h97], by simp only [go_sem, h98], by simp only [go_sem, h99], by simp only [go_sem, qW], by simp only [go_sem, qW], by simp only [go_sem, qW], hmm⟩ ?_
      clear hmm h1 e1 h3 h4 eu hu h97 h98 h99
      rintro j st hj ⟨fr, en, cnt, u, rfl, ⟨h1, e1, h3, h4, eu, hu⟩, h7, h97, h98, h99, h105, h106, h107, hJ⟩
      simp only [go_sem, qC, qG, qW, h105, h106, h107]
      refine condK_split (fun h2 => ?_) (fun h2 => ?_)
      · have h2' : j < p.nodes[k].kids.length := of_decide_eq_true h2
        rw [List.drop_eq_getElem_cons h2', tally] at hJ
        have w3 : IntKind.i64.wrap ((k : Int) + 1) = (k : Int) + 1 := wrap_in (by omega)
        simp only [go_sem, qC, qG, qW, h2', h3, h7, h105, h106, h107, (bind_in_pc _ _ _).ret, w1, w3]
        refine condK_split (fun hc => ?_) (fun hc => ?_)
        · simp only [go_sem, qC, qG, qW]
          simp at hc
          rw [hc] at hJ
          simp at hJ
          rw [← hI, ← hJ]; rfl
        · simp at hc
          have hc0 : inR p.nodes[k].kids[j] 0 ((p.nodes.length : Int) - 1) = true := by simp [inR] at hc ⊢; omega
          obtain ⟨a1, a2, a3⟩ := use_getI hu hc0
          rw [hc] at hJ
          simp at hJ
          simp only [go_sem, qC, qG, qW, h2', h1, e1, h3, h4, eu, h7, h97, h98, h99, h105, h106, h107, a1, a2, a3]
          refine ⟨_, _, _, u.set p.nodes[k].kids[j].toNat (IntKind.i64.wrap (u.getD p.nodes[k].kids[j].toNat 0 + 1)), rfl, ?_⟩
          simp only [go_sem, qC, qG, qW, h2', h1, e1, h3, h4, eu, h7, h97, h98, h99, h105, h106, h107, a1, a2, a3, ← List.map_set, wrap_succ h2' hx.kids]
          exact ⟨by simp [hu], by simpa using hJ⟩
      · have : j = p.nodes[k].kids.length := by simp at h2; omega
        subst this
        rw [List.drop_length, tally] at hJ
        rw [← hJ] at hI
        simp only [Option.bind_some] at hI
        simp only [go_sem, qC, qG, qW, h', h1, e1, h3, h4, eu, h97, h98, h99]
        refine ⟨_, _, _, u, rfl, ?_⟩
        simp only [go_sem, qC, qG, qW, h1, e1, h3, h4, eu, h97, h98, h99, hu, wrap_succ h' hp.nodes]
        exact hI
    · have : k = p.nodes.length := by simp at hq; omega
      subst this
      rw [List.drop_length, tallyNodes] at hI
      rw [← hI]
      have ask3 : AsksT L (fun x : Int => .int .i64 x) (.fn F.bind_program_formed_c2 [] []) (fun c => decide (c = 1)) u := by
        refine ⟨fun n en hn => ?_, rfl, rfl, rfl, fun x hx en K hK => ?_⟩
        · obtain ⟨m, rfl⟩ : ∃ m, n = m + 4 := ⟨n - 4, by omega⟩
          simp only [go_sem, qW]
        · simp only [go_sem, qW, (bind_program_formed_c2_pc x).ret]
          exact hK
      have ht : List.take p.nodes.length (u.map (Val.int .i64)) = u.map (Val.int .i64) := List.take_of_length_le (by simp [hu])
      simp only [go_sem, qC, qG, qW, h4, eu, hu, Nat.le_refl, ht, (bind_every_int_pc u _ _ (by rw [hu]; exact hp.nodes) ask3).ret]
      rfl
theorem bind_Check_pc (p : BProg) (hp : p.few) (hs : smallProg p = true) : PC L F.bind_Check [.agg [.fz (p.nodes.map BNode.enc), .fz (p.funs.map (.int .i64)), .int .i64 p.main, .fz (p.cons.map BCon.enc)]] (.int .i64 (if formedOk p then 0 else 2)) := by
  have hs' := hs
  simp only [smallProg, Bool.and_eq_true, decide_eq_true_eq] at hs'
  obtain ⟨⟨⟨⟨h1, h2⟩, h3⟩, h4⟩, h5⟩ := hs'
  have hm : ∀ n ∈ p.nodes, n.pats.length ≤ 1000 := by
    intro n hn
    have := List.all_eq_true.1 h5 n hn
    simp only [smallNode, Bool.and_eq_true, decide_eq_true_eq] at this
    omega
  have h := bind_program_formed_pc p hp (by omega) hm
  rw [formed_same p hs] at h
  refine pc_of LF.bind_Check rfl rfl ?_
  simp only [go_sem, qC, qG, qW, C.bind_Check, h.ret]
  cases hf : formedOk p <;> simp only [go_sem, qC, qG, qW, hf, Bool.not_true, Bool.not_false]
end Go.Proofs.YthpmfghgoabnhaaGreat
