/- Contracts: what is formed, by the program, II. -/
import Derived.Test.YthpmfghgoabnhaaGreatW6
import Derived.Test.YthpmfghgoabnhaaGreatSp3
set_option linter.all false
namespace Go.Proofs.YthpmfghgoabnhaaGreat
open Go.Abs Go.Proofs
theorem bin_if1 {t : Nat} {v : Val} : binVal .eql .iface (.ifc t v) .nili = some (.bool false) := (rfl)
theorem bin_if0 : binVal .eql .iface .nili .nili = some (.bool true) := (rfl)
theorem bind_kidsOf_pc (op : Int) : PC L F.bind_kidsOf [.int .i64 op] (kidsVal op) := by
  refine pc_of LF.bind_kidsOf rfl rfl ?_
  simp only [go_sem, qC, qG, qW, C.bind_kidsOf]
  repeat' ((first | with_reducible refine condK_split (fun h => ?_) (fun h => ?_) | with_reducible refine guardK_split (fun h => ?_) (fun h => ?_)) <;> (try simp only [decide_eq_true_eq, decide_eq_false_iff_not, Bool.not_true, Bool.not_false] at h) <;> try simp only [go_sem, qC, qG, qW, h])
  all_goals simp [kidsVal, *]
theorem bind_fixed_fine_pc (c : Int) (p : BProg) (n : BNode) : PC L F.bind_fixed_fine [.int .i64 c, .agg [.fz (p.nodes.map BNode.enc), .fz (p.funs.map (.int .i64)), .int .i64 p.main, .fz (p.cons.map BCon.enc)], .agg [.int .i64 n.op, .int .i64 n.n, .fz (n.kids.map (.int .i64)), .fz (n.pats.map Pat.enc)]] (.bool (decide ((n.kids.length : Int) = c))) := by
  refine pc_of LF.bind_fixed_fine rfl rfl ?_
  simp only [go_sem, qC, qG, qW, C.bind_fixed_fine]
theorem bind_ofMatch_fine_pc (p : BProg) (n : BNode) (hn : n.pats.length ≤ 1000) : PC L F.bind_ofMatch_fine [.agg [], .agg [.fz (p.nodes.map BNode.enc), .fz (p.funs.map (.int .i64)), .int .i64 p.main, .fz (p.cons.map BCon.enc)], .agg [.int .i64 n.op, .int .i64 n.n, .fz (n.kids.map (.int .i64)), .fz (n.pats.map Pat.enc)]] (.bool (inR n.pats.length 1 5 && decide ((n.kids.length : Int) = 1 + n.pats.length))) := by
  have e : IntKind.i64.wrap (1 + (n.pats.length : Int)) = 1 + n.pats.length := wrap_in (by omega)
  refine pc_of LF.bind_ofMatch_fine rfl rfl ?_
  simp only [go_sem, qC, qG, qW, C.bind_ofMatch_fine, (bind_in_pc _ _ _).ret]
  refine guardK_split (fun h => ?_) (fun h => ?_) <;> simp only [go_sem, qC, qG, qW, h, e] <;> simp [h]
theorem bind_ofCon_fine_pc (p : BProg) (n : BNode) (hc : Few p.cons.length) : PC L F.bind_ofCon_fine [.agg [], .agg [.fz (p.nodes.map BNode.enc), .fz (p.funs.map (.int .i64)), .int .i64 p.main, .fz (p.cons.map BCon.enc)], .agg [.int .i64 n.op, .int .i64 n.n, .fz (n.kids.map (.int .i64)), .fz (n.pats.map Pat.enc)]] (.bool (inR n.n 0 (p.cons.length - 1) && decide ((n.kids.length : Int) = (p.cons.getD n.n.toNat default).args))) := by
  refine pc_of LF.bind_ofCon_fine rfl rfl ?_
  simp only [go_sem, qC, qG, qW, C.bind_ofCon_fine, (bind_in_pc _ _ _).ret, wrap_pred hc]
  refine guardK_split (fun h => ?_) (fun h => ?_) <;> simp only [go_sem, qC, qG, qW, h, ia_con] <;> simp [h]
def numB (p : BProg) (n : BNode) : Bool := if n.op = 14 then true else numOk p n
theorem bind_program_number_pc (p : BProg) (n : BNode) (hp : p.few) : PC L F.bind_program_number [.agg [.fz (p.nodes.map BNode.enc), .fz (p.funs.map (.int .i64)), .int .i64 p.main, .fz (p.cons.map BCon.enc)], .agg [.int .i64 n.op, .int .i64 n.n, .fz (n.kids.map (.int .i64)), .fz (n.pats.map Pat.enc)]] (.bool (numB p n)) := by
  have e1 : IntKind.i64.wrap (0 - (p.funs.length : Int)) = -(p.funs.length : Int) := by have := hp.funs; unfold Few at this; rw [wrap_in (by omega)]; omega
  refine pc_of LF.bind_program_number rfl rfl ?_
  simp only [go_sem, qC, qG, qW, C.bind_program_number]
  repeat' ((first | with_reducible refine condK_split (fun h => ?_) (fun h => ?_) | with_reducible refine guardK_split (fun h => ?_) (fun h => ?_)) <;> (try simp only [decide_eq_true_eq, decide_eq_false_iff_not, Bool.not_true, Bool.not_false] at h) <;> try simp only [go_sem, qC, qG, qW, h, e1, (bind_in_pc _ _ _).ret, (bind_integer_pc _).ret])
  all_goals simp [numB, numOk, *]
theorem bind_program_node_c1_pc (p : BProg) (hc : Few p.cons.length) (q : Pat) (hq : q.few) : PC L F.bind_program_node_c1 [.agg [.int .i64 q.form, .int .i64 q.n, .str q.text, .fz (q.parts.map Pat.enc)], .fp p.cells 0] (.bool (patFine p.cons q)) := by
  refine pc_of LF.bind_program_node_c1 rfl rfl ?_
  simp only [go_sem, qC, qG, qW, C.bind_program_node_c1, (bind_size_pc q hq 12 (by omega) (by omega)).ret, psize_12]
  refine guardK_split (fun h => ?_) (fun h => ?_) <;> simp only [go_sem, qC, qG, qW, h, (bind_program_pat_pc p hc q hq).ret] <;> simp at h <;> simp [patFine, h]
  intros; omega
theorem bind_program_node_pc (p : BProg) (n : BNode) (hp : p.few) (hn : n.few) (hm : n.pats.length ≤ 1000) : PC L F.bind_program_node [.agg [.fz (p.nodes.map BNode.enc), .fz (p.funs.map (.int .i64)), .int .i64 p.main, .fz (p.cons.map BCon.enc)], .agg [.int .i64 n.op, .int .i64 n.n, .fz (n.kids.map (.int .i64)), .fz (n.pats.map Pat.enc)]] (.bool (nodeOk p n)) := by
  have ask : AsksT L (fun x : Pat => .agg [.int .i64 x.form, .int .i64 x.n, .str x.text, .fz (x.parts.map Pat.enc)]) (.fn F.bind_program_node_c1 [] [.fp p.cells 0]) (patFine p.cons) n.pats := by
    refine ⟨fun n en hn => ?_, rfl, rfl, rfl, fun x hx en K hK => ?_⟩
    · obtain ⟨m, rfl⟩ : ∃ m, n = m + 4 := ⟨n - 4, by omega⟩
      simp only [go_sem, qW]
    · have := bind_program_node_c1_pc p hp.cons x (hn.pat x hx)
      simp only [go_sem, qW] at this
      simp only [go_sem, qW, this.ret]
      exact hK
  have hev := bind_every_api_TermPat_pc n.pats _ _ hn.pats ask
  simp only [go_sem, qW] at hev
  have hnum := bind_program_number_pc p n hp
  refine pc_of LF.bind_program_node rfl rfl ?_
  rcases kidsVal_cases n.op with ⟨c, hk, hko, h14, h15⟩ | ⟨h14, hk⟩ | ⟨h15, hk⟩ | ⟨hk, hko, h14, h15⟩
  · simp only [go_sem, qC, qG, qW, C.bind_program_node, (bind_kidsOf_pc _).ret, hk, bin_if1]
    refine condK_split (fun h => ?_) (fun h => ?_)
    · simp only [go_sem, qC, qG, qW]
      simp at h
      simp [nodeOk, patsNum, h15]
      intros; simp_all
    · simp only [go_sem, qC, qG, qW, (bind_fixed_fine_pc c p n).ret]
      simp at h
      refine guardK_split (fun h2 => ?_) (fun h2 => ?_)
      · simp only [go_sem, qC, qG, qW, h2, hnum.ret]
        refine guardK_split (fun h3 => ?_) (fun h3 => ?_)
        · simp only [go_sem, qC, qG, qW, h3, hev.ret]
          simp [numB, h14] at h2 h3
          simp [nodeOk, patsNum, h15, h, hko, h2, h3]
        · simp only [go_sem, qC, qG, qW, h3]
          simp [numB, h14] at h3
          simp [nodeOk, h3]
      · simp only [go_sem, qC, qG, qW, h2]
        simp at h2
        simp [nodeOk, hko, h2]
  · simp only [go_sem, qC, qG, qW, C.bind_program_node, (bind_kidsOf_pc _).ret, hk, bin_if1]
    refine condK_split (fun h => ?_) (fun h => ?_)
    · simp only [go_sem, qC, qG, qW]
      simp at h
      simp [nodeOk, patsNum, h14]
      intros; simp_all
    · simp only [go_sem, qC, qG, qW, (bind_ofCon_fine_pc p n hp.cons).ret]
      simp at h
      refine guardK_split (fun h2 => ?_) (fun h2 => ?_)
      · simp only [go_sem, qC, qG, qW, h2, hnum.ret]
        refine guardK_split (fun h3 => ?_) (fun h3 => ?_)
        · simp only [go_sem, qC, qG, qW, h3, hev.ret]
          simp at h2
          simp [nodeOk, patsNum, numOk, kidsOf, argsOf, h14, h, h2]
        · simp only [go_sem, qC, qG, qW, h3]
          simp [numB, h14] at h3
      · simp only [go_sem, qC, qG, qW, h2]
        simp at h2
        simp [nodeOk, patsNum, numOk, kidsOf, argsOf, h14, h]
        intros; simp_all
  · simp only [go_sem, qC, qG, qW, C.bind_program_node, (bind_kidsOf_pc _).ret, hk, bin_if1]
    simp only [go_sem, qC, qG, qW, (bind_ofMatch_fine_pc p n hm).ret]
    refine guardK_split (fun h2 => ?_) (fun h2 => ?_)
    · simp only [go_sem, qC, qG, qW, h2, hnum.ret]
      refine guardK_split (fun h3 => ?_) (fun h3 => ?_)
      · simp only [go_sem, qC, qG, qW, h3, hev.ret]
        simp [numB, h15] at h2 h3
        simp [nodeOk, patsNum, kidsOf, h15, h2, h3]
      · simp only [go_sem, qC, qG, qW, h3]
        simp [numB, h15] at h3
        simp [nodeOk, h3]
    · simp only [go_sem, qC, qG, qW, h2]
      simp at h2
      simp [nodeOk, patsNum, kidsOf, h15]
      intros; simp_all
  · simp only [go_sem, qC, qG, qW, C.bind_program_node, (bind_kidsOf_pc _).ret, hk, bin_if0]
    simp [nodeOk, hko]
end Go.Proofs.YthpmfghgoabnhaaGreat
