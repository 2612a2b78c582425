/- First states: the document's answer. -/
import Derived.Test.YthpmfghgoabnhaaGreatW17
set_option linter.unusedVariables false
set_option linter.unusedSimpArgs false
namespace Go.Proofs.YthpmfghgoabnhaaGreat
open Go.Abs Go.Proofs

theorem flat_fz {xs cs : List Val} : (Val.agg (.fz xs :: cs)).flat = false := (rfl)
theorem apply_frz {en : En} {k : Key} : W.apply en (.frz k) = (match en k with
    | some e => en.set k (some e.freeze)
    | none => en) := (rfl)
theorem frz_blk {n : Nat} {cs : List Val} {f : Bool} : Ent.freeze (.blk n cs f) = .blk n cs true := (rfl)
theorem frz_box {cs : List Val} {f : Bool} : Ent.freeze (.box cs f) = .box cs true := (rfl)
def zeros (n : Nat) : List Int := List.replicate n 0
theorem R18_Begin_pc (w : MWorld) (hw : w.few) (hsm : smallWorld w = true) (hin : ∀ o ∈ w.objs, ∀ x ∈ refsL o, inR x 0 ((w.objs.length : Int) - 1) = true) :
    PC L F.R18_Begin [.agg [.fz (w.objs.map MObj.enc), .fz (w.tasks.map (.int .i64)), .fz (w.outs.map MOut.enc), .fz (w.ins.map (.int .i64)), .int .i64 w.used]] (.agg [.fz (w.objs.map MObj.enc), .fz (w.tasks.map (.int .i64)), .fz (w.outs.map MOut.enc), .fz (w.ins.map (.int .i64)), .int .i64 w.used, .fz ((zeros w.objs.length).map (.int .i64)), .fz ((marksB lt2 w (zeros w.objs.length) 0).map (.int .i64)), .int .i64 0]) := by
  have hle : w.objs.length ≤ 130 := by
    simp only [smallWorld, Bool.and_eq_true, decide_eq_true_eq] at hsm
    omega
  have hb := R18_begun_pc w (zeros w.objs.length) 0 hw hsm (by simp [zeros]) hin
  have e : (zeros w.objs.length).map (Val.int .i64) = List.replicate w.objs.length (.int .i64 0) := by simp [zeros]
  rw [e] at hb ⊢
  refine pc_of LF.R18_Begin rfl rfl ?_
  simp only [go_sem, qC, qG, qS, qW, Nat.reduceEqDiff, Nat.reduceAdd, Nat.reduceLeDiff, C.R18_Begin]
  refine wp_foot ?_
  have hmk : w.objs.length ≤ 16777216 := by omega
  simp only [go_sem, qC, qG, qS, qW, Nat.reduceEqDiff, Nat.reduceAdd, Nat.reduceLeDiff, List.all_cons, List.getElem?_cons_zero, List.getElem?_cons_succ, Bool.true_or, Bool.or_true, mk_nat hmk, List.length_replicate, Nat.le_refl, if_true, List.take_replicate, Nat.min_self, hb.ret, flat_fz, Bool.false_eq_true, if_false, apply_frz, frz_blk]
end Go.Proofs.YthpmfghgoabnhaaGreat
