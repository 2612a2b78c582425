/- reap.Check: which states are as defined. -/
import Derived.Test.YthpmfghgoabnhaaGreatW15
import Derived.Test.YthpmfghgoabnhaaGreatW11
set_option linter.all false
namespace Go.Proofs.YthpmfghgoabnhaaGreat
open Go.Abs Go.Proofs
theorem reap_isTask_pc (o : MObj) : PC L F.reap_isTask [.agg [.int .i64 o.form, .int .i64 o.n, .fz (o.vals.map MVal.enc), .fz (o.frames.map MFrame.enc)]] (.bool (isTask o)) := by
  refine pc_of LF.reap_isTask rfl rfl ?_
  simp only [go_sem, qC, qG, qW, Nat.reduceEqDiff, Nat.reduceAdd, Nat.reduceLeDiff, Int.reduceToNat, Int.reduceEq, C.reap_isTask]
  simp [isTask]
end Go.Proofs.YthpmfghgoabnhaaGreat
