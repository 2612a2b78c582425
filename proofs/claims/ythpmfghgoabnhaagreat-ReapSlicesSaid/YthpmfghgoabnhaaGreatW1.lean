/- Contracts: what is as defined (chapters 5 and 6), by the document's answer. -/
import Derived.Test.YthpmfghgoabnhaaGreatCo
import Derived.Test.YthpmfghgoabnhaaGreatSp
set_option linter.all false
namespace Go.Proofs.YthpmfghgoabnhaaGreat
open Go.Abs Go.Proofs
theorem R06_in_pc (n lo hi : Int) : PC L F.R06_in [.int .i64 n, .int .i64 lo, .int .i64 hi] (.bool (inR n lo hi)) := by
  refine pc_of LF.R06_in rfl rfl ?_
  simp only [go_sem, qW, C.R06_in]
  refine guard_split (fun h => ?_) (fun h => ?_) <;> simp only [go_sem, qW, h] <;> simp at h <;> simp [h, inR]
  omega
theorem R06_listed_pc (l : List Int) (n : Int) (hl : Few l.length) : PC L F.R06_listed [.fz (l.map (.int .i64)), .int .i64 n] (.bool (l.any fun x => decide (x = n))) := by
  refine pc_of LF.R06_listed rfl rfl ?_
  simp only [go_sem, qW, C.R06_listed]
  refine wp_for l.length (fun k st => ∃ fr en cnt, st = ⟨fr, en, cnt⟩ ∧ fr 0 = .fz (l.map (.int .i64)) ∧ fr 1 = .int .i64 n ∧ fr 5 = .int .i64 k ∧ (l.drop k).any (fun x => decide (x = n)) = l.any fun x => decide (x = n)) 0 (Nat.zero_le _) ⟨_, _, _, rfl, by simp only [go_sem, qW], by simp only [go_sem, qW], by simp only [go_sem, qW], rfl⟩ ?_
  rintro k st hk ⟨fr, en, cnt, rfl, h0, h1, h5, hI⟩
  simp only [go_sem, qW, h0, h1, h5]
  refine wcond_split (fun h => ?_) (fun h => ?_)
  · have h' : k < l.length := of_decide_eq_true h
    rw [any_step h'] at hI
    simp only [go_sem, qW, h', h0, h1, h5]
    refine wcond_split (fun h2 => ?_) (fun h2 => ?_)
    · rw [← hI, h2]; rfl
    · refine ⟨_, _, _, rfl, ?_⟩
      simp only [go_sem, qW, h0, h1, h5, wrap_succ h' hl]
      rw [← hI, h2]; simp
  · have : k = l.length := by simp at h; omega
    subst this
    rw [← hI]; simp
theorem R06_Asks_pc (n : BNode) : PC L F.R06_Asks [.agg [.int .i64 n.op, .int .i64 n.n, .fz (n.kids.map (.int .i64)), .fz (n.pats.map Pat.enc)]] (.int .i64 n.asks) := by
  refine pc_of LF.R06_Asks rfl rfl ?_
  simp only [go_sem, qW, C.R06_Asks]
  repeat' ((first | with_reducible refine wcond_split (fun h => ?_) (fun h => ?_) | with_reducible refine guard_split (fun h => ?_) (fun h => ?_)) <;> (try simp only [decide_eq_true_eq, decide_eq_false_iff_not, Bool.not_true, Bool.not_false] at h) <;> try simp only [go_sem, qW, h])
  all_goals simp [BNode.asks, *]
theorem R06_value_pc (p : BProg) (w : MWorld) (v : MVal) (hp : p.few) (hw : w.few) : PC L F.R06_value [.agg [.fz (p.nodes.map BNode.enc), .fz (p.funs.map (.int .i64)), .int .i64 p.main, .fz (p.cons.map BCon.enc)], .agg [.fz (w.objs.map MObj.enc), .fz (w.tasks.map (.int .i64)), .fz (w.outs.map MOut.enc), .fz (w.ins.map (.int .i64)), .int .i64 w.used], .agg [.int .i64 v.kind, .int .i64 v.n]] (.bool (valueOk p w v)) := by
  refine pc_of LF.R06_value rfl rfl ?_
  simp only [go_sem, qW, C.R06_value, (R06_in_pc _ _ _).ret, wrap_pred hp.funs, wrap_pred hw.objs]
  repeat' ((first | with_reducible refine wcond_split (fun h => ?_) (fun h => ?_) | with_reducible refine guard_split (fun h => ?_) (fun h => ?_)) <;> (try simp only [decide_eq_true_eq, decide_eq_false_iff_not, Bool.not_true, Bool.not_false] at h) <;> try simp only [go_sem, qW, h, (R06_in_pc _ _ _).ret, wrap_pred hp.funs, wrap_pred hw.objs])
  all_goals simp [valueOk, *]
theorem R06_values_pc (p : BProg) (w : MWorld) (l : List MVal) (m : Int) (hp : p.few) (hw : w.few) (hl : Few l.length) :
    PC L F.R06_values [.agg [.fz (p.nodes.map BNode.enc), .fz (p.funs.map (.int .i64)), .int .i64 p.main, .fz (p.cons.map BCon.enc)], .agg [.fz (w.objs.map MObj.enc), .fz (w.tasks.map (.int .i64)), .fz (w.outs.map MOut.enc), .fz (w.ins.map (.int .i64)), .int .i64 w.used], .fz (l.map MVal.enc), .int .i64 m] (.bool (valuesOk p w l m)) := by
  refine pc_of LF.R06_values rfl rfl ?_
  simp only [go_sem, qW, C.R06_values]
  refine wp_for (l.length) (fun k st => ∃ fr en cnt, st = ⟨fr, en, cnt⟩ ∧ (fr 2 = .fz (l.map MVal.enc)) ∧ (fr 3 = .int .i64 m) ∧ (fr 4 = .ptr ⟨0, 4, 0⟩ 0) ∧ (en ⟨0, 4, 0⟩ = some (.box p.cells false)) ∧ (fr 5 = .ptr ⟨0, 5, 0⟩ 0) ∧ (en ⟨0, 5, 0⟩ = some (.box w.cells false)) ∧ (fr 9 = .int .i64 k) ∧ ((l.drop k).all (valueOk p w) = l.all (valueOk p w))) 0 (Nat.zero_le _) ⟨_, _, _, rfl, (by first | (simp only [go_sem, qW]; (try rfl); done) | rfl | simp), (by first | (simp only [go_sem, qW]; (try rfl); done) | rfl | simp), (by first | (simp only [go_sem, qW]; (try rfl); done) | rfl | simp), (by first | (simp only [go_sem, qW]; (try rfl); done) | rfl | simp), (by first | (simp only [go_sem, qW]; (try rfl); done) | rfl | simp), (by first | (simp only [go_sem, qW]; (try rfl); done) | rfl | simp), (by first | (simp only [go_sem, qW]; (try rfl); done) | rfl | simp), (by first | (simp only [go_sem, qW]; (try rfl); done) | rfl | simp)⟩ ?_
  rintro k st hk ⟨fr, en, cnt, rfl, h2, h3, h4, e4, h5, e5, h9, hI⟩
  simp only [go_sem, qW, h2, h3, h4, e4, h5, e5, h9]
  refine guard_split (fun h => ?_) (fun h => ?_)
  · have h' : k < l.length := of_decide_eq_true h
    rw [all_step h'] at hI
    simp only [go_sem, qW, h, h', h2, h3, h4, e4, h5, e5, h9]
    refine wcond_split (fun hm => ?_) (fun hm => ?_)
    · simp only [go_sem, qW, h', h2, h3, h4, e4, h5, e5, h9, (R06_value_pc p w _ hp hw).ret]
      refine wcond_split (fun hb => ?_) (fun hb => ?_)
      · simp at hb
        simp [valuesOk, ← hI, hb]
      · simp at hb
        refine ⟨_, _, _, rfl, ?_⟩
        simp only [go_sem, qW, h2, h3, h4, e4, h5, e5, h9, wrap_succ h' hl]
        rw [← hI, hb]; simp
    · simp at hm
      try simp only [go_sem, qW, h2, h3, h4, e4, h5, e5, h9]
      simp [valuesOk]
      omega
  · have : k = l.length := by simp at h; omega
    subst this
    try simp only [go_sem, qW, h, h2, h3, h4, e4, h5, e5, h9]
    simp at hI
    simp [valuesOk]
    exact fun _ => hI
theorem R06_frames_pc (p : BProg) (w : MWorld) (l : List MFrame) (hp : p.few) (hw : w.few) (hl : Few l.length) (hf : ∀ f ∈ l, f.few) :
    PC L F.R06_frames [.agg [.fz (p.nodes.map BNode.enc), .fz (p.funs.map (.int .i64)), .int .i64 p.main, .fz (p.cons.map BCon.enc)], .agg [.fz (w.objs.map MObj.enc), .fz (w.tasks.map (.int .i64)), .fz (w.outs.map MOut.enc), .fz (w.ins.map (.int .i64)), .int .i64 w.used], .fz (l.map MFrame.enc)] (.bool (framesOk p w l)) := by
  refine pc_of LF.R06_frames rfl rfl ?_
  simp only [go_sem, qW, C.R06_frames]
  refine wp_for (l.length) (fun k st => ∃ fr en cnt, st = ⟨fr, en, cnt⟩ ∧ (fr 2 = .fz (l.map MFrame.enc)) ∧ (fr 3 = .ptr ⟨0, 3, 0⟩ 0) ∧ (en ⟨0, 3, 0⟩ = some (.box p.cells false)) ∧ (fr 4 = .ptr ⟨0, 4, 0⟩ 0) ∧ (en ⟨0, 4, 0⟩ = some (.box w.cells false)) ∧ (fr 7 = .int .i64 k) ∧ ((l.drop k).all (frameOk p w) = l.all (frameOk p w))) 0 (Nat.zero_le _) ⟨_, _, _, rfl, (by first | (simp only [go_sem, qW]; (try rfl); done) | rfl | simp), (by first | (simp only [go_sem, qW]; (try rfl); done) | rfl | simp), (by first | (simp only [go_sem, qW]; (try rfl); done) | rfl | simp), (by first | (simp only [go_sem, qW]; (try rfl); done) | rfl | simp), (by first | (simp only [go_sem, qW]; (try rfl); done) | rfl | simp), (by first | (simp only [go_sem, qW]; (try rfl); done) | rfl | simp), (by first | (simp only [go_sem, qW]; (try rfl); done) | rfl | simp)⟩ ?_
  rintro k st hk ⟨fr, en, cnt, rfl, h2, h3, e3, h4, e4, h7, hI⟩
  simp only [go_sem, qW, h2, h3, e3, h4, e4, h7]
  refine guard_split (fun h => ?_) (fun h => ?_)
  · have h' : k < l.length := of_decide_eq_true h
    rw [all_step h'] at hI
    have hx := hf l[k] (List.getElem_mem _)
    simp only [go_sem, qW, h, h', h2, h3, e3, h4, e4, h7]
    refine wcond_split (fun hm => ?_) (fun hm => ?_)
    · refine wp_still ?_ ?_
      · decide
      simp only [go_sem, qW, h', h2, h3, e3, h4, e4, h7, (R06_in_pc _ _ _).ret, wrap_pred hp.nodes]
      refine guard_split (fun hb => ?_) (fun hb => ?_)
      · have hb' : inR l[k].node 0 (p.nodes.length - 1) = true := by simpa using hb
        simp only [go_sem, qW, hb, hb', h2, h3, e3, h4, e4, h7, (R06_values_pc p w _ _ hp hw hx.1).ret]
        refine guard_split (fun hc => ?_) (fun hc => ?_)
        · have hc' : valuesOk p w l[k].env 30 = true := by simpa using hc
          simp only [go_sem, qW, hc, hc', hb', h2, h3, e3, h4, e4, h7, ia_node, (R06_Asks_pc _).ret, (R06_values_pc p w _ _ hp hw hx.2).ret]
          refine wcond_split (fun hd => ?_) (fun hd => ?_)
          · simp at hd
            simp [framesOk, ← hI, frameOk, hb', hc', hd]
          · simp at hd
            refine ⟨_, _, _, rfl, ?_⟩
            simp only [go_sem, qW, h2, h3, e3, h4, e4, h7, wrap_succ h' hl]
            rw [← hI]; simp [frameOk, hb', hc', hd]
        · simp only [go_sem, qW, hc, hb', h2, h3, e3, h4, e4, h7]
          simp at hc
          simp [framesOk, ← hI, frameOk, hc]
      · simp only [go_sem, qW, hb, h2, h3, e3, h4, e4, h7]
        simp at hb
        simp [framesOk, ← hI, frameOk, hb]
    · simp at hm
      try simp only [go_sem, qW, h2, h3, e3, h4, e4, h7]
      simp [framesOk]
      omega
  · have : k = l.length := by simp at h; omega
    subst this
    try simp only [go_sem, qW, h, h2, h3, e3, h4, e4, h7]
    simp at hI
    simp [framesOk]
    exact fun _ => hI
end Go.Proofs.YthpmfghgoabnhaaGreat
