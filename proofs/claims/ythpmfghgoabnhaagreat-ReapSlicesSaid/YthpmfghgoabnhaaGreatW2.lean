/- Contracts: objects and worlds, by the document's answer. -/
import Derived.Test.YthpmfghgoabnhaaGreatW1
set_option linter.all false
namespace Go.Proofs.YthpmfghgoabnhaaGreat
open Go.Abs Go.Proofs
theorem R06_Open_pc (p : BProg) (l : List MFrame) (n : Nat) (hp : p.few) (hl : Few l.length) (hn : n ≤ l.length) (hf : ∀ f ∈ l, inR f.node 0 (p.nodes.length - 1) = true) :
    PC L F.R06_Open [.agg [.fz (p.nodes.map BNode.enc), .fz (p.funs.map (.int .i64)), .int .i64 p.main, .fz (p.cons.map BCon.enc)], .fz (l.map MFrame.enc), .int .i64 n] (.bool ((l.take n).all (frameOpen p))) := by
  refine pc_of LF.R06_Open rfl rfl ?_
  simp only [go_sem, qW, C.R06_Open]
  refine wp_for (n) (fun k st => ∃ fr en cnt, st = ⟨fr, en, cnt⟩ ∧ (fr 1 = .fz (l.map MFrame.enc)) ∧ (fr 2 = .int .i64 n) ∧ (fr 3 = .ptr ⟨0, 3, 0⟩ 0) ∧ (en ⟨0, 3, 0⟩ = some (.box p.cells false)) ∧ (fr 7 = .int .i64 k) ∧ (((l.take n).drop k).all (frameOpen p) = (l.take n).all (frameOpen p))) 0 (Nat.zero_le _) ⟨_, _, _, rfl, (by first | (simp only [go_sem, qW]; (try rfl); done) | rfl | simp), (by first | (simp only [go_sem, qW]; (try rfl); done) | rfl | simp), (by first | (simp only [go_sem, qW]; (try rfl); done) | rfl | simp), (by first | (simp only [go_sem, qW]; (try rfl); done) | rfl | simp), (by first | (simp only [go_sem, qW]; (try rfl); done) | rfl | simp), (by first | (simp only [go_sem, qW]; (try rfl); done) | rfl | simp)⟩ ?_
  rintro k st hk ⟨fr, en, cnt, rfl, h1, h2, h3, e3, h7, hI⟩
  simp only [go_sem, qW, h1, h2, h3, e3, h7]
  refine wcond_split (fun h => ?_) (fun h => ?_)
  · have h'' : k < n := by simp at h; omega
    have h' : k < l.length := by omega
    rw [all_step (by simp; omega)] at hI
    have hx := hf l[k] (List.getElem_mem _)
    try simp only [go_sem, qW, h1, h2, h3, e3, h7]
    refine wp_still ?_ ?_
    · decide
    simp only [go_sem, qW, h1, h2, h3, e3, h7, h', h'', hx, ia_node, (R06_Asks_pc _).ret]
    have he : (l.take n)[k]'(by simp; omega) = l[k] := by simp
    rw [he] at hI
    refine wcond_split (fun hb => ?_) (fun hb => ?_)
    · simp at hb
      have : frameOpen p l[k] = false := by simp [frameOpen, hb]
      rw [← hI, this]; rfl
    · simp at hb
      have : frameOpen p l[k] = true := by simp [frameOpen, hb]
      refine ⟨_, _, _, rfl, ?_⟩
      simp only [go_sem, qW, h1, h2, h3, e3, h7, h'', wrap_succ h' hl]
      rw [← hI, this]; simp
  · have : k = n := by simp at h; omega
    subst this
    try simp only [go_sem, qW]
    rw [← hI]; simp
theorem valuesOk_len {p : BProg} {w : MWorld} {l : List MVal} {m : Int} (h : valuesOk p w l m = true) : (l.length : Int) ≤ m := by
  simp [valuesOk] at h; exact h.1
theorem framesOk_len {p : BProg} {w : MWorld} {l : List MFrame} (h : framesOk p w l = true) : (l.length : Int) ≤ 40 := by
  simp [framesOk] at h; omega
theorem framesOk_node {p : BProg} {w : MWorld} {l : List MFrame} (h : framesOk p w l = true) : ∀ f ∈ l, inR f.node 0 (p.nodes.length - 1) = true := by
  simp [framesOk] at h
  intro f hf
  have := h.2 f hf
  simp [frameOk] at this
  exact this.1.1
theorem R06_task_pc (p : BProg) (w : MWorld) (o : MObj) (hp : p.few) (hw : w.few) (ho : o.few) : PC L F.R06_task [.agg [.fz (p.nodes.map BNode.enc), .fz (p.funs.map (.int .i64)), .int .i64 p.main, .fz (p.cons.map BCon.enc)], .agg [.fz (w.objs.map MObj.enc), .fz (w.tasks.map (.int .i64)), .fz (w.outs.map MOut.enc), .fz (w.ins.map (.int .i64)), .int .i64 w.used], .agg [.int .i64 o.form, .int .i64 o.n, .fz (o.vals.map MVal.enc), .fz (o.frames.map MFrame.enc)]] (.bool (taskOk p w o)) := by
  refine pc_of LF.R06_task rfl rfl ?_
  simp only [go_sem, qW, C.R06_task]
  refine wcond_split (fun h => ?_) (fun h => ?_) <;> simp only [decide_eq_true_eq, decide_eq_false_iff_not] at h
  · simp only [go_sem, qW, (R06_frames_pc p w _ hp hw ho.2.1 ho.2.2).ret]
    refine guard_split (fun h1 => ?_) (fun h1 => ?_)
    · simp only [go_sem, qW, h1, (R06_values_pc p w _ _ hp hw ho.1).ret]
      refine guard_split (fun h2 => ?_) (fun h2 => ?_)
      · have k1 := framesOk_len h1
        have k2 := valuesOk_len h2
        have e1 : IntKind.i64.wrap ((o.frames.length : Int) + o.vals.length) = (o.frames.length : Int) + o.vals.length := wrap_in (by omega)
        simp only [go_sem, qW, h1, h2, e1]
        refine guard_split (fun h3 => ?_) (fun h3 => ?_)
        · simp at h3
          have e2 : IntKind.i64.wrap ((o.frames.length : Int) - 1) = (o.frames.length : Int) - 1 := wrap_in (by omega)
          have e3 : IntKind.i64.wrap ((o.frames.length : Int) - 1 + o.vals.length) = ((o.frames.length + o.vals.length - 1 : Nat) : Int) := by rw [wrap_in (by omega)]; omega
          have e4 : min (o.frames.length : Int) (max 0 ((o.frames.length + o.vals.length - 1 : Nat) : Int)) = ((o.frames.length + o.vals.length - 1 : Nat) : Int) := by omega
          simp only [go_sem, qW, h3, e2, e3, e4, (R06_Open_pc p o.frames (o.frames.length + o.vals.length - 1) hp ho.2.1 (by omega) (framesOk_node h1)).ret]
          simp [taskOk, h, h1, h2, h3]
        · simp only [go_sem, qW, h3]
          simp at h3
          simp [taskOk, h, h1, h2]
          omega
      · simp only [go_sem, qW, h1, h2]
        simp at h2
        simp [taskOk, h, h1, h2]
    · simp only [go_sem, qW, h1]
      simp at h1
      simp [taskOk, h, h1]
  · repeat' ((first | with_reducible refine wcond_split (fun h => ?_) (fun h => ?_) | with_reducible refine guard_split (fun h => ?_) (fun h => ?_)) <;> (try simp only [decide_eq_true_eq, decide_eq_false_iff_not, Bool.not_true, Bool.not_false] at h) <;> try simp only [go_sem, qW, h, (R06_values_pc p w _ _ hp hw ho.1).ret])
    all_goals simp [taskOk, *]
    all_goals (intros; simp_all)
theorem R06_object_pc (p : BProg) (w : MWorld) (o : MObj) (hp : p.few) (hw : w.few) (ho : o.few) : PC L F.R06_object [.agg [.fz (p.nodes.map BNode.enc), .fz (p.funs.map (.int .i64)), .int .i64 p.main, .fz (p.cons.map BCon.enc)], .agg [.fz (w.objs.map MObj.enc), .fz (w.tasks.map (.int .i64)), .fz (w.outs.map MOut.enc), .fz (w.ins.map (.int .i64)), .int .i64 w.used], .agg [.int .i64 o.form, .int .i64 o.n, .fz (o.vals.map MVal.enc), .fz (o.frames.map MFrame.enc)]] (.bool (objOk p w o)) := by
  refine pc_of LF.R06_object rfl rfl ?_
  simp only [go_sem, qW, C.R06_object]
  refine wcond_split (fun h => ?_) (fun h => ?_) <;> simp only [decide_eq_true_eq, decide_eq_false_iff_not] at h
  · simp only [go_sem, qW, (R06_task_pc p w o hp hw ho).ret]
    simp [objOk, h]
  · refine wcond_split (fun h5 => ?_) (fun h5 => ?_) <;> simp only [decide_eq_true_eq, decide_eq_false_iff_not] at h5
    · try simp only [go_sem, qW]
      refine guard_split (fun h1 => ?_) (fun h1 => ?_)
      · simp only [go_sem, qW, h1]
        refine guard_split (fun h2 => ?_) (fun h2 => ?_)
        · simp only [go_sem, qW, h1, h2]
          refine guard_split (fun h3 => ?_) (fun h3 => ?_)
          · simp only [go_sem, qW, h1, h2, h3, (R06_frames_pc p w _ hp hw ho.2.1 ho.2.2).ret]
            refine guard_split (fun h4 => ?_) (fun h4 => ?_)
            · simp only [go_sem, qW, h1, h2, h3, h4, (R06_Open_pc p o.frames o.frames.length hp ho.2.1 (Nat.le_refl _) (framesOk_node h4)).ret]
              refine guard_split (fun h6 => ?_) (fun h6 => ?_)
              · have hpos : 0 < o.frames.length := by have := of_decide_eq_true h3; omega
                have hn : inR (o.frames.headD default).node 0 (p.nodes.length - 1) = true := framesOk_node h4 _ (by cases hh : o.frames with | nil => simp [hh] at hpos | cons a l => simp)
                simp only [go_sem, qW, h6, ia_frame0 hpos, hn, ia_node]
                simp at h6 h1 h2
                simp [objOk, h, h5, h1, h2, h4, h6]
                first | (intros; simp_all; done) | trace_state
              · simp only [go_sem, qW, h6]
                simp at h6 h1 h2
                simp [objOk, h, h5, h1, h2, h4]
                obtain ⟨x, hx, hx2⟩ := h6
                intro _ hh
                rw [hh x hx] at hx2; cases hx2
            · simp only [go_sem, qW, h4]
              simp at h4
              simp [objOk, h, h5, h4]
          · simp only [go_sem, qW, h3]
            simp at h3
            simp [objOk, h, h5, h3]
        · simp only [go_sem, qW, h2]
          simp at h2
          simp [objOk, h, h5, h2]
      · simp only [go_sem, qW, h1]
        simp at h1
        simp [objOk, h, h5, h1]
    · try simp only [go_sem, qW]
      refine wcond_split (fun h7 => ?_) (fun h7 => ?_)
      · simp at h7
        simp [objOk, h, h5, h7]
      · have h7' : (o.frames.length : Int) = 0 := by simp at h7; simp [h7]
        try simp only [go_sem, qW]
        repeat' ((first | with_reducible refine wcond_split (fun h => ?_) (fun h => ?_) | with_reducible refine guard_split (fun h => ?_) (fun h => ?_)) <;> (try simp only [decide_eq_true_eq, decide_eq_false_iff_not, Bool.not_true, Bool.not_false] at h) <;> try simp only [go_sem, qW, *, (R06_in_pc _ _ _).ret, (R06_values_pc p w _ _ hp hw ho.1).ret, wrap_pred hp.nodes, wrap_pred hp.cons, ia_node, ia_con])
        all_goals simp [objOk, *]
        all_goals (intros; simp_all)
end Go.Proofs.YthpmfghgoabnhaaGreat
