/- Contracts: worlds, by the document's answer. -/
import Derived.Test.YthpmfghgoabnhaaGreatW2
set_option linter.all false
namespace Go.Proofs.YthpmfghgoabnhaaGreat
open Go.Abs Go.Proofs
theorem R06_Ints_pc (l : List Int) (m : Int) (hl : Few l.length) : PC L F.R06_Ints [.fz (l.map (.int .i64)), .int .i64 m] (.bool (intsOk l m)) := by
  refine pc_of LF.R06_Ints rfl rfl ?_
  simp only [go_sem, qW, C.R06_Ints]
  refine wp_for (l.length) (fun k st => ∃ fr en cnt, st = ⟨fr, en, cnt⟩ ∧ (fr 0 = .fz (l.map (.int .i64))) ∧ (fr 1 = .int .i64 m) ∧ (fr 5 = .int .i64 k) ∧ ((l.drop k).all (fun n => inR n (-1000000000) 1000000000) = l.all fun n => inR n (-1000000000) 1000000000)) 0 (Nat.zero_le _) ⟨_, _, _, rfl, (by first | (simp only [go_sem, qW]; (try rfl); done) | rfl | simp), (by first | (simp only [go_sem, qW]; (try rfl); done) | rfl | simp), (by first | (simp only [go_sem, qW]; (try rfl); done) | rfl | simp), (by first | (simp only [go_sem, qW]; (try rfl); done) | rfl | simp)⟩ ?_
  rintro k st hk ⟨fr, en, cnt, rfl, h0, h1, h5, hI⟩
  simp only [go_sem, qW, h0, h1, h5]
  refine guard_split (fun h => ?_) (fun h => ?_)
  · have h' : k < l.length := of_decide_eq_true h
    rw [all_step h'] at hI
    simp only [go_sem, qW, h, h', h0, h1, h5]
    refine wcond_split (fun hm => ?_) (fun hm => ?_)
    · simp only [go_sem, qW, h', h0, h1, h5, (R06_in_pc _ _ _).ret]
      refine wcond_split (fun hb => ?_) (fun hb => ?_)
      · simp at hb
        simp [intsOk, ← hI, hb]
      · simp at hb
        refine ⟨_, _, _, rfl, ?_⟩
        simp only [go_sem, qW, h0, h1, h5, wrap_succ h' hl]
        rw [← hI, hb]; simp
    · simp at hm
      try simp only [go_sem, qW, h0, h1, h5]
      simp [intsOk]
      omega
  · have : k = l.length := by simp at h; omega
    subst this
    try simp only [go_sem, qW, h, h0, h1, h5]
    simp at hI
    simp [intsOk]
    exact fun _ => hI
theorem R06_tasks_pc (w : MWorld) (hw : w.few) : PC L F.R06_tasks [.agg [.fz (w.objs.map MObj.enc), .fz (w.tasks.map (.int .i64)), .fz (w.outs.map MOut.enc), .fz (w.ins.map (.int .i64)), .int .i64 w.used]] (.bool (tasksOk w)) := by
  refine pc_of LF.R06_tasks rfl rfl ?_
  simp only [go_sem, qW, C.R06_tasks]
  refine wp_for (w.objs.length) (fun k st => ∃ fr en cnt, st = ⟨fr, en, cnt⟩ ∧ (fr 1 = .ptr ⟨0, 1, 0⟩ 0) ∧ (en ⟨0, 1, 0⟩ = some (.box w.cells false)) ∧ (fr 3 = .int .i64 ((w.objs.take k).countP isTask : Nat)) ∧ (fr 4 = .int .i64 k)) 0 (Nat.zero_le _) ⟨_, _, _, rfl, (by first | (simp only [go_sem, qW]; (try rfl); done) | rfl | simp), (by first | (simp only [go_sem, qW]; (try rfl); done) | rfl | simp), (by first | (simp only [go_sem, qW]; (try rfl); done) | rfl | simp), (by first | (simp only [go_sem, qW]; (try rfl); done) | rfl | simp)⟩ ?_
  rintro k st hk ⟨fr, en, cnt, rfl, h1, e1, h3, h4⟩
  simp only [go_sem, qW, h1, e1, h3, h4]
  refine wcond_split (fun h => ?_) (fun h => ?_)
  · have h' : k < w.objs.length := of_decide_eq_true h
    have hc : (w.objs.take k).countP isTask ≤ k := Nat.le_trans List.countP_le_length (by simp; omega)
    have hs := count_step h' isTask
    simp only [go_sem, qW, h', h1, e1, h3, h4]
    refine wcond_split (fun hb => ?_) (fun hb => ?_)
    · simp at hb
      have e : IntKind.i64.wrap (((w.objs.take k).countP isTask : Nat) + 1) = (((w.objs.take (k + 1)).countP isTask : Nat) : Int) := by
        have := hw.objs; unfold Few at this
        rw [wrap_in (by omega), hs]; simp [isTask, hb]
      simp only [go_sem, qW, h1, e1, h3, h4, e, wrap_succ h' hw.objs]
      refine ⟨_, _, _, rfl, ?_⟩
      simp only [go_sem, qW, h1, e1, h3, h4, e, wrap_succ h' hw.objs]
    · simp at hb
      have e : (w.objs.take (k + 1)).countP isTask = (w.objs.take k).countP isTask := by rw [hs]; simp [isTask, hb]
      refine ⟨_, _, _, rfl, ?_⟩
      simp only [go_sem, qW, h1, e1, h3, h4, e, wrap_succ h' hw.objs]
  · have : k = w.objs.length := by simp at h; omega
    subst this
    try simp only [go_sem, qW, h1, e1, h3, h4, List.take_length]
    refine wcond_split (fun hb => ?_) (fun hb => ?_)
    · simp at hb
      simp [tasksOk]; intro h0; omega
    · have hn : w.tasks.length = w.objs.countP isTask := by simp at hb; omega
      clear hb h
      refine wp_for (w.tasks.length) (fun k st => ∃ fr en cnt, st = ⟨fr, en, cnt⟩ ∧ (fr 1 = .ptr ⟨0, 1, 0⟩ 0) ∧ (en ⟨0, 1, 0⟩ = some (.box w.cells false)) ∧ (fr 3 = .int .i64 (w.tasks.length : Nat)) ∧ (fr 5 = .int .i64 k) ∧ (distinctTasks w (w.tasks.take k) (w.tasks.drop k) = distinctTasks w [] w.tasks)) 0 (Nat.zero_le _) ⟨_, _, _, rfl, (by first | (simp only [go_sem, h1, e1, h3, h4, hn, List.take_length]; (try rfl); done) | rfl | simp), (by first | (simp only [go_sem, h1, e1, h3, h4, hn, List.take_length]; (try rfl); done) | rfl | simp), (by first | (simp only [go_sem, h1, e1, h3, h4, hn, List.take_length]; (try rfl); done) | rfl | simp), (by first | (simp only [go_sem, h1, e1, h3, h4, hn, List.take_length]; (try rfl); done) | rfl | simp), (by first | (simp only [go_sem, h1, e1, h3, h4, hn, List.take_length]; (try rfl); done) | rfl | simp)⟩ ?_
      rintro k st hk ⟨fr, en, cnt, rfl, h1, e1, h3, h5, hI⟩
      simp only [go_sem, qW, h1, e1, h3, h5]
      refine wcond_split (fun h => ?_) (fun h => ?_)
      · have h' : k < w.tasks.length := of_decide_eq_true h
        rw [List.drop_eq_getElem_cons h', distinctTasks, ← take_step h'] at hI
        simp only [go_sem, qW, h', h1, e1, h3, h5, (R06_in_pc _ _ _).ret, wrap_pred hw.objs]
        refine guard_split (fun hb => ?_) (fun hb => ?_)
        · have hb' : inR w.tasks[k] 0 (w.objs.length - 1) = true := by simpa using hb
          simp only [go_sem, qW, h', hb, hb', h1, e1, h3, h5, ia_obj]
          refine guard_split (fun hc => ?_) (fun hc => ?_)
          · have hc' : isTask (w.obj w.tasks[k]) = true := by simpa [isTask] using hc
            simp only [go_sem, qW, h', hb, hb', hc, h1, e1, h3, h5, slice_to, hk, ← List.map_take, (R06_listed_pc _ _ (few_take hw.tasks k)).ret]
            refine wcond_split (fun hd => ?_) (fun hd => ?_)
            · simp [tasksOk, ← hI, hb', hc', hd]
            · refine ⟨_, _, _, rfl, ?_⟩
              simp only [go_sem, qW, h1, e1, h3, h5, wrap_succ h' hw.tasks]
              rw [← hI, hb', hc', hd]; simp
          · simp only [go_sem, qW, hc, h1, e1, h3, h5]
            simp [isTask] at hc
            simp [tasksOk, ← hI, isTask, hc]
        · simp only [go_sem, qW, hb, h1, e1, h3, h5]
          simp at hb
          simp [tasksOk, ← hI, hb]
      · have : k = w.tasks.length := by simp at h; omega
        subst this
        try simp only [go_sem, qW, h1, e1, h3, h5]
        have ht : distinctTasks w [] w.tasks = true := by rw [← hI]; simp [distinctTasks]
        simp [tasksOk, hn, ht]
theorem R06_World_pc (p : BProg) (w : MWorld) (hp : p.few) (hw : w.few) : PC L F.R06_World [.agg [.fz (p.nodes.map BNode.enc), .fz (p.funs.map (.int .i64)), .int .i64 p.main, .fz (p.cons.map BCon.enc)], .agg [.fz (w.objs.map MObj.enc), .fz (w.tasks.map (.int .i64)), .fz (w.outs.map MOut.enc), .fz (w.ins.map (.int .i64)), .int .i64 w.used]] (.bool (worldOk p w)) := by
  refine pc_of LF.R06_World rfl rfl ?_
  simp only [go_sem, qW, C.R06_World]
  repeat' ((first | with_reducible refine wcond_split (fun h => ?_) (fun h => ?_) | with_reducible refine guard_split (fun h => ?_) (fun h => ?_)) <;> (try simp only [decide_eq_true_eq, decide_eq_false_iff_not, Bool.not_true, Bool.not_false] at h) <;> try simp only [go_sem, qW, *, (R06_in_pc _ _ _).ret, (R06_Ints_pc _ _ hw.ins).ret, (R06_tasks_pc w hw).ret])
  all_goals (try simp only [Bool.not_eq_true', Bool.not_eq_false', Int.not_lt, Int.not_le] at *)
  all_goals try (simp [worldOk, *]; done)
  all_goals try (simp [worldOk, *]; intros; omega)
  rename_i g1 g2 g3 g4
  refine wp_for (w.objs.length) (fun k st => ∃ fr en cnt, st = ⟨fr, en, cnt⟩ ∧ (fr 2 = .ptr ⟨0, 2, 0⟩ 0) ∧ (en ⟨0, 2, 0⟩ = some (.box p.cells false)) ∧ (fr 3 = .ptr ⟨0, 3, 0⟩ 0) ∧ (en ⟨0, 3, 0⟩ = some (.box w.cells false)) ∧ (fr 5 = .int .i64 k) ∧ ((w.objs.drop k).all (objOk p w) = w.objs.all (objOk p w))) 0 (Nat.zero_le _) ⟨_, _, _, rfl, (by first | (simp only [go_sem, qW]; (try rfl); done) | rfl | simp), (by first | (simp only [go_sem, qW]; (try rfl); done) | rfl | simp), (by first | (simp only [go_sem, qW]; (try rfl); done) | rfl | simp), (by first | (simp only [go_sem, qW]; (try rfl); done) | rfl | simp), (by first | (simp only [go_sem, qW]; (try rfl); done) | rfl | simp), (by first | (simp only [go_sem, qW]; (try rfl); done) | rfl | simp)⟩ ?_
  rintro k st hk ⟨fr, en, cnt, rfl, h2, e2, h3, e3, h5, hI⟩
  simp only [go_sem, qW, h2, e2, h3, e3, h5]
  refine wcond_split (fun h1 => ?_) (fun h1 => ?_)
  · have h' : k < w.objs.length := of_decide_eq_true h1
    rw [all_step h'] at hI
    simp only [go_sem, qW, h', h2, e2, h3, e3, h5, (R06_object_pc p w _ hp hw (hw.obj w.objs[k] (List.getElem_mem _))).ret]
    refine wcond_split (fun hb => ?_) (fun hb => ?_)
    · simp at hb
      simp [worldOk, ← hI, hb]
    · simp at hb
      refine ⟨_, _, _, rfl, ?_⟩
      simp only [go_sem, qW, h2, e2, h3, e3, h5, wrap_succ h' hw.objs]
      rw [← hI, hb]; simp
  · have : k = w.objs.length := by simp at h1; omega
    subst this
    have hobj : w.objs.all (objOk p w) = true := by rw [← hI]; simp
    clear hI h1
    try simp only [go_sem, qW, h2, e2, h3, e3, h5]
    refine wp_for (w.outs.length) (fun k st => ∃ fr en cnt, st = ⟨fr, en, cnt⟩ ∧ (fr 3 = .ptr ⟨0, 3, 0⟩ 0) ∧ (en ⟨0, 3, 0⟩ = some (.box w.cells false)) ∧ (fr 6 = .int .i64 k) ∧ ((w.outs.drop k).all outOk = w.outs.all outOk)) 0 (Nat.zero_le _) ⟨_, _, _, rfl, (by first | (simp only [go_sem, h2, e2, h3, e3, h5]; (try rfl); done) | rfl | simp), (by first | (simp only [go_sem, h2, e2, h3, e3, h5]; (try rfl); done) | rfl | simp), (by first | (simp only [go_sem, h2, e2, h3, e3, h5]; (try rfl); done) | rfl | simp), (by first | (simp only [go_sem, h2, e2, h3, e3, h5]; (try rfl); done) | rfl | simp)⟩ ?_
    rintro k st hk ⟨fr, en, cnt, rfl, h3, e3, h6, hI⟩
    simp only [go_sem, qW, h3, e3, h6]
    refine wcond_split (fun h1 => ?_) (fun h1 => ?_)
    · have h' : k < w.outs.length := of_decide_eq_true h1
      rw [all_step h'] at hI
      simp only [go_sem, qW, h', h3, e3, h6, (R06_in_pc _ _ _).ret]
      refine guard_split (fun hb => ?_) (fun hb => ?_)
      · simp at hb
        simp only [go_sem, qW, h', hb, Bool.not_true, h3, e3, h6, (R06_in_pc _ _ _).ret]
        refine wcond_split (fun hc => ?_) (fun hc => ?_)
        · simp at hc
          simp [worldOk, ← hI, outOk, hc]
        · simp at hc
          refine ⟨_, _, _, rfl, ?_⟩
          simp only [go_sem, qW, h3, e3, h6, wrap_succ h' hw.outs]
          rw [← hI, outOk, hb, hc]; simp
      · simp at hb
        simp only [go_sem, qW, hb, Bool.not_false, h3, e3, h6]
        simp [worldOk, ← hI, outOk, hb]
    · have : k = w.outs.length := by simp at h1; omega
      subst this
      have hout : w.outs.all outOk = true := by rw [← hI]; simp
      try simp only [go_sem, qW, h3, e3, h6]
      simp only [worldOk, hobj, hout, g3, g4, h]
      simp [g1, g2]
theorem R06_smallVals_pc (l : List MVal) : PC L F.R06_smallVals [.fz (l.map MVal.enc)] (.bool (decide ((l.length : Int) ≤ 40))) := by
  refine pc_of LF.R06_smallVals rfl rfl ?_
  simp only [go_sem, qW, C.R06_smallVals]
theorem R06_SmallWorld_pc (w : MWorld) (hw : w.few) : PC L F.R06_SmallWorld [.agg [.fz (w.objs.map MObj.enc), .fz (w.tasks.map (.int .i64)), .fz (w.outs.map MOut.enc), .fz (w.ins.map (.int .i64)), .int .i64 w.used]] (.bool (smallWorld w)) := by
  refine pc_of LF.R06_SmallWorld rfl rfl ?_
  simp only [go_sem, qW, C.R06_SmallWorld]
  repeat' ((first | with_reducible refine wcond_split (fun h => ?_) (fun h => ?_) | with_reducible refine guard_split (fun h => ?_) (fun h => ?_)) <;> (try simp only [decide_eq_true_eq, decide_eq_false_iff_not, Bool.not_true, Bool.not_false] at h) <;> try simp only [go_sem, qW, *])
  all_goals (try simp only [Bool.not_eq_true', Bool.not_eq_false', Int.not_lt, Int.not_le] at *)
  all_goals try (simp [smallWorld, *]; done)
  all_goals try (simp [smallWorld, *]; intros; omega)
  rename_i g1 g2 g3
  refine wp_for (w.objs.length) (fun k st => ∃ fr en cnt, st = ⟨fr, en, cnt⟩ ∧ (fr 1 = .ptr ⟨0, 1, 0⟩ 0) ∧ (en ⟨0, 1, 0⟩ = some (.box w.cells false)) ∧ (fr 3 = .int .i64 k) ∧ ((w.objs.drop k).all smallObj = w.objs.all smallObj)) 0 (Nat.zero_le _) ⟨_, _, _, rfl, (by first | (simp only [go_sem, qW]; (try rfl); done) | rfl | simp), (by first | (simp only [go_sem, qW]; (try rfl); done) | rfl | simp), (by first | (simp only [go_sem, qW]; (try rfl); done) | rfl | simp), (by first | (simp only [go_sem, qW]; (try rfl); done) | rfl | simp)⟩ ?_
  rintro k st hk ⟨fr, en, cnt, rfl, h1, e1, h3, hI⟩
  simp only [go_sem, qW, h1, e1, h3]
  refine wcond_split (fun hq => ?_) (fun hq => ?_)
  · have h' : k < w.objs.length := of_decide_eq_true hq
    have hx := hw.obj w.objs[k] (List.getElem_mem _)
    rw [all_step h'] at hI
    simp only [go_sem, qW, h', h1, e1, h3, (R06_smallVals_pc _).ret]
    refine guard_split (fun hb => ?_) (fun hb => ?_)
    · simp at hb
      try simp only [go_sem, qW, h', hb, h1, e1, h3]
      refine wcond_split (fun hc => ?_) (fun hc => ?_)
      · simp at hc
        simp [smallWorld, ← hI, smallObj]
        intros; omega
      · simp at hc
        generalize cnt 0 4 = g4
        refine wp_for (w.objs[k].frames.length) (fun j st => ∃ fr en cnt, st = ⟨fr, en, cnt⟩ ∧ (fr 1 = .ptr ⟨0, 1, 0⟩ 0) ∧ (en ⟨0, 1, 0⟩ = some (.box w.cells false)) ∧ (fr 4 = .ptr ⟨0, 4, g4⟩ 0) ∧ (en ⟨0, 4, g4⟩ = some (.box [.int .i64 w.objs[k].form, .int .i64 w.objs[k].n, .fz (w.objs[k].vals.map MVal.enc), .fz (w.objs[k].frames.map MFrame.enc)] false)) ∧ (fr 3 = .int .i64 k) ∧ (fr 5 = .int .i64 j) ∧ ((w.objs[k].frames.drop j).all (fun f => decide ((f.env.length : Int) ≤ 40) && decide ((f.vals.length : Int) ≤ 40)) = w.objs[k].frames.all fun f => decide ((f.env.length : Int) ≤ 40) && decide ((f.vals.length : Int) ≤ 40))) 0 (Nat.zero_le _) ⟨_, _, _, rfl, (by first | (simp only [go_sem, h1, e1, h3]; (try rfl); done) | rfl | simp), (by first | (simp only [go_sem, h1, e1, h3]; (try rfl); done) | rfl | simp), (by first | (simp only [go_sem, h1, e1, h3]; (try rfl); done) | rfl | simp), (by first | (simp only [go_sem, h1, e1, h3]; (try rfl); done) | rfl | simp), (by first | (simp only [go_sem, h1, e1, h3]; (try rfl); done) | rfl | simp), (by first | (simp only [go_sem, h1, e1, h3]; (try rfl); done) | rfl | simp), (by first | (simp only [go_sem, h1, e1, h3]; (try rfl); done) | rfl | simp)⟩ ?_
        rintro j st hk ⟨fr, en, cnt, rfl, h1, e1, h4, e4, h3, h5, hJ⟩
        simp only [go_sem, qW, h1, e1, h4, e4, h3, h5]
        refine wcond_split (fun h2 => ?_) (fun h2 => ?_)
        · have h2' : j < w.objs[k].frames.length := of_decide_eq_true h2
          rw [all_step h2'] at hJ
          simp only [go_sem, qW, h2', h1, e1, h4, e4, h3, h5, (R06_smallVals_pc _).ret]
          refine guard_split (fun hd => ?_) (fun hd => ?_)
          · simp only [go_sem, qW, h2', hd, h1, e1, h4, e4, h3, h5, (R06_smallVals_pc _).ret]
            refine wcond_split (fun he => ?_) (fun he => ?_)
            · simp at he
              have : w.objs[k].frames.all (fun f => decide ((f.env.length : Int) ≤ 40) && decide ((f.vals.length : Int) ≤ 40)) = false := by rw [← hJ]; simp; intros; omega
              simp only [smallWorld, ← hI, smallObj, this]
              simp
            · refine ⟨_, _, _, rfl, ?_⟩
              simp only [go_sem, qW, h1, e1, h4, e4, h3, h5, wrap_succ h2' hx.2.1]
              simp at hd he
              rw [← hJ]; simp; intros; exact ⟨by omega, by omega⟩
          · simp only [go_sem, qW, hd, Bool.not_false, h1, e1, h4, e4, h3, h5]
            simp at hd
            have : w.objs[k].frames.all (fun f => decide ((f.env.length : Int) ≤ 40) && decide ((f.vals.length : Int) ≤ 40)) = false := by rw [← hJ]; simp; intros; omega
            simp only [smallWorld, ← hI, smallObj, this]
            simp
        · have : j = w.objs[k].frames.length := by simp at h2; omega
          subst this
          have hfr : smallObj w.objs[k] = true := by
            simp only [smallObj, ← hJ]; simp; exact ⟨by omega, by omega⟩
          try simp only [go_sem, qW, h1, e1, h4, e4, h3, h5]
          refine ⟨_, _, _, rfl, ?_⟩
          simp only [go_sem, qW, h1, e1, h4, e4, h3, h5, wrap_succ h' hw.objs]
          rw [← hI, hfr]; simp
    · simp only [go_sem, qW, h', hb, Bool.not_false, h1, e1, h3]
      simp at hb
      have : smallObj w.objs[k] = false := by simp [smallObj]; intros; omega
      simp [smallWorld, ← hI, this]
  · have : k = w.objs.length := by simp at hq; omega
    subst this
    have hobj : w.objs.all smallObj = true := by rw [← hI]; simp
    try simp only [go_sem, qW, h1, e1, h4, e4, h3, h5]
    simp only [smallWorld, hobj]
    simp [g1, g2, g3, h]
end Go.Proofs.YthpmfghgoabnhaaGreat
