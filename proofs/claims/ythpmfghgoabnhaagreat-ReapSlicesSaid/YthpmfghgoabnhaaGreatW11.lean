/- Contracts: worlds as defined, by the program: mean.Check. -/
import Derived.Test.YthpmfghgoabnhaaGreatW10
import Derived.Test.YthpmfghgoabnhaaGreatW12
set_option linter.all false
namespace Go.Proofs.YthpmfghgoabnhaaGreat
open Go.Abs Go.Proofs
theorem nodup_le : ∀ (l N : List Nat), l.Nodup → (∀ x ∈ l, x ∈ N) → l.length ≤ N.length
  | [], N, _, _ => Nat.zero_le _
  | x :: l, N, hn, hs => by
    have hx : x ∈ N := hs x (by simp)
    rw [List.nodup_cons] at hn
    have := nodup_le l (N.erase x) hn.2 fun y hy => by
      rw [List.mem_erase_of_ne (by rintro rfl; exact hn.1 hy)]
      exact hs y (by simp [hy])
    rw [List.length_erase_of_mem hx] at this
    have := List.length_pos_of_mem hx
    simp only [List.length_cons]
    omega
def taskNums (w : MWorld) : List Nat := (List.range w.objs.length).filter fun (i : Nat) => isTask (w.obj (i : Int))
theorem taskNums_len (w : MWorld) : (taskNums w).length = w.objs.countP isTask := by
  have h : w.objs = (List.range w.objs.length).map fun (i : Nat) => w.obj (i : Int) := by
    refine List.ext_getElem (by simp) fun i h1 h2 => ?_
    simp [MWorld.obj, List.getD_eq_getElem?_getD, h1]
  conv => rhs; rw [h, List.countP_map]
  rw [taskNums, List.countP_eq_length_filter]; rfl
theorem distinct_facts (w : MWorld) : ∀ (l met : List Int), distinctTasks w met l = true → (∀ x ∈ l, inR x 0 (w.objs.length - 1) = true ∧ isTask (w.obj x) = true) ∧ (l.map Int.toNat).Nodup ∧ ∀ x ∈ l, x ∉ met
  | [], met, _ => by simp
  | x :: l, met, h => by
    simp only [distinctTasks, Bool.and_eq_true] at h
    obtain ⟨⟨⟨h1, h2⟩, h3⟩, h4⟩ := h
    obtain ⟨k1, k2, k3⟩ := distinct_facts w l (met ++ [x]) h4
    have hxm : x ∉ met := by
      intro hm
      simp only [Bool.not_eq_true', List.any_eq_false] at h3
      exact absurd (h3 x hm) (by simp)
    refine ⟨fun y hy => ?_, ?_, fun y hy => ?_⟩
    · rcases List.mem_cons.1 hy with rfl | hy
      · exact ⟨h1, h2⟩
      · exact k1 y hy
    · rw [List.map_cons, List.nodup_cons]
      refine ⟨fun hm => ?_, k2⟩
      obtain ⟨y, hy, he⟩ := List.mem_map.1 hm
      have a := (k1 y hy).1
      simp only [inR, decide_eq_true_eq] at a h1
      have : y = x := by omega
      subst this
      exact k3 y hy (by simp)
    · rcases List.mem_cons.1 hy with rfl | hy
      · exact hxm
      · exact fun hm => k3 y hy (by simp [hm])
theorem tasks_same (w : MWorld) : tasksB w = tasksOk w := by
  unfold tasksB tasksOk
  cases hd : distinctTasks w [] w.tasks with
  | false => simp
  | true =>
    obtain ⟨k1, k2, _⟩ := distinct_facts w _ _ hd
    have hsub : ∀ x ∈ w.tasks.map Int.toNat, x ∈ taskNums w := by
      intro x hx
      obtain ⟨y, hy, rfl⟩ := List.mem_map.1 hx
      obtain ⟨a, b⟩ := k1 y hy
      have a' := a
      simp only [inR, decide_eq_true_eq] at a'
      refine List.mem_filter.2 ⟨List.mem_range.2 (by omega), ?_⟩
      rw [Int.toNat_of_nonneg a'.1]; exact b
    have hle := nodup_le _ _ k2 hsub
    rw [taskNums_len, List.length_map] at hle
    simp only [Bool.true_and, Bool.and_true]
    have hcov : covered w w.tasks = true ↔ ∀ x ∈ taskNums w, x ∈ w.tasks.map Int.toNat := by
      simp only [covered, List.all_eq_true, List.mem_range, Bool.or_eq_true, Bool.not_eq_true', taskNums, List.mem_filter, List.any_eq_true, decide_eq_true_eq]
      constructor
      · rintro h x ⟨hx, ht⟩
        rcases h x hx with ⟨y, hy, he⟩ | hf
        · exact List.mem_map.2 ⟨y, hy, by omega⟩
        · rw [ht] at hf; cases hf
      · intro h x hx
        cases ht : isTask (w.obj (x : Int)) with
        | false => exact .inr rfl
        | true =>
          obtain ⟨y, hy, he⟩ := List.mem_map.1 (h x ⟨hx, ht⟩)
          have a := (k1 y hy).1
          simp only [inR, decide_eq_true_eq] at a
          exact .inl ⟨y, hy, by omega⟩
    rw [Bool.eq_iff_iff, hcov, decide_eq_true_eq]
    constructor
    · intro h
      have hN : (taskNums w).Nodup := List.Pairwise.filter _ List.nodup_range
      have := nodup_le _ _ hN h
      rw [taskNums_len, List.length_map] at this
      omega
    · intro he x hx
      by_cases hm : x ∈ w.tasks.map Int.toNat
      · exact hm
      · exfalso
        have := nodup_le (x :: w.tasks.map Int.toNat) (taskNums w) (List.nodup_cons.2 ⟨hm, k2⟩) fun y hy => by
          rcases List.mem_cons.1 hy with rfl | hy
          · exact hx
          · exact hsub y hy
        rw [taskNums_len, List.length_cons, List.length_map] at this
        omega
def worldB (p : BProg) (w : MWorld) : Bool :=
  decide ((w.objs.length : Int) ≤ 120) && w.objs.all (objB p w) && tasksB w && decide ((w.outs.length : Int) ≤ 100) && w.outs.all outOk && intsOk w.ins 50 && inR w.used 0 1000000000
theorem mean_runner_world_pc (p : BProg) (w : MWorld) (hp : p.few) (hw : w.few) : PC L F.mean_runner_world [.fp [.fz (p.nodes.map BNode.enc), .fz (p.funs.map (.int .i64)), .int .i64 p.main, .fz (p.cons.map BCon.enc), .fz (w.objs.map MObj.enc), .fz (w.tasks.map (.int .i64)), .fz (w.outs.map MOut.enc), .fz (w.ins.map (.int .i64)), .int .i64 w.used] 0] (.bool (worldB p w)) := by
  have ask : AsksT L (fun x : MObj => .agg [.int .i64 x.form, .int .i64 x.n, .fz (x.vals.map MVal.enc), .fz (x.frames.map MFrame.enc)]) (.fn F.mean_runner_object [.fp [.fz (p.nodes.map BNode.enc), .fz (p.funs.map (.int .i64)), .int .i64 p.main, .fz (p.cons.map BCon.enc), .fz (w.objs.map MObj.enc), .fz (w.tasks.map (.int .i64)), .fz (w.outs.map MOut.enc), .fz (w.ins.map (.int .i64)), .int .i64 w.used] 0] []) (objB p w) w.objs := by
    refine ⟨fun n en hn => ?_, rfl, rfl, rfl, fun x hx en K hK => ?_⟩
    · obtain ⟨m, rfl⟩ : ∃ m, n = m + 4 := ⟨n - 4, by omega⟩
      simp only [go_sem, qW]
    · simp only [go_sem, qW, (mean_runner_object_pc p w x hp hw (hw.obj x hx)).ret]
      exact hK
  have ask2 : AsksT L (fun x : MOut => .agg [.int .i64 x.port, .int .i64 x.n]) (.fn F.mean_runner_world_c1 [] []) outOk w.outs := by
    refine ⟨fun n en hn => ?_, rfl, rfl, rfl, fun x hx en K hK => ?_⟩
    · obtain ⟨m, rfl⟩ : ∃ m, n = m + 4 := ⟨n - 4, by omega⟩
      simp only [go_sem, qW]
    · simp only [go_sem, qW, (mean_runner_world_c1_pc x).ret]
      exact hK
  refine pc_of LF.mean_runner_world rfl rfl ?_
  simp only [go_sem, qC, qG, qW, C.mean_runner_world]
  refine guardK_split (fun h1 => ?_) (fun h1 => ?_)
  · have hn : w.objs.length ≤ 1000 := by simp at h1; omega
    have ht := mean_runner_tasks_pc p w hw hn
    simp only [go_sem, qC, qG, qW, h1, (mean_all_api_MeanObj_pc _ _ _ hw.objs ask).ret]
    refine guardK_split (fun h2 => ?_) (fun h2 => ?_)
    · simp only [go_sem, qC, qG, qW, h2, ht.ret]
      refine guardK_split (fun h3 => ?_) (fun h3 => ?_)
      · simp only [go_sem, qC, qG, qW, h3]
        refine guardK_split (fun h4 => ?_) (fun h4 => ?_)
        · simp only [go_sem, qC, qG, qW, h4, (mean_all_api_MeanOut_pc _ _ _ hw.outs ask2).ret]
          refine guardK_split (fun h5 => ?_) (fun h5 => ?_)
          · simp only [go_sem, qC, qG, qW, h5, (mean_inputs_pc _ hw.ins).ret]
            refine guardK_split (fun h6 => ?_) (fun h6 => ?_)
            · simp only [go_sem, qC, qG, qW, h6, (mean_within_pc _ _ _).ret]
              simp only [worldB, h1, h2, h3, h4, h5, h6, Bool.true_and]
            · simp only [go_sem, qC, qG, qW, h6, Bool.not_true]
              simp only [worldB, h1, h2, h3, h4, h5, h6, Bool.not_true, Bool.true_and, Bool.false_and]
          · simp only [go_sem, qC, qG, qW, h5, Bool.not_true]
            simp only [worldB, h1, h2, h3, h4, h5, Bool.not_true, Bool.true_and, Bool.false_and, Bool.and_false]
        · simp only [go_sem, qC, qG, qW, h4, Bool.not_true]
          simp only [worldB, h1, h2, h3, h4, Bool.not_true, Bool.true_and, Bool.false_and, Bool.and_false]
      · simp only [go_sem, qC, qG, qW, h3, Bool.not_true]
        simp only [worldB, h1, h2, h3, Bool.not_true, Bool.true_and, Bool.false_and, Bool.and_false]
    · simp only [go_sem, qC, qG, qW, h2, Bool.not_true]
      simp only [worldB, h1, h2, Bool.not_true, Bool.true_and, Bool.false_and, Bool.and_false]
  · simp only [go_sem, qC, qG, qW, h1, Bool.not_true]
    simp only [worldB, h1, Bool.not_true, Bool.true_and, Bool.false_and, Bool.and_false]
theorem formed_args {p : BProg} (h : formedOk p = true) : ∀ c ∈ p.cons, c.args ≤ 3 := by
  intro c hc
  simp only [formedOk, consOk, Bool.and_eq_true] at h
  have := List.all_eq_true.1 h.1.2.1.1 c hc
  simp only [conOk, inR, Bool.and_eq_true, decide_eq_true_eq] at this
  omega
theorem world_same (p : BProg) (w : MWorld) (h : formedOk p = true) : worldB p w = worldOk p w := by
  have : w.objs.all (objB p w) = w.objs.all (objOk p w) := by
    congr 1; funext o; exact obj_same p w o (formed_args h)
  simp only [worldB, worldOk, this, tasks_same]
  ac_rfl
theorem mean_Check_pc (p : BProg) (w : MWorld) (hp : p.few) (hw : w.few) (hs : smallProg p = true) : PC L F.mean_Check [.agg [.fz (p.nodes.map BNode.enc), .fz (p.funs.map (.int .i64)), .int .i64 p.main, .fz (p.cons.map BCon.enc)], .agg [.fz (w.objs.map MObj.enc), .fz (w.tasks.map (.int .i64)), .fz (w.outs.map MOut.enc), .fz (w.ins.map (.int .i64)), .int .i64 w.used]] (.int .i64 (if given p w then 0 else 2)) := by
  have hrun : ∃ r, PC L F.mean_running [.agg [.fz (p.nodes.map BNode.enc), .fz (p.funs.map (.int .i64)), .int .i64 p.main, .fz (p.cons.map BCon.enc)], .agg [.fz (w.objs.map MObj.enc), .fz (w.tasks.map (.int .i64)), .fz (w.outs.map MOut.enc), .fz (w.ins.map (.int .i64)), .int .i64 w.used]] (.tup [r, .bool (given p w)]) ∧ isOwnV r = false ∧ (∀ n en, 6 ≤ n → snapD n en r = some (r, [])) := by
    cases hf : formedOk p with
    | false =>
      refine ⟨.nilp, ?_, rfl, fun n en hn => ?_⟩
      · refine pc_of LF.mean_running rfl rfl ?_
        have hb := bind_Check_pc p hp hs
        rw [hf] at hb
        simp only [go_sem, qC, qG, qW, C.mean_running, hb.ret]
        simp [given, hf]
      · obtain ⟨m, rfl⟩ : ∃ m, n = m + 1 := ⟨n - 1, by omega⟩
        rfl
    | true =>
      refine ⟨.fp [.fz (p.nodes.map BNode.enc), .fz (p.funs.map (.int .i64)), .int .i64 p.main, .fz (p.cons.map BCon.enc), .fz (w.objs.map MObj.enc), .fz (w.tasks.map (.int .i64)), .fz (w.outs.map MOut.enc), .fz (w.ins.map (.int .i64)), .int .i64 w.used] 0, ?_, rfl, fun n en hn => ?_⟩
      · refine pc_of LF.mean_running rfl rfl ?_
        have hb := bind_Check_pc p hp hs
        rw [hf] at hb
        simp only [go_sem, qC, qG, qW, C.mean_running, hb.ret, (mean_runner_world_pc p w hp hw).ret]
        rw [world_same p w hf]
        simp [given, hf]
      · obtain ⟨m, rfl⟩ : ∃ m, n = m + 1 := ⟨n - 1, by omega⟩
        rfl
  obtain ⟨r, hr, hr1, hr2⟩ := hrun
  refine pc_of LF.mean_Check rfl rfl ?_
  simp only [go_sem, qC, qG, qW, C.mean_Check, hr.ret]
  cases hg : given p w <;> simp only [go_sem, qC, qG, qW, hg, Bool.not_true, Bool.not_false]
end Go.Proofs.YthpmfghgoabnhaaGreat
