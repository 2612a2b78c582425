/- Contracts: the tasks of a world, by the program. -/
import Derived.Test.YthpmfghgoabnhaaGreatW9
import Derived.Test.YthpmfghgoabnhaaGreatW8
set_option linter.all false
namespace Go.Proofs.YthpmfghgoabnhaaGreat
open Go.Abs Go.Proofs
theorem mean_numbers_pc (n : Nat) : PC L F.mean_numbers [.int .i64 n] (.fn F.mean_numbers_c1 [] [.fp [.int .i64 n] 0]) := by
  refine pc_of LF.mean_numbers rfl rfl ?_
  simp only [go_sem, qC, qG, qW, C.mean_numbers]
theorem Collect_pc (n : Nat) (hn : n ≤ 1000) : PC L F.slices_Collect_int [.fn F.mean_numbers_c1 [] [.fp [.int .i64 n] 0]] (.fz ((List.range n).map fun (i : Nat) => .int .i64 i)) := by
  have hf : Few n := by unfold Few; omega
  refine pc_of LF.slices_Collect_int rfl rfl ?_
  simp only [go_sem, qC, qG, qW, C.slices_Collect_int]
  refine win_of LF.slices_AppendSeq_s_int_int rfl rfl ?_
  simp only [go_sem, qC, qG, qW, C.slices_AppendSeq_s_int_int, box_any (v := .cl []) rfl rfl]
  refine wp_range (f := F.mean_numbers_c1) (x := []) (y := [.fp [.int .i64 n] 0]) ?_ ?_
  · simp only [go_sem, qW]
  intro fr0 key hfr0 hkey
  have h2 : fr0 2 = .ptr ⟨0, 2, 0⟩ 0 := by rw [hfr0]; simp only [go_sem, qW]
  have hk1 : key = ⟨1, 0, 0⟩ := by rw [hkey]; rfl
  subst hk1
  clear hkey hfr0
  refine win_of LF.mean_numbers_c1 rfl rfl ?_
  simp only [go_sem, qC, qG, qW, C.mean_numbers_c1]
  refine wp_for n (fun k st => ∃ fr en cnt v, st = ⟨fr, en, cnt⟩ ∧ fr 0 = .yld ⟨1, 0, 0⟩ ∧ fr 4 = .int .i64 n ∧ fr 5 = .int .i64 k ∧ en ⟨1, 0, 0⟩ = some (.loop fr0 [7] (.ops [o 5 (.mv (.t 7))]) (.block 1 (.ops [o 8 (.load false 1 (.t 2)), o 9 (.mv (.t 5)), o 10 (.bslice 1 1 [(.int .i64 0)] [(0, (.t 9))]), o 11 (.append 1 (.t 8) (.t 10)), on (.store 1 (.t 2) (.t 11))])) .ready) ∧ en ⟨0, 2, 0⟩ = some (.box [v] false) ∧ Mine en v 1 ((List.range k).map fun (i : Nat) => .int .i64 i) [11]) 0 (Nat.zero_le _) ⟨_, _, _, .cl [], rfl, by simp only [go_sem, qW], by simp only [go_sem, qW], by simp only [go_sem, qW], by simp only [go_sem, qW], by simp only [go_sem, qW], Mine.nil _ _⟩ ?_
  rintro k st hk ⟨fr, en, cnt, v, rfl, h0, h4, h5, e1, e2, hm⟩
  simp only [go_sem, qC, qG, qW, h0, h4, h5]
  refine condK_split (fun hq => ?_) (fun hq => ?_)
  · have h' : k < n := of_decide_eq_true hq
    simp only [go_sem, qC, qG, qW, h', h0, h4, h5]
    refine win_yld (fr := fr0) (ps := [7]) (a := (.ops [o 5 (.mv (.t 7))])) (b := (.block 1 (.ops [o 8 (.load false 1 (.t 2)), o 9 (.mv (.t 5)), o 10 (.bslice 1 1 [(.int .i64 0)] [(0, (.t 9))]), o 11 (.append 1 (.t 8) (.t 10)), on (.store 1 (.t 2) (.t 11))]))) e1 rfl ?_
    simp only [go_sem, qC, qG, qW, h2, e1, e2]
    refine w_append (D := [11]) (xs := (List.range k).map fun (i : Nat) => Val.int .i64 i) (ys := [.int .i64 k]) (rs := []) ?_ ?_ ?_ ?_ ?_
    · simp only [go_sem, qW]
      exact hm.keep fun t g ht => by simp at ht; subst ht; simp only [go_sem, qW]
    · simp only [go_sem, qW]
    · rfl
    · simp; omega
    · intro v' en' cnt' hown hen hcnt
      obtain ⟨s1, s2⟩ := hown.shape
      have k1 : en' ⟨1, 0, 0⟩ = some (.loop fr0 [7] (.ops [o 5 (.mv (.t 7))]) (.block 1 (.ops [o 8 (.load false 1 (.t 2)), o 9 (.mv (.t 5)), o 10 (.bslice 1 1 [(.int .i64 0)] [(0, (.t 9))]), o 11 (.append 1 (.t 8) (.t 10)), on (.store 1 (.t 2) (.t 11))])) .busy) := by rw [hen 1 0 0 (.inl (by decide))]; simp only [go_sem, qW]
      have k2 : en' ⟨0, 2, 0⟩ = some (.box [v] false) := by rw [hen 0 2 0 (.inr ⟨by decide, by simp⟩)]; simp only [go_sem, qW, e2]
      simp only [go_sem, qC, qG, qW, h', h2, s1, s2, k1, k2]
      simp only [go_sem, qC, qG, qW, h0, h4, h5]
      refine ⟨_, _, _, v', rfl, ?_⟩
      simp only [go_sem, qC, qG, qW, h0, h4, h5, k2, wrap_succ h' hf]
      refine Mine.sub (D := [11, 11]) (Mine.keep (en := en') ?_ ?_) (by simp)
      · rw [List.map_append]; exact hown
      · intro t g ht; simp at ht; subst ht; simp only [go_sem, qW]
  · have : k = n := by simp at hq; omega
    subst this
    simp only [go_sem, qC, qG, qW, e1]
    obtain ⟨r, ks, s1, s2, _⟩ := mine_ret (hm.keep (en' := en.set ⟨1, 0, 0⟩ none) fun t g ht => by simp at ht; subst ht; simp only [go_sem, qW])
    simp only [go_sem, qC, qG, qW, e2, s1, s2]
theorem findKey_int (n : Int) : ∀ ks : List Int, (∃ i, findKey .num (.int .i64 n) (ks.map (.int .i64)) = some (some i) ∧ (ks.any fun x => decide (x = n)) = true ∧ (ks.map (Val.int .i64)).set i (.int .i64 n) = ks.map (.int .i64) ∧ i < ks.length) ∨
    (findKey .num (.int .i64 n) (ks.map (.int .i64)) = some none ∧ (ks.any fun x => decide (x = n)) = false)
  | [] => .inr ⟨rfl, rfl⟩
  | x :: ks => by
    have he : eqVal .num (.int .i64 n) (.int .i64 x) = some (n == x) := by simp [eqVal]
    by_cases h : n = x
    · subst h
      refine .inl ⟨0, ?_, by simp, by simp, by simp⟩
      simp only [List.map_cons, findKey, he, beq_self_eq_true]
    · have hb : (n == x) = false := by simpa using h
      have hx : decide (x = n) = false := by simp; exact fun e => h e.symm
      rcases findKey_int n ks with ⟨i, h1, h2, h3, h4⟩ | ⟨h1, h2⟩
      · refine .inl ⟨i + 1, ?_, ?_, by simp [h3], by simp; exact h4⟩
        · simp only [List.map_cons, findKey, he, hb, h1]
        · simp only [List.any_cons, hx, Bool.false_or]; exact h2
      · refine .inr ⟨?_, ?_⟩
        · simp only [List.map_cons, findKey, he, hb, h1]
        · simp only [List.any_cons, hx, Bool.false_or]; exact h2
theorem look_bool (n : Int) (ks : List Int) : lookIn .num (.bool false) false (.int .i64 n) (ks.map (.int .i64)) (ks.map fun _ => .bool true) = some (.bool (ks.any fun x => decide (x = n))) := by
  unfold lookIn
  rcases findKey_int n ks with ⟨i, h1, h2, _, h4⟩ | ⟨h1, h2⟩
  · simp [h1, h2, List.getD_eq_getElem?_getD, h4]
  · simp [h1, h2]
def covered (w : MWorld) (ks : List Int) : Bool := (List.range w.objs.length).all fun i => (ks.any fun x => decide (x = (i : Int))) || !isTask (w.obj i)
def tasksB (w : MWorld) : Bool := distinctTasks w [] w.tasks && covered w w.tasks
theorem mean_runner_tasks_c1_pc (p : BProg) (w : MWorld) (ks : List Int) (i : Nat) (hi : i < w.objs.length) :
    PC L F.mean_runner_tasks_c1 [.int .i64 i, .fp [.fm (ks.map (.int .i64)) (ks.map fun _ => .bool true)] 0, .fp [.fp [.fz (p.nodes.map BNode.enc), .fz (p.funs.map (.int .i64)), .int .i64 p.main, .fz (p.cons.map BCon.enc), .fz (w.objs.map MObj.enc), .fz (w.tasks.map (.int .i64)), .fz (w.outs.map MOut.enc), .fz (w.ins.map (.int .i64)), .int .i64 w.used] 0] 0] (.bool ((ks.any fun x => decide (x = (i : Int))) || !isTask (w.obj i))) := by
  have hin : inR (i : Int) 0 (w.objs.length - 1) = true := by simp [inR]; omega
  refine pc_of LF.mean_runner_tasks_c1 rfl rfl ?_
  simp only [go_sem, qC, qG, qW, C.mean_runner_tasks_c1, look_bool]
  refine guardK_split (fun h => ?_) (fun h => ?_)
  · simp only [go_sem, qC, qG, qW, h, ia_obj, hin]
    simp [isTask]
  · simp only [go_sem, qC, qG, qW, h, Bool.not_false]
    simp
theorem one_mp {k : Key} : Val.one (.mp k) = true := (rfl)
theorem cells_mp {k : Key} : Val.cells (.mp k) = [.mp k] := (rfl)
theorem sn_mp {n : Nat} {en : En} {k : Key} : snapD (n + 1) en (.mp k) = (match en k with
      | some (.map ks vs _) => some (.fm ks vs, [k])
      | _ => none) := (rfl)
theorem mean_runner_tasks_pc (p : BProg) (w : MWorld) (hw : w.few) (hn : w.objs.length ≤ 1000) : PC L F.mean_runner_tasks [.fp [.fz (p.nodes.map BNode.enc), .fz (p.funs.map (.int .i64)), .int .i64 p.main, .fz (p.cons.map BCon.enc), .fz (w.objs.map MObj.enc), .fz (w.tasks.map (.int .i64)), .fz (w.outs.map MOut.enc), .fz (w.ins.map (.int .i64)), .int .i64 w.used] 0] (.bool (tasksB w)) := by
  have e := wrap_pred hw.objs
  refine pc_of LF.mean_runner_tasks rfl rfl ?_
  simp only [go_sem, qC, qG, qW, C.mean_runner_tasks, box_any (v := .fp [.fz (p.nodes.map BNode.enc), .fz (p.funs.map (.int .i64)), .int .i64 p.main, .fz (p.cons.map BCon.enc), .fz (w.objs.map MObj.enc), .fz (w.tasks.map (.int .i64)), .fz (w.outs.map MOut.enc), .fz (w.ins.map (.int .i64)), .int .i64 w.used] 0) rfl rfl, one_mp, cells_mp]
  refine wp_for w.tasks.length (fun k st => ∃ fr en cnt, st = ⟨fr, en, cnt⟩ ∧ fr 1 = .ptr ⟨0, 1, 0⟩ 0 ∧ en ⟨0, 1, 0⟩ = some (.box [.fp [.fz (p.nodes.map BNode.enc), .fz (p.funs.map (.int .i64)), .int .i64 p.main, .fz (p.cons.map BCon.enc), .fz (w.objs.map MObj.enc), .fz (w.tasks.map (.int .i64)), .fz (w.outs.map MOut.enc), .fz (w.ins.map (.int .i64)), .int .i64 w.used] 0] false) ∧ fr 3 = .ptr ⟨0, 3, 0⟩ 0 ∧ en ⟨0, 3, 0⟩ = some (.box [.mp ⟨0, 6, 0⟩] false) ∧
    en ⟨0, 6, 0⟩ = some (.map ((w.tasks.take k).map (.int .i64)) ((w.tasks.take k).map fun _ => .bool true) false) ∧ fr 11 = .fz (w.tasks.map (.int .i64)) ∧ fr 12 = .int .i64 w.tasks.length ∧ fr 13 = .int .i64 k ∧ distinctTasks w (w.tasks.take k) (w.tasks.drop k) = distinctTasks w [] w.tasks) 0 (Nat.zero_le _)
    ⟨_, _, _, rfl, by simp only [go_sem, qW], by simp only [go_sem, qW], by simp only [go_sem, qW], by simp only [go_sem, qW], by simp only [go_sem, qW], by simp only [go_sem, qW], by simp only [go_sem, qW], by simp only [go_sem, qW], rfl⟩ ?_
  rintro k st hk ⟨fr, en, cnt, rfl, h1, e1, h3, e3, e6, h11, h12, h13, hI⟩
  simp only [go_sem, qC, qG, qW, h11, h12, h13]
  refine condK_split (fun hq => ?_) (fun hq => ?_)
  · have h' : k < w.tasks.length := of_decide_eq_true hq
    rw [List.drop_eq_getElem_cons h', distinctTasks] at hI
    simp only [go_sem, qC, qG, qW, h', h1, e1, h3, e3, h11, h12, h13, (mean_within_pc _ _ _).ret, e]
    refine guardK_split (fun hb => ?_) (fun hb => ?_)
    · simp at hb
      simp only [go_sem, qC, qG, qW, hb, Bool.not_true, h1, e1, h3, e3, ia_obj]
      refine guardK_split (fun hc => ?_) (fun hc => ?_)
      · have hc' : isTask (w.obj w.tasks[k]) = true := by simpa [isTask] using hc
        simp only [go_sem, qC, qG, qW, hc, h1, e1, h3, e3, e6, look_bool]
        refine condK_split (fun hd => ?_) (fun hd => ?_)
        · simp only [go_sem, qC, qG, qW]
          rw [hb, hc', hd] at hI
          rw [tasksB, ← hI]; rfl
        · rw [hb, hc', hd] at hI
          simp only [Bool.not_false, Bool.true_and] at hI
          rcases findKey_int w.tasks[k] (w.tasks.take k) with ⟨i, f1, f2, _⟩ | ⟨f1, _⟩
          · rw [hd] at f2; cases f2
          · simp only [go_sem, qC, qG, qW, h', h1, e1, h3, e3, e6, h11, h12, h13, f1]
            refine ⟨_, _, _, rfl, ?_⟩
            simp only [go_sem, qC, qG, qW, h', h1, e1, h3, e3, e6, h11, h12, h13, take_step h', List.map_append, wrap_succ h' hw.tasks]
            exact hI
      · have hc' : isTask (w.obj w.tasks[k]) = false := by simp at hc; simp [isTask, hc]
        simp only [go_sem, qC, qG, qW, hc]
        rw [hb, hc'] at hI
        rw [tasksB, ← hI]; rfl
    · simp at hb
      simp only [go_sem, qC, qG, qW, hb, Bool.not_false]
      rw [hb] at hI
      rw [tasksB, ← hI]; rfl
  · have : k = w.tasks.length := by simp at hq; omega
    subst this
    rw [List.take_length] at e6 hI
    rw [List.drop_length, distinctTasks] at hI
    have hp : ∀ i : Nat, i < w.objs.length → PC L F.mean_runner_tasks_c1 [.int .i64 i, .fp [.fm (w.tasks.map (.int .i64)) (w.tasks.map fun _ => .bool true)] 0, .fp [.fp [.fz (p.nodes.map BNode.enc), .fz (p.funs.map (.int .i64)), .int .i64 p.main, .fz (p.cons.map BCon.enc), .fz (w.objs.map MObj.enc), .fz (w.tasks.map (.int .i64)), .fz (w.outs.map MOut.enc), .fz (w.ins.map (.int .i64)), .int .i64 w.used] 0] 0] (.bool ((w.tasks.any fun x => decide (x = (i : Int))) || !isTask (w.obj i))) := fun i hi => mean_runner_tasks_c1_pc p w w.tasks i hi
    have ask : AsksT L (fun x : Int => .int .i64 x) (.fn F.mean_runner_tasks_c1 [] [.fp [.fm (w.tasks.map (.int .i64)) (w.tasks.map fun _ => .bool true)] 0, .fp [.fp [.fz (p.nodes.map BNode.enc), .fz (p.funs.map (.int .i64)), .int .i64 p.main, .fz (p.cons.map BCon.enc), .fz (w.objs.map MObj.enc), .fz (w.tasks.map (.int .i64)), .fz (w.outs.map MOut.enc), .fz (w.ins.map (.int .i64)), .int .i64 w.used] 0] 0]) (fun j => (w.tasks.any fun x => decide (x = j)) || !isTask (w.obj j)) ((List.range w.objs.length).map fun (i : Nat) => (i : Int)) := by
      refine ⟨fun n en hn => ?_, rfl, rfl, rfl, fun x hx en K hK => ?_⟩
      · obtain ⟨m, rfl⟩ : ∃ m, n = m + 4 := ⟨n - 4, by omega⟩
        simp only [go_sem, qW]
      · obtain ⟨i, hi, rfl⟩ := List.mem_map.1 hx
        simp only [go_sem, qW, (hp i (by simpa using hi)).ret]
        exact hK
    have hall := mean_all_int_pc _ _ _ (by simpa using hw.objs) ask
    have he : List.map (Val.int .i64) ((List.range w.objs.length).map fun (i : Nat) => (i : Int)) = (List.range w.objs.length).map fun (i : Nat) => Val.int .i64 i := by simp
    rw [he] at hall
    simp only [go_sem, qC, qG, qW, h1, e1, h3, e3, e6, (mean_numbers_pc _).ret, (Collect_pc _ hn).ret, sn_mp, hall.ret]
    rw [tasksB, ← hI, Bool.true_and, covered, List.all_map]; rfl
end Go.Proofs.YthpmfghgoabnhaaGreat
