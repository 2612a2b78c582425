/- How a cycle begins: the document's answer. -/
import Derived.Test.YthpmfghgoabnhaaGreatW15
set_option linter.all false
namespace Go.Proofs.YthpmfghgoabnhaaGreat
open Go.Abs Go.Proofs
theorem wp_cutE {L : Prog} {c : LCode} {st : St} {Q : Ex → St → Prop} (M : St → Prop) (h : Wp L c st fun e st' => e = .normal ∧ M st') (k : ∀ fr en cnt, M ⟨fr, en, cnt⟩ → Q .normal ⟨fr, en, cnt⟩) : Wp L c st Q :=
  Go.Abs.wp_mono c h fun e s hs => by obtain ⟨rfl, hs⟩ := hs; exact k _ _ _ hs
def ageN (ages : List Int) (r : Int) : Int := ages.getD r.toNat 0
def markB (young : Int → Bool) (w : MWorld) (ages : List Int) (c : Int) (i : Nat) : Int :=
  if isTask (w.obj i) = true then 1
  else if (!decide (c = 3) && decide (ageN ages i = 2)) = true then (if (refsL (w.obj i)).any (fun r => young (ageN ages r)) = true then 1 else 2)
  else 0
theorem ageN_get {l : List Int} {k : Nat} (h : k < l.length) : ageN l k = l[k] := by simp [ageN, List.getD_eq_getElem?_getD, h]
def lt2 (a : Int) : Bool := decide (a < 2)
def marksB (young : Int → Bool) (w : MWorld) (ages : List Int) (c : Int) : List Int := (List.range w.objs.length).map (markB young w ages c)
theorem R18_begun_pc (w : MWorld) (ages : List Int) (c : Int) (hw : w.few) (hsm : smallWorld w = true) (ha : ages.length = w.objs.length) (hin : ∀ o ∈ w.objs, ∀ x ∈ refsL o, inR x 0 ((w.objs.length : Int) - 1) = true) :
    PC L F.R18_begun [.agg [.fz (w.objs.map MObj.enc), .fz (w.tasks.map (.int .i64)), .fz (w.outs.map MOut.enc), .fz (w.ins.map (.int .i64)), .int .i64 w.used], .fz (ages.map (.int .i64)), .int .i64 c] (.agg [.fz (w.objs.map MObj.enc), .fz (w.tasks.map (.int .i64)), .fz (w.outs.map MOut.enc), .fz (w.ins.map (.int .i64)), .int .i64 w.used, .fz (ages.map (.int .i64)), .fz ((marksB lt2 w ages c).map (.int .i64)), .int .i64 c]) := by
  refine pc_of LF.R18_begun rfl rfl ?_
  simp only [go_sem, qC, qG, qW, C.R18_begun]
  refine wp_for w.objs.length (fun k st => ∃ fr en cnt v, st = ⟨fr, en, cnt⟩ ∧ fr 1 = .fz (ages.map (.int .i64)) ∧ fr 2 = .int .i64 c ∧ fr 3 = .ptr ⟨0, 3, 0⟩ 0 ∧ en ⟨0, 3, 0⟩ = some (.box [.fz (w.objs.map MObj.enc), .fz (w.tasks.map (.int .i64)), .fz (w.outs.map MOut.enc), .fz (w.ins.map (.int .i64)), .int .i64 w.used] false) ∧ fr 6 = .ptr ⟨0, 6, 0⟩ 0 ∧ en ⟨0, 6, 0⟩ = some (.box [.cl [], .cl [], .cl [], .cl [], .int .i64 0, .cl [], .cl [], .int .i64 0] false) ∧ fr 7 = .ptr ⟨0, 7, 0⟩ 0 ∧ en ⟨0, 7, 0⟩ = some (.box [.fz (w.objs.map MObj.enc), .fz (w.tasks.map (.int .i64)), .fz (w.outs.map MOut.enc), .fz (w.ins.map (.int .i64)), .int .i64 w.used, .fz (ages.map (.int .i64)), v, .int .i64 c] false) ∧ fr 8 = .int .i64 k ∧ Mine en v 1 (((List.range k).map (markB lt2 w ages c)).map (.int .i64)) [60]) 0 (Nat.zero_le _) ⟨_, _, _, .cl [], rfl, by simp only [go_sem, qW], by simp only [go_sem, qW], by simp only [go_sem, qW], by simp only [go_sem, qW], by simp only [go_sem, qW], by simp only [go_sem, qW], by simp only [go_sem, qW], by simp only [go_sem, qW], by simp only [go_sem, qW], Mine.nil _ _⟩ ?_
  rintro k st hk ⟨fr, en, cnt, v, rfl, h1, h2, h3, e3, h6, e6, h7, e7, h8, hv⟩
  simp only [go_sem, qC, qG, qW, h1, h2, h3, e3, h6, e6, h7, e7, h8]
  refine condK_split (fun hq => ?_) (fun hq => ?_)
  · have h' : k < w.objs.length := of_decide_eq_true hq
    have hka : k < ages.length := by omega
    refine wops_cut (fun st => (st.fr 1 = .fz (ages.map (.int .i64))) ∧ (st.fr 2 = .int .i64 c) ∧ (st.fr 3 = .ptr ⟨0, 3, 0⟩ 0) ∧ (st.en ⟨0, 3, 0⟩ = some (.box [.fz (w.objs.map MObj.enc), .fz (w.tasks.map (.int .i64)), .fz (w.outs.map MOut.enc), .fz (w.ins.map (.int .i64)), .int .i64 w.used] false)) ∧ (st.fr 6 = .ptr ⟨0, 6, 0⟩ 0) ∧ (st.en ⟨0, 6, 0⟩ = some (.box [.cl [], .cl [], .cl [], .cl [], .int .i64 0, .cl [], .cl [], .int .i64 0] false)) ∧ (st.fr 7 = .ptr ⟨0, 7, 0⟩ 0) ∧ (st.en ⟨0, 7, 0⟩ = some (.box [.fz (w.objs.map MObj.enc), .fz (w.tasks.map (.int .i64)), .fz (w.outs.map MOut.enc), .fz (w.ins.map (.int .i64)), .int .i64 w.used, .fz (ages.map (.int .i64)), v, .int .i64 c] false)) ∧ (st.fr 8 = .int .i64 k) ∧ (st.fr 9 = .int .i64 0) ∧ (Mine st.en v 1 (((List.range k).map (markB lt2 w ages c)).map (.int .i64)) [60])) ?_ ?_
    · simp only [go_sem, qC, qG, qW, h1, h2, h3, e3, h6, e6, h7, e7, h8]
      exact hv
    · rintro fr en cnt ⟨(h1 : fr 1 = .fz (ages.map (.int .i64))), (h2 : fr 2 = .int .i64 c), (h3 : fr 3 = .ptr ⟨0, 3, 0⟩ 0), (e3 : en ⟨0, 3, 0⟩ = some (.box [.fz (w.objs.map MObj.enc), .fz (w.tasks.map (.int .i64)), .fz (w.outs.map MOut.enc), .fz (w.ins.map (.int .i64)), .int .i64 w.used] false)), (h6 : fr 6 = .ptr ⟨0, 6, 0⟩ 0), (e6 : en ⟨0, 6, 0⟩ = some (.box [.cl [], .cl [], .cl [], .cl [], .int .i64 0, .cl [], .cl [], .int .i64 0] false)), (h7 : fr 7 = .ptr ⟨0, 7, 0⟩ 0), (e7 : en ⟨0, 7, 0⟩ = some (.box [.fz (w.objs.map MObj.enc), .fz (w.tasks.map (.int .i64)), .fz (w.outs.map MOut.enc), .fz (w.ins.map (.int .i64)), .int .i64 w.used, .fz (ages.map (.int .i64)), v, .int .i64 c] false)), (h8 : fr 8 = .int .i64 k), (h9 : fr 9 = .int .i64 0), (hv : Mine en v 1 (((List.range k).map (markB lt2 w ages c)).map (.int .i64)) [60])⟩
      refine wops_cut (fun st => (st.fr 1 = .fz (ages.map (.int .i64))) ∧ (st.fr 2 = .int .i64 c) ∧ (st.fr 3 = .ptr ⟨0, 3, 0⟩ 0) ∧ (st.en ⟨0, 3, 0⟩ = some (.box [.fz (w.objs.map MObj.enc), .fz (w.tasks.map (.int .i64)), .fz (w.outs.map MOut.enc), .fz (w.ins.map (.int .i64)), .int .i64 w.used] false)) ∧ (st.fr 6 = .ptr ⟨0, 6, 0⟩ 0) ∧ (st.en ⟨0, 6, 0⟩ = some (.box [.cl [], .cl [], .cl [], .cl [], .int .i64 0, .cl [], .cl [], .int .i64 0] false)) ∧ (st.fr 7 = .ptr ⟨0, 7, 0⟩ 0) ∧ (st.en ⟨0, 7, 0⟩ = some (.box [.fz (w.objs.map MObj.enc), .fz (w.tasks.map (.int .i64)), .fz (w.outs.map MOut.enc), .fz (w.ins.map (.int .i64)), .int .i64 w.used, .fz (ages.map (.int .i64)), v, .int .i64 c] false)) ∧ (st.fr 8 = .int .i64 k) ∧ (st.fr 9 = .int .i64 0) ∧ (st.fr 25 = .bool (isTask (w.obj k))) ∧ (Mine st.en v 1 (((List.range k).map (markB lt2 w ages c)).map (.int .i64)) [60])) ?_ ?_
      · simp only [go_sem, qC, qG, qW, h1, h2, h3, e3, h6, e6, h7, e7, h8, h9, (R18_task_pc w k h').ret]
        exact hv
      · rintro fr en cnt ⟨(h1 : fr 1 = .fz (ages.map (.int .i64))), (h2 : fr 2 = .int .i64 c), (h3 : fr 3 = .ptr ⟨0, 3, 0⟩ 0), (e3 : en ⟨0, 3, 0⟩ = some (.box [.fz (w.objs.map MObj.enc), .fz (w.tasks.map (.int .i64)), .fz (w.outs.map MOut.enc), .fz (w.ins.map (.int .i64)), .int .i64 w.used] false)), (h6 : fr 6 = .ptr ⟨0, 6, 0⟩ 0), (e6 : en ⟨0, 6, 0⟩ = some (.box [.cl [], .cl [], .cl [], .cl [], .int .i64 0, .cl [], .cl [], .int .i64 0] false)), (h7 : fr 7 = .ptr ⟨0, 7, 0⟩ 0), (e7 : en ⟨0, 7, 0⟩ = some (.box [.fz (w.objs.map MObj.enc), .fz (w.tasks.map (.int .i64)), .fz (w.outs.map MOut.enc), .fz (w.ins.map (.int .i64)), .int .i64 w.used, .fz (ages.map (.int .i64)), v, .int .i64 c] false)), (h8 : fr 8 = .int .i64 k), (h9 : fr 9 = .int .i64 0), (h25 : fr 25 = .bool (isTask (w.obj k))), (hv : Mine en v 1 (((List.range k).map (markB lt2 w ages c)).map (.int .i64)) [60])⟩
        refine wp_cutE (fun st => (st.fr 1 = .fz (ages.map (.int .i64))) ∧ (st.fr 2 = .int .i64 c) ∧ (st.fr 3 = .ptr ⟨0, 3, 0⟩ 0) ∧ (st.en ⟨0, 3, 0⟩ = some (.box [.fz (w.objs.map MObj.enc), .fz (w.tasks.map (.int .i64)), .fz (w.outs.map MOut.enc), .fz (w.ins.map (.int .i64)), .int .i64 w.used] false)) ∧ (st.fr 6 = .ptr ⟨0, 6, 0⟩ 0) ∧ (st.en ⟨0, 6, 0⟩ = some (.box [.cl [], .cl [], .cl [], .cl [], .int .i64 0, .cl [], .cl [], .int .i64 0] false)) ∧ (st.fr 7 = .ptr ⟨0, 7, 0⟩ 0) ∧ (st.en ⟨0, 7, 0⟩ = some (.box [.fz (w.objs.map MObj.enc), .fz (w.tasks.map (.int .i64)), .fz (w.outs.map MOut.enc), .fz (w.ins.map (.int .i64)), .int .i64 w.used, .fz (ages.map (.int .i64)), v, .int .i64 c] false)) ∧ (st.fr 8 = .int .i64 k) ∧ (st.fr 9 = .int .i64 (markB lt2 w ages c k)) ∧ (Mine st.en v 1 (((List.range k).map (markB lt2 w ages c)).map (.int .i64)) [60])) ?_ ?_
        · simp only [go_sem, qC, qG, qW, h1, h2, h3, e3, h6, e6, h7, e7, h8, h9, h25]
          refine condK_split (fun g => ?_) (fun g => ?_)
          · simp only [go_sem, qC, qG, qW, h1, h2, h3, e3, h6, e6, h7, e7, h8, h9]
            exact ⟨by rw [markB, if_pos g], hv⟩
          · have g' : ¬ isTask (w.obj k) = true := by rw [g]; decide
            simp only [go_sem, qC, qG, qW, h1, h2, h3, e3, h6, e6, h7, e7, h8, h9, (R18_full_pc _).ret]
            refine guardK_split (fun g2 => ?_) (fun g2 => ?_)
            · simp only [go_sem, qC, qG, qW, g2, hka, h1, h2, h3, e3, h6, e6, h7, e7, h8, h9, h25]
              refine condK_split (fun g3 => ?_) (fun g3 => ?_)
              · have hso := smallW_obj hsm _ (List.getElem_mem h')
                have hino := hin _ (List.getElem_mem h')
                rw [← ha] at hino
                have hlen := refsL_len hso
                have hfl : Few (refsL w.objs[k]).length := by unfold Few; omega
                have e2 : markB lt2 w ages c k = if (refsL w.objs[k]).any (fun r => lt2 (ageN ages r)) = true then 1 else 2 := by
                  rw [markB, if_neg g', if_pos (by rw [ageN_get hka]; rw [g2, g3]; rfl), objAt_get h']
                simp only [go_sem, qC, qG, qW, h', h1, h2, h3, e3, h6, e6, h7, e7, h8, (R18_Refs_pc _ hso).ret]
                refine wp_for ((refsL w.objs[k]).length) (fun j st => ∃ fr en cnt, st = ⟨fr, en, cnt⟩ ∧ (fr 1 = .fz (ages.map (.int .i64))) ∧ (fr 2 = .int .i64 c) ∧ (fr 3 = .ptr ⟨0, 3, 0⟩ 0) ∧ (en ⟨0, 3, 0⟩ = some (.box [.fz (w.objs.map MObj.enc), .fz (w.tasks.map (.int .i64)), .fz (w.outs.map MOut.enc), .fz (w.ins.map (.int .i64)), .int .i64 w.used] false)) ∧ (fr 6 = .ptr ⟨0, 6, 0⟩ 0) ∧ (en ⟨0, 6, 0⟩ = some (.box [.cl [], .cl [], .cl [], .cl [], .int .i64 0, .cl [], .cl [], .int .i64 0] false)) ∧ (fr 7 = .ptr ⟨0, 7, 0⟩ 0) ∧ (en ⟨0, 7, 0⟩ = some (.box [.fz (w.objs.map MObj.enc), .fz (w.tasks.map (.int .i64)), .fz (w.outs.map MOut.enc), .fz (w.ins.map (.int .i64)), .int .i64 w.used, .fz (ages.map (.int .i64)), v, .int .i64 c] false)) ∧ (fr 8 = .int .i64 k) ∧ (fr 10 = .fz ((refsL w.objs[k]).map (.int .i64))) ∧ (fr 11 = .int .i64 j) ∧ (fr 9 = .int .i64 (if ((refsL w.objs[k]).take j).any (fun r => lt2 (ageN ages r)) = true then 1 else 2)) ∧ (Mine en v 1 (((List.range k).map (markB lt2 w ages c)).map (.int .i64)) [60])) 0 (Nat.zero_le _) ⟨_, _, _, rfl, (by first | (simp only [go_sem, h1, h2, h3, e3, h6, e6, h7, e7, h8, h9, hv]; (try rfl); done) | rfl | simp), (by first | (simp only [go_sem, h1, h2, h3, e3, h6, e6, h7, e7, h8, h9, hv]; (try rfl); done) | rfl | simp), (by first | (simp only [go_sem, h1, h2, h3, e3, h6, e6, h7, e7, h8, h9, hv]; (try rfl); done) | rfl | simp), (by first | (simp only [go_sem, h1, h2, h3, e3, h6, e6, h7, e7, h8, h9, hv]; (try rfl); done) | rfl | simp), (by first | (simp only [go_sem, h1, h2, h3, e3, h6, e6, h7, e7, h8, h9, hv]; (try rfl); done) | rfl | simp), (by first | (simp only [go_sem, h1, h2, h3, e3, h6, e6, h7, e7, h8, h9, hv]; (try rfl); done) | rfl | simp), (by first | (simp only [go_sem, h1, h2, h3, e3, h6, e6, h7, e7, h8, h9, hv]; (try rfl); done) | rfl | simp), (by first | (simp only [go_sem, h1, h2, h3, e3, h6, e6, h7, e7, h8, h9, hv]; (try rfl); done) | rfl | simp), (by first | (simp only [go_sem, h1, h2, h3, e3, h6, e6, h7, e7, h8, h9, hv]; (try rfl); done) | rfl | simp), (by first | (simp only [go_sem, h1, h2, h3, e3, h6, e6, h7, e7, h8, h9, hv]; (try rfl); done) | rfl | simp), (by first | (simp only [go_sem, h1, h2, h3, e3, h6, e6, h7, e7, h8, h9, hv]; (try rfl); done) | rfl | simp), (by first | (simp only [go_sem, h1, h2, h3, e3, h6, e6, h7, e7, h8, h9, hv]; (try rfl); done) | rfl | simp), (by first | (simp only [go_sem, h1, h2, h3, e3, h6, e6, h7, e7, h8, h9, hv]; (try rfl); done) | rfl | simp)⟩ ?_
                rintro j st hk ⟨fr, en, cnt, rfl, h1, h2, h3, e3, h6, e6, h7, e7, h8, h10, h11, h9, hv⟩
                simp only [go_sem, qC, qG, qW, h1, h2, h3, e3, h6, e6, h7, e7, h8, h10, h11, h9]
                refine condK_split (fun hq2 => ?_) (fun hq2 => ?_)
                · have h2' : j < (refsL w.objs[k]).length := of_decide_eq_true hq2
                  have hx := hino _ (List.getElem_mem h2')
                  have e3' : ((refsL w.objs[k]).take (j + 1)).any (fun r => lt2 (ageN ages r)) = (((refsL w.objs[k]).take j).any (fun r => lt2 (ageN ages r)) || lt2 (ageN ages (refsL w.objs[k])[j])) := by
                    rw [take_step h2', List.any_append]; simp
                  simp only [go_sem, qC, qG, qW, h2', h1, h2, h3, e3, h6, e6, h7, e7, h8, h10, h11, h9, ia_int hx]
                  refine condK_split (fun g4 => ?_) (fun g4 => ?_)
                  · have g5 : lt2 (ageN ages (refsL w.objs[k])[j]) = true := g4
                    simp only [go_sem, qC, qG, qW, h1, h2, h3, e3, h6, e6, h7, e7, h8, h10, h11, h9]
                    refine ⟨_, _, _, rfl, ?_⟩
                    simp only [go_sem, qC, qG, qW, h1, h2, h3, e3, h6, e6, h7, e7, h8, h10, h11, h9, wrap_succ h2' hfl]
                    rw [e3', g5, Bool.or_true, if_pos rfl]
                    exact ⟨rfl, hv⟩
                  · have g5 : lt2 (ageN ages (refsL w.objs[k])[j]) = false := g4
                    simp only [go_sem, qC, qG, qW, h1, h2, h3, e3, h6, e6, h7, e7, h8, h10, h11, h9]
                    refine ⟨_, _, _, rfl, ?_⟩
                    simp only [go_sem, qC, qG, qW, h1, h2, h3, e3, h6, e6, h7, e7, h8, h10, h11, h9, wrap_succ h2' hfl]
                    rw [e3', g5, Bool.or_false]
                    exact ⟨rfl, hv⟩
                · have : j = (refsL w.objs[k]).length := by simp at hq2; omega
                  subst this
                  rw [List.take_length, ← e2] at h9
                  simp only [go_sem, qC, qG, qW, h1, h2, h3, e3, h6, e6, h7, e7, h8, h9]
                  exact hv
              · simp only [go_sem, qC, qG, qW, h1, h2, h3, e3, h6, e6, h7, e7, h8, h9]
                exact ⟨by rw [markB, if_neg g', if_neg (by rw [ageN_get hka, g3]; simp)], hv⟩
            · simp only [go_sem, qC, qG, qW, g2, h1, h2, h3, e3, h6, e6, h7, e7, h8, h9]
              exact ⟨by rw [markB, if_neg g', if_neg (by rw [g2]; simp)], hv⟩
        · rintro fr en cnt ⟨(h1 : fr 1 = .fz (ages.map (.int .i64))), (h2 : fr 2 = .int .i64 c), (h3 : fr 3 = .ptr ⟨0, 3, 0⟩ 0), (e3 : en ⟨0, 3, 0⟩ = some (.box [.fz (w.objs.map MObj.enc), .fz (w.tasks.map (.int .i64)), .fz (w.outs.map MOut.enc), .fz (w.ins.map (.int .i64)), .int .i64 w.used] false)), (h6 : fr 6 = .ptr ⟨0, 6, 0⟩ 0), (e6 : en ⟨0, 6, 0⟩ = some (.box [.cl [], .cl [], .cl [], .cl [], .int .i64 0, .cl [], .cl [], .int .i64 0] false)), (h7 : fr 7 = .ptr ⟨0, 7, 0⟩ 0), (e7 : en ⟨0, 7, 0⟩ = some (.box [.fz (w.objs.map MObj.enc), .fz (w.tasks.map (.int .i64)), .fz (w.outs.map MOut.enc), .fz (w.ins.map (.int .i64)), .int .i64 w.used, .fz (ages.map (.int .i64)), v, .int .i64 c] false)), (h8 : fr 8 = .int .i64 k), (h9 : fr 9 = .int .i64 (markB lt2 w ages c k)), (hv : Mine en v 1 (((List.range k).map (markB lt2 w ages c)).map (.int .i64)) [60])⟩
          simp only [go_sem, qC, qG, qW, h1, h2, h3, e3, h6, e6, h7, e7, h8, h9]
          refine w_append (D := [60]) (xs := ((List.range k).map (markB lt2 w ages c)).map (.int .i64)) (ys := [.int .i64 (markB lt2 w ages c k)]) (rs := []) ?_ ?_ ?_ ?_ ?_
          · simp only [go_sem, qW]
            exact hv
          · simp only [go_sem, qW]
          · rfl
          · have hle : w.objs.length ≤ 130 := by
              simp only [smallWorld, Bool.and_eq_true, decide_eq_true_eq] at hsm
              omega
            simp; omega
          · intro v' en' cnt' hown hen hcnt
            have k3 : en' ⟨0, 3, 0⟩ = some (.box [.fz (w.objs.map MObj.enc), .fz (w.tasks.map (.int .i64)), .fz (w.outs.map MOut.enc), .fz (w.ins.map (.int .i64)), .int .i64 w.used] false) := by rw [hen 0 3 0 (.inr ⟨by decide, by simp⟩)]; exact e3
            have k6 : en' ⟨0, 6, 0⟩ = some (.box [.cl [], .cl [], .cl [], .cl [], .int .i64 0, .cl [], .cl [], .int .i64 0] false) := by rw [hen 0 6 0 (.inr ⟨by decide, by simp⟩)]; exact e6
            have k7 : en' ⟨0, 7, 0⟩ = some (.box [.fz (w.objs.map MObj.enc), .fz (w.tasks.map (.int .i64)), .fz (w.outs.map MOut.enc), .fz (w.ins.map (.int .i64)), .int .i64 w.used, .fz (ages.map (.int .i64)), v, .int .i64 c] false) := by rw [hen 0 7 0 (.inr ⟨by decide, by simp⟩)]; exact e7
            obtain ⟨s1, s2⟩ := hown.shape
            simp only [go_sem, qC, qG, qW, h1, h2, h3, k3, h6, k6, h7, k7, h8, s1, s2]
            refine ⟨h', _, _, _, v', rfl, ?_⟩
            simp only [go_sem, qC, qG, qW, h1, h2, h3, k3, h6, k6, h7, k7, h8, wrap_succ h' hw.objs]
            rw [List.map_append, List.map_append]
            refine Mine.sub (D := [60, 60]) (Mine.keep (en := en') hown ?_) (by simp)
            intro t g ht; simp at ht; subst ht; simp only [go_sem, qW]
  · have : k = w.objs.length := by simp at hq; omega
    subst this
    simp only [go_sem, qC, qG, qW, h1, h2, h3, e3, h6, e6, h7, e7, h8]
    obtain ⟨r, ks, s1, s2, _⟩ := (hv.keep (en' := en.set ⟨0, 6, 0⟩ (some (.box [.fz (w.objs.map MObj.enc), .fz (w.tasks.map (.int .i64)), .fz (w.outs.map MOut.enc), .fz (w.ins.map (.int .i64)), .int .i64 w.used, .fz (ages.map (.int .i64)), v, .int .i64 c] false))) fun t g ht => by simp at ht; subst ht; simp only [go_sem, qW]).snap 6
    simp only [go_sem, qC, qG, qW, s1, s2]
    rfl
end Go.Proofs.YthpmfghgoabnhaaGreat
