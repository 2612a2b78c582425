/- Worlds with some objects alone: the document's answer. -/
import Derived.Test.YthpmfghgoabnhaaGreatW28
set_option linter.all false
namespace Go.Proofs.YthpmfghgoabnhaaGreat
open Go.Abs Go.Proofs
def movedV (keep : List Int) (v : MVal) : MVal := ⟨v.kind, if isRef v = true then (keep.idxOf v.n : Int) else v.n⟩
def movedL (keep : List Int) (l : List MVal) : List MVal := l.map (movedV keep)
def movedF (keep : List Int) (f : MFrame) : MFrame := ⟨f.node, movedL keep f.env, movedL keep f.vals⟩
def movedO (keep : List Int) (o : MObj) : MObj := ⟨o.form, o.n, movedL keep o.vals, o.frames.map (movedF keep)⟩
def compactW (w : MWorld) (keep : List Int) : MWorld := ⟨keep.map fun n => movedO keep (w.obj n), w.tasks.map fun t => (keep.idxOf t : Int), w.outs, w.ins, w.used⟩
theorem idx_step {l : List Int} {n : Int} {k : Nat} (h : k < l.length) : (l.drop k).idxOf n = if l[k] = n then 0 else (l.drop (k + 1)).idxOf n + 1 := by
  rw [List.drop_eq_getElem_cons h, List.idxOf_cons]
  by_cases hx : l[k] = n
  · simp [hx]
  · have hb : (l[k] == n) = false := by simpa using hx
    rw [hb, if_neg hx]; rfl
theorem R18_index_pc (l : List Int) (n : Int) (hl : Few l.length) : PC L F.R18_index [.fz (l.map (.int .i64)), .int .i64 n] (.int .i64 (l.idxOf n : Nat)) := by
  refine pc_of LF.R18_index rfl rfl ?_
  simp only [go_sem, qC, qG, qW, C.R18_index]
  refine wp_for (l.length) (fun k st => ∃ fr en cnt, st = ⟨fr, en, cnt⟩ ∧ (fr 0 = .fz (l.map (.int .i64))) ∧ (fr 1 = .int .i64 n) ∧ (fr 5 = .int .i64 k) ∧ (l.idxOf n = (l.drop k).idxOf n + k)) 0 (Nat.zero_le _) ⟨_, _, _, rfl, (by first | (simp only [go_sem, qW]; (try rfl); done) | rfl | simp), (by first | (simp only [go_sem, qW]; (try rfl); done) | rfl | simp), (by first | (simp only [go_sem, qW]; (try rfl); done) | rfl | simp), (by first | (simp only [go_sem, qW]; (try rfl); done) | rfl | simp)⟩ ?_
  rintro k st hk ⟨fr, en, cnt, rfl, h0, h1, h5, hI⟩
  simp only [go_sem, qC, qG, qW, h0, h1, h5]
  refine guardK_split (fun hq => ?_) (fun hq => ?_)
  · have h' : k < l.length := of_decide_eq_true hq
    rw [idx_step h'] at hI
    simp only [go_sem, qC, qG, qW, hq, h', h0, h1, h5]
    refine condK_split (fun g => ?_) (fun g => ?_)
    · have g' : ¬ l[k] = n := by simpa using g
      rw [if_neg g'] at hI
      simp only [go_sem, qC, qG, qW, h', h0, h1, h5]
      refine ⟨_, _, _, rfl, ?_⟩
      simp only [go_sem, qW, h0, h1, h5, wrap_succ h' hl]
      omega
    · have g' : l[k] = n := by simpa using g
      rw [if_pos g'] at hI
      simp only [go_sem, qC, qG, qW, h0, h1, h5]
      rw [hI, Nat.zero_add]
  · have : k = l.length := by simp at hq; omega
    subst this
    simp only [go_sem, qC, qG, qW, hq, h0, h1, h5, Bool.not_true]
    rw [hI]; simp
theorem moved_take {keep : List Int} {l : List MVal} {k : Nat} (h : k < l.length) : (l.take (k + 1)).map (movedV keep) = (l.take k).map (movedV keep) ++ [movedV keep l[k]] := by rw [take_step h, List.map_append]; rfl
theorem R18_moved_pc (l : List MVal) (keep : List Int) (hl : l.length ≤ 16777216) (hk : Few keep.length) : PC L F.R18_moved [.fz (l.map MVal.enc), .fz (keep.map (.int .i64))] (.fz ((movedL keep l).map MVal.enc)) := by
  have hf : Few l.length := by unfold Few; omega
  refine pc_of LF.R18_moved rfl rfl ?_
  simp only [go_sem, qC, qG, qW, C.R18_moved]
  refine wp_for l.length (fun k st => ∃ fr en cnt v, st = ⟨fr, en, cnt⟩ ∧ fr 0 = .fz (l.map MVal.enc) ∧ fr 1 = .fz (keep.map (.int .i64)) ∧ fr 5 = v ∧ fr 6 = .int .i64 k ∧ Mine en v 2 (((l.take k).map (movedV keep)).map MVal.enc) [29]) 0 (Nat.zero_le _) ⟨_, _, _, .cl [], rfl, by simp only [go_sem, qW], by simp only [go_sem, qW], by simp only [go_sem, qW], by simp only [go_sem, qW], Mine.nil _ _⟩ ?_
  rintro k st hk' ⟨fr, en, cnt, v, rfl, h0, h1, h5, h6, hv⟩
  simp only [go_sem, qC, qG, qW, h0, h1, h5, h6]
  refine condK_split (fun hq => ?_) (fun hq => ?_)
  · have h' : k < l.length := of_decide_eq_true hq
    obtain ⟨g7, hg7⟩ : ∃ g, g = cnt 0 7 := ⟨_, rfl⟩
    refine wops_cut (fun st => (st.fr 0 = .fz (l.map MVal.enc)) ∧ (st.fr 1 = .fz (keep.map (.int .i64))) ∧ (st.fr 5 = v) ∧ (st.fr 6 = .int .i64 k) ∧ (st.fr 7 = .ptr ⟨0, 7, g7⟩ 0) ∧ (st.en ⟨0, 7, g7⟩ = some (.box [.int .i64 l[k].kind, .int .i64 l[k].n] false)) ∧ (Mine st.en v 2 (((l.take k).map (movedV keep)).map MVal.enc) [29])) ?_ ?_
    · simp only [go_sem, qC, qG, qW, h', h0, h1, h5, h6, ← hg7]
      exact hv.keep fun t g ht => by simp at ht; subst ht; simp only [go_sem, qW]
    · rintro fr en cnt ⟨(h0 : fr 0 = .fz (l.map MVal.enc)), (h1 : fr 1 = .fz (keep.map (.int .i64))), (h5 : fr 5 = v), (h6 : fr 6 = .int .i64 k), (h7 : fr 7 = .ptr ⟨0, 7, g7⟩ 0), (e7 : en ⟨0, 7, g7⟩ = some (.box [.int .i64 l[k].kind, .int .i64 l[k].n] false)), (hv : Mine en v 2 (((l.take k).map (movedV keep)).map MVal.enc) [29])⟩
      simp only [go_sem, qC, qG, qW, h0, h1, h5, h6, h7, e7]
      refine condK_split (fun g => ?_) (fun g => ?_)
      · have hx : movedV keep l[k] = ⟨l[k].kind, (keep.idxOf l[k].n : Int)⟩ := by rw [movedV, if_pos (show isRef l[k] = true from g)]
        simp only [go_sem, qC, qG, qW, h0, h1, h5, h6, h7, e7, (R18_index_pc keep l[k].n hk).ret]
        refine w_append (D := [29]) (xs := ((l.take k).map (movedV keep)).map MVal.enc) (ys := [MVal.enc (movedV keep l[k])]) (rs := []) ?_ ?_ ?_ ?_ ?_
        · simp only [go_sem, qW, h5]
          exact hv.keep fun t g ht => by simp at ht; subst ht; simp only [go_sem, qW]
        · rw [hx]; simp only [go_sem, qW]
        · rfl
        · simp; omega
        · intro v' en' cnt' hown hen hcnt
          simp only [go_sem, qC, qG, qW, h0, h1, h6]
          refine ⟨h', _, _, _, v', rfl, ?_⟩
          simp only [go_sem, qC, qG, qW, h0, h1, h6, wrap_succ h' hf]
          rw [moved_take h', List.map_append]
          exact Mine.sub (D := [29, 29]) hown (by simp)
      · have hx : movedV keep l[k] = l[k] := by
          have : isRef l[k] = false := g
          rw [movedV, if_neg (by rw [this]; decide)]
        simp only [go_sem, qC, qG, qW, h0, h1, h5, h6, h7, e7]
        refine w_append (D := [29]) (xs := ((l.take k).map (movedV keep)).map MVal.enc) (ys := [MVal.enc (movedV keep l[k])]) (rs := []) ?_ ?_ ?_ ?_ ?_
        · simp only [go_sem, qW, h5]
          exact hv.keep fun t g ht => by simp at ht; subst ht; simp only [go_sem, qW]
        · rw [hx]; simp only [go_sem, qW]
        · rfl
        · simp; omega
        · intro v' en' cnt' hown hen hcnt
          simp only [go_sem, qC, qG, qW, h0, h1, h6]
          refine ⟨h', _, _, _, v', rfl, ?_⟩
          simp only [go_sem, qC, qG, qW, h0, h1, h6, wrap_succ h' hf]
          rw [moved_take h', List.map_append]
          exact Mine.sub (D := [29, 29]) hown (by simp)
  · have : k = l.length := by simp at hq; omega
    subst this
    rw [List.take_length] at hv
    simp only [go_sem, qC, qG, qW, h0, h1, h5, h6]
    obtain ⟨r, ks, s1, _, _, s2, _⟩ := hv.snap 7
    simp only [go_sem, qC, qG, qW, s1, s2]
    rfl
end Go.Proofs.YthpmfghgoabnhaaGreat
