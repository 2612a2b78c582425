/- Contracts: worlds as defined, by the program. -/
import Derived.Test.YthpmfghgoabnhaaGreatW3
import Derived.Test.YthpmfghgoabnhaaGreatW6
set_option linter.all false
namespace Go.Proofs.YthpmfghgoabnhaaGreat
open Go.Abs Go.Proofs
theorem mean_all_int_c1_pc (l : List Int) (h : Val) (p : Int → Bool) (hc : AsksT L (fun x : Int => .int .i64 x) h p l) (x : Int) (hx : x ∈ l) :
    PC L F.mean_all_int_c1 [.int .i64 x, .fp [h] 0] (.bool (!p x)) := by
  refine pc_of LF.mean_all_int_c1 rfl rfl ?_
  simp only [go_sem, qC, qG, qS, qW, C.mean_all_int_c1]
  refine hc.call x hx _ _ ?_
  simp only [go_sem, qC, qG, qS, qW]
theorem mean_all_int_pc (l : List Int) (h : Val) (p : Int → Bool) (hl : Few l.length) (hc : AsksT L (fun x : Int => .int .i64 x) h p l) :
    PC L F.mean_all_int [.fz (l.map (.int .i64)), h] (.bool (l.all p)) := by
  have hd : AsksT L (fun x : Int => .int .i64 x) (.fn F.mean_all_int_c1 [] [.fp [h] 0]) (fun x => !p x) l := by
    refine ⟨fun n en hn => ?_, rfl, rfl, rfl, fun x hx en K hK => ?_⟩
    · obtain ⟨m, rfl⟩ : ∃ m, n = m + 4 := ⟨n - 4, by omega⟩
      simp only [go_sem, qW]
    · simp only [go_sem, qW, (mean_all_int_c1_pc l h p hc x hx).ret]
      exact hK
  refine pc_of LF.mean_all_int rfl rfl ?_
  simp only [go_sem, qC, qG, qS, qW, C.mean_all_int, box_any hc.one hc.cells, hc.snap, hc.wk, (cont_int l _ _ hl hd).ret]
  rw [← List.not_all_eq_any_not, Bool.not_not]
theorem idx_MVal (l : List MVal) (h : Val) (p : MVal → Bool) (hl : Few l.length) (hc : AsksT L (fun x : MVal => .agg [.int .i64 x.kind, .int .i64 x.n]) h p l) :
    PC L F.slices_IndexFunc_s_api_MeanVal_api_MeanVal [.fz (l.map MVal.enc), h] (.int .i64 (idxOf p l 0)) := by
  refine pc_of LF.slices_IndexFunc_s_api_MeanVal_api_MeanVal rfl rfl ?_
  simp only [go_sem, qC, qG, qS, qW, C.slices_IndexFunc_s_api_MeanVal_api_MeanVal]
  refine wp_for (l.length) (fun k st => ∃ fr en cnt, st = ⟨fr, en, cnt⟩ ∧ (fr 0 = .fz (l.map MVal.enc)) ∧ (fr 1 = h) ∧ (fr 7 = .int .i64 l.length) ∧ (fr 8 = .int .i64 k) ∧ (idxOf p (l.drop k) k = idxOf p l 0)) 0 (Nat.zero_le _) ⟨_, _, _, rfl, (by first | (simp only [go_sem, qW]; (try rfl); done) | rfl | simp), (by first | (simp only [go_sem, qW]; (try rfl); done) | rfl | simp), (by first | (simp only [go_sem, qW]; (try rfl); done) | rfl | simp), (by first | (simp only [go_sem, qW]; (try rfl); done) | rfl | simp), (by first | (simp only [go_sem, qW]; (try rfl); done) | rfl | simp)⟩ ?_
  rintro k st hk ⟨fr, en, cnt, rfl, h0, h1, h7, h8, hI⟩
  simp only [go_sem, qC, qG, qS, qW, h0, h1, h7, h8]
  refine condK_split (fun hq => ?_) (fun hq => ?_)
  · have h' : k < l.length := of_decide_eq_true hq
    rw [List.drop_eq_getElem_cons h', idxOf] at hI
    simp only [go_sem, qC, qG, qS, qW, h', h0, h1, h7, h8]
    refine hc.call l[k] (List.getElem_mem _) _ _ ?_
    simp only [go_sem, qC, qG, qS, qW, h0, h1, h7, h8]
    refine condK_split (fun hb => ?_) (fun hb => ?_)
    · simp only [go_sem, qC, qG, qS, qW, h0, h1, h7, h8]
      rw [hb, if_pos rfl] at hI
      rw [← hI]
    · simp only [go_sem, qC, qG, qS, qW, h', h0, h1, h7, h8]
      rw [hb] at hI
      simp at hI
      refine ⟨_, _, _, rfl, ?_⟩
      simp only [go_sem, qW, h0, h1, h7, h8, wrap_succ h' hl]
      exact hI
  · have : k = l.length := by simp at hq; omega
    subst this
    simp only [go_sem, qC, qG, qS, qW, h0, h1, h7, h8]
    rw [← hI]; simp [idxOf]
theorem cont_MVal (l : List MVal) (h : Val) (p : MVal → Bool) (hl : Few l.length) (hc : AsksT L (fun x : MVal => .agg [.int .i64 x.kind, .int .i64 x.n]) h p l) :
    PC L F.slices_ContainsFunc_s_api_MeanVal_api_MeanVal [.fz (l.map MVal.enc), h] (.bool (l.any p)) := by
  refine pc_of LF.slices_ContainsFunc_s_api_MeanVal_api_MeanVal rfl rfl ?_
  simp only [go_sem, qC, qG, qS, qW, C.slices_ContainsFunc_s_api_MeanVal_api_MeanVal, hc.snap, hc.wk, (idx_MVal l h p hl hc).ret]
  rw [← idxOf_any p l 0]
theorem mean_all_api_MeanVal_c1_pc (l : List MVal) (h : Val) (p : MVal → Bool) (hc : AsksT L (fun x : MVal => .agg [.int .i64 x.kind, .int .i64 x.n]) h p l) (x : MVal) (hx : x ∈ l) :
    PC L F.mean_all_api_MeanVal_c1 [.agg [.int .i64 x.kind, .int .i64 x.n], .fp [h] 0] (.bool (!p x)) := by
  refine pc_of LF.mean_all_api_MeanVal_c1 rfl rfl ?_
  simp only [go_sem, qC, qG, qS, qW, C.mean_all_api_MeanVal_c1]
  refine hc.call x hx _ _ ?_
  simp only [go_sem, qC, qG, qS, qW]
theorem mean_all_api_MeanVal_pc (l : List MVal) (h : Val) (p : MVal → Bool) (hl : Few l.length) (hc : AsksT L (fun x : MVal => .agg [.int .i64 x.kind, .int .i64 x.n]) h p l) :
    PC L F.mean_all_api_MeanVal [.fz (l.map MVal.enc), h] (.bool (l.all p)) := by
  have hd : AsksT L (fun x : MVal => .agg [.int .i64 x.kind, .int .i64 x.n]) (.fn F.mean_all_api_MeanVal_c1 [] [.fp [h] 0]) (fun x => !p x) l := by
    refine ⟨fun n en hn => ?_, rfl, rfl, rfl, fun x hx en K hK => ?_⟩
    · obtain ⟨m, rfl⟩ : ∃ m, n = m + 4 := ⟨n - 4, by omega⟩
      simp only [go_sem, qW]
    · simp only [go_sem, qW, (mean_all_api_MeanVal_c1_pc l h p hc x hx).ret]
      exact hK
  refine pc_of LF.mean_all_api_MeanVal rfl rfl ?_
  simp only [go_sem, qC, qG, qS, qW, C.mean_all_api_MeanVal, box_any hc.one hc.cells, hc.snap, hc.wk, (cont_MVal l _ _ hl hd).ret]
  rw [← List.not_all_eq_any_not, Bool.not_not]
theorem idx_MFrame (l : List MFrame) (h : Val) (p : MFrame → Bool) (hl : Few l.length) (hc : AsksT L (fun x : MFrame => .agg [.int .i64 x.node, .fz (x.env.map MVal.enc), .fz (x.vals.map MVal.enc)]) h p l) :
    PC L F.slices_IndexFunc_s_api_MeanFrame_api_MeanFrame [.fz (l.map MFrame.enc), h] (.int .i64 (idxOf p l 0)) := by
  refine pc_of LF.slices_IndexFunc_s_api_MeanFrame_api_MeanFrame rfl rfl ?_
  simp only [go_sem, qC, qG, qS, qW, C.slices_IndexFunc_s_api_MeanFrame_api_MeanFrame]
  refine wp_for (l.length) (fun k st => ∃ fr en cnt, st = ⟨fr, en, cnt⟩ ∧ (fr 0 = .fz (l.map MFrame.enc)) ∧ (fr 1 = h) ∧ (fr 7 = .int .i64 l.length) ∧ (fr 8 = .int .i64 k) ∧ (idxOf p (l.drop k) k = idxOf p l 0)) 0 (Nat.zero_le _) ⟨_, _, _, rfl, (by first | (simp only [go_sem, qW]; (try rfl); done) | rfl | simp), (by first | (simp only [go_sem, qW]; (try rfl); done) | rfl | simp), (by first | (simp only [go_sem, qW]; (try rfl); done) | rfl | simp), (by first | (simp only [go_sem, qW]; (try rfl); done) | rfl | simp), (by first | (simp only [go_sem, qW]; (try rfl); done) | rfl | simp)⟩ ?_
  rintro k st hk ⟨fr, en, cnt, rfl, h0, h1, h7, h8, hI⟩
  simp only [go_sem, qC, qG, qS, qW, h0, h1, h7, h8]
  refine condK_split (fun hq => ?_) (fun hq => ?_)
  · have h' : k < l.length := of_decide_eq_true hq
    rw [List.drop_eq_getElem_cons h', idxOf] at hI
    simp only [go_sem, qC, qG, qS, qW, h', h0, h1, h7, h8]
    refine hc.call l[k] (List.getElem_mem _) _ _ ?_
    simp only [go_sem, qC, qG, qS, qW, h0, h1, h7, h8]
    refine condK_split (fun hb => ?_) (fun hb => ?_)
    · simp only [go_sem, qC, qG, qS, qW, h0, h1, h7, h8]
      rw [hb, if_pos rfl] at hI
      rw [← hI]
    · simp only [go_sem, qC, qG, qS, qW, h', h0, h1, h7, h8]
      rw [hb] at hI
      simp at hI
      refine ⟨_, _, _, rfl, ?_⟩
      simp only [go_sem, qW, h0, h1, h7, h8, wrap_succ h' hl]
      exact hI
  · have : k = l.length := by simp at hq; omega
    subst this
    simp only [go_sem, qC, qG, qS, qW, h0, h1, h7, h8]
    rw [← hI]; simp [idxOf]
theorem cont_MFrame (l : List MFrame) (h : Val) (p : MFrame → Bool) (hl : Few l.length) (hc : AsksT L (fun x : MFrame => .agg [.int .i64 x.node, .fz (x.env.map MVal.enc), .fz (x.vals.map MVal.enc)]) h p l) :
    PC L F.slices_ContainsFunc_s_api_MeanFrame_api_MeanFrame [.fz (l.map MFrame.enc), h] (.bool (l.any p)) := by
  refine pc_of LF.slices_ContainsFunc_s_api_MeanFrame_api_MeanFrame rfl rfl ?_
  simp only [go_sem, qC, qG, qS, qW, C.slices_ContainsFunc_s_api_MeanFrame_api_MeanFrame, hc.snap, hc.wk, (idx_MFrame l h p hl hc).ret]
  rw [← idxOf_any p l 0]
theorem mean_all_api_MeanFrame_c1_pc (l : List MFrame) (h : Val) (p : MFrame → Bool) (hc : AsksT L (fun x : MFrame => .agg [.int .i64 x.node, .fz (x.env.map MVal.enc), .fz (x.vals.map MVal.enc)]) h p l) (x : MFrame) (hx : x ∈ l) :
    PC L F.mean_all_api_MeanFrame_c1 [.agg [.int .i64 x.node, .fz (x.env.map MVal.enc), .fz (x.vals.map MVal.enc)], .fp [h] 0] (.bool (!p x)) := by
  refine pc_of LF.mean_all_api_MeanFrame_c1 rfl rfl ?_
  simp only [go_sem, qC, qG, qS, qW, C.mean_all_api_MeanFrame_c1]
  refine hc.call x hx _ _ ?_
  simp only [go_sem, qC, qG, qS, qW]
theorem mean_all_api_MeanFrame_pc (l : List MFrame) (h : Val) (p : MFrame → Bool) (hl : Few l.length) (hc : AsksT L (fun x : MFrame => .agg [.int .i64 x.node, .fz (x.env.map MVal.enc), .fz (x.vals.map MVal.enc)]) h p l) :
    PC L F.mean_all_api_MeanFrame [.fz (l.map MFrame.enc), h] (.bool (l.all p)) := by
  have hd : AsksT L (fun x : MFrame => .agg [.int .i64 x.node, .fz (x.env.map MVal.enc), .fz (x.vals.map MVal.enc)]) (.fn F.mean_all_api_MeanFrame_c1 [] [.fp [h] 0]) (fun x => !p x) l := by
    refine ⟨fun n en hn => ?_, rfl, rfl, rfl, fun x hx en K hK => ?_⟩
    · obtain ⟨m, rfl⟩ : ∃ m, n = m + 4 := ⟨n - 4, by omega⟩
      simp only [go_sem, qW]
    · simp only [go_sem, qW, (mean_all_api_MeanFrame_c1_pc l h p hc x hx).ret]
      exact hK
  refine pc_of LF.mean_all_api_MeanFrame rfl rfl ?_
  simp only [go_sem, qC, qG, qS, qW, C.mean_all_api_MeanFrame, box_any hc.one hc.cells, hc.snap, hc.wk, (cont_MFrame l _ _ hl hd).ret]
  rw [← List.not_all_eq_any_not, Bool.not_not]
theorem idx_MObj (l : List MObj) (h : Val) (p : MObj → Bool) (hl : Few l.length) (hc : AsksT L (fun x : MObj => .agg [.int .i64 x.form, .int .i64 x.n, .fz (x.vals.map MVal.enc), .fz (x.frames.map MFrame.enc)]) h p l) :
    PC L F.slices_IndexFunc_s_api_MeanObj_api_MeanObj [.fz (l.map MObj.enc), h] (.int .i64 (idxOf p l 0)) := by
  refine pc_of LF.slices_IndexFunc_s_api_MeanObj_api_MeanObj rfl rfl ?_
  simp only [go_sem, qC, qG, qS, qW, C.slices_IndexFunc_s_api_MeanObj_api_MeanObj]
  refine wp_for (l.length) (fun k st => ∃ fr en cnt, st = ⟨fr, en, cnt⟩ ∧ (fr 0 = .fz (l.map MObj.enc)) ∧ (fr 1 = h) ∧ (fr 7 = .int .i64 l.length) ∧ (fr 8 = .int .i64 k) ∧ (idxOf p (l.drop k) k = idxOf p l 0)) 0 (Nat.zero_le _) ⟨_, _, _, rfl, (by first | (simp only [go_sem, qW]; (try rfl); done) | rfl | simp), (by first | (simp only [go_sem, qW]; (try rfl); done) | rfl | simp), (by first | (simp only [go_sem, qW]; (try rfl); done) | rfl | simp), (by first | (simp only [go_sem, qW]; (try rfl); done) | rfl | simp), (by first | (simp only [go_sem, qW]; (try rfl); done) | rfl | simp)⟩ ?_
  rintro k st hk ⟨fr, en, cnt, rfl, h0, h1, h7, h8, hI⟩
  simp only [go_sem, qC, qG, qS, qW, h0, h1, h7, h8]
  refine condK_split (fun hq => ?_) (fun hq => ?_)
  · have h' : k < l.length := of_decide_eq_true hq
    rw [List.drop_eq_getElem_cons h', idxOf] at hI
    simp only [go_sem, qC, qG, qS, qW, h', h0, h1, h7, h8]
    refine hc.call l[k] (List.getElem_mem _) _ _ ?_
    simp only [go_sem, qC, qG, qS, qW, h0, h1, h7, h8]
    refine condK_split (fun hb => ?_) (fun hb => ?_)
    · simp only [go_sem, qC, qG, qS, qW, h0, h1, h7, h8]
      rw [hb, if_pos rfl] at hI
      rw [← hI]
    · simp only [go_sem, qC, qG, qS, qW, h', h0, h1, h7, h8]
      rw [hb] at hI
      simp at hI
      refine ⟨_, _, _, rfl, ?_⟩
      simp only [go_sem, qW, h0, h1, h7, h8, wrap_succ h' hl]
      exact hI
  · have : k = l.length := by simp at hq; omega
    subst this
    simp only [go_sem, qC, qG, qS, qW, h0, h1, h7, h8]
    rw [← hI]; simp [idxOf]
theorem cont_MObj (l : List MObj) (h : Val) (p : MObj → Bool) (hl : Few l.length) (hc : AsksT L (fun x : MObj => .agg [.int .i64 x.form, .int .i64 x.n, .fz (x.vals.map MVal.enc), .fz (x.frames.map MFrame.enc)]) h p l) :
    PC L F.slices_ContainsFunc_s_api_MeanObj_api_MeanObj [.fz (l.map MObj.enc), h] (.bool (l.any p)) := by
  refine pc_of LF.slices_ContainsFunc_s_api_MeanObj_api_MeanObj rfl rfl ?_
  simp only [go_sem, qC, qG, qS, qW, C.slices_ContainsFunc_s_api_MeanObj_api_MeanObj, hc.snap, hc.wk, (idx_MObj l h p hl hc).ret]
  rw [← idxOf_any p l 0]
theorem mean_all_api_MeanObj_c1_pc (l : List MObj) (h : Val) (p : MObj → Bool) (hc : AsksT L (fun x : MObj => .agg [.int .i64 x.form, .int .i64 x.n, .fz (x.vals.map MVal.enc), .fz (x.frames.map MFrame.enc)]) h p l) (x : MObj) (hx : x ∈ l) :
    PC L F.mean_all_api_MeanObj_c1 [.agg [.int .i64 x.form, .int .i64 x.n, .fz (x.vals.map MVal.enc), .fz (x.frames.map MFrame.enc)], .fp [h] 0] (.bool (!p x)) := by
  refine pc_of LF.mean_all_api_MeanObj_c1 rfl rfl ?_
  simp only [go_sem, qC, qG, qS, qW, C.mean_all_api_MeanObj_c1]
  refine hc.call x hx _ _ ?_
  simp only [go_sem, qC, qG, qS, qW]
theorem mean_all_api_MeanObj_pc (l : List MObj) (h : Val) (p : MObj → Bool) (hl : Few l.length) (hc : AsksT L (fun x : MObj => .agg [.int .i64 x.form, .int .i64 x.n, .fz (x.vals.map MVal.enc), .fz (x.frames.map MFrame.enc)]) h p l) :
    PC L F.mean_all_api_MeanObj [.fz (l.map MObj.enc), h] (.bool (l.all p)) := by
  have hd : AsksT L (fun x : MObj => .agg [.int .i64 x.form, .int .i64 x.n, .fz (x.vals.map MVal.enc), .fz (x.frames.map MFrame.enc)]) (.fn F.mean_all_api_MeanObj_c1 [] [.fp [h] 0]) (fun x => !p x) l := by
    refine ⟨fun n en hn => ?_, rfl, rfl, rfl, fun x hx en K hK => ?_⟩
    · obtain ⟨m, rfl⟩ : ∃ m, n = m + 4 := ⟨n - 4, by omega⟩
      simp only [go_sem, qW]
    · simp only [go_sem, qW, (mean_all_api_MeanObj_c1_pc l h p hc x hx).ret]
      exact hK
  refine pc_of LF.mean_all_api_MeanObj rfl rfl ?_
  simp only [go_sem, qC, qG, qS, qW, C.mean_all_api_MeanObj, box_any hc.one hc.cells, hc.snap, hc.wk, (cont_MObj l _ _ hl hd).ret]
  rw [← List.not_all_eq_any_not, Bool.not_not]
theorem idx_MOut (l : List MOut) (h : Val) (p : MOut → Bool) (hl : Few l.length) (hc : AsksT L (fun x : MOut => .agg [.int .i64 x.port, .int .i64 x.n]) h p l) :
    PC L F.slices_IndexFunc_s_api_MeanOut_api_MeanOut [.fz (l.map MOut.enc), h] (.int .i64 (idxOf p l 0)) := by
  refine pc_of LF.slices_IndexFunc_s_api_MeanOut_api_MeanOut rfl rfl ?_
  simp only [go_sem, qC, qG, qS, qW, C.slices_IndexFunc_s_api_MeanOut_api_MeanOut]
  refine wp_for (l.length) (fun k st => ∃ fr en cnt, st = ⟨fr, en, cnt⟩ ∧ (fr 0 = .fz (l.map MOut.enc)) ∧ (fr 1 = h) ∧ (fr 7 = .int .i64 l.length) ∧ (fr 8 = .int .i64 k) ∧ (idxOf p (l.drop k) k = idxOf p l 0)) 0 (Nat.zero_le _) ⟨_, _, _, rfl, (by first | (simp only [go_sem, qW]; (try rfl); done) | rfl | simp), (by first | (simp only [go_sem, qW]; (try rfl); done) | rfl | simp), (by first | (simp only [go_sem, qW]; (try rfl); done) | rfl | simp), (by first | (simp only [go_sem, qW]; (try rfl); done) | rfl | simp), (by first | (simp only [go_sem, qW]; (try rfl); done) | rfl | simp)⟩ ?_
  rintro k st hk ⟨fr, en, cnt, rfl, h0, h1, h7, h8, hI⟩
  simp only [go_sem, qC, qG, qS, qW, h0, h1, h7, h8]
  refine condK_split (fun hq => ?_) (fun hq => ?_)
  · have h' : k < l.length := of_decide_eq_true hq
    rw [List.drop_eq_getElem_cons h', idxOf] at hI
    simp only [go_sem, qC, qG, qS, qW, h', h0, h1, h7, h8]
    refine hc.call l[k] (List.getElem_mem _) _ _ ?_
    simp only [go_sem, qC, qG, qS, qW, h0, h1, h7, h8]
    refine condK_split (fun hb => ?_) (fun hb => ?_)
    · simp only [go_sem, qC, qG, qS, qW, h0, h1, h7, h8]
      rw [hb, if_pos rfl] at hI
      rw [← hI]
    · simp only [go_sem, qC, qG, qS, qW, h', h0, h1, h7, h8]
      rw [hb] at hI
      simp at hI
      refine ⟨_, _, _, rfl, ?_⟩
      simp only [go_sem, qW, h0, h1, h7, h8, wrap_succ h' hl]
      exact hI
  · have : k = l.length := by simp at hq; omega
    subst this
    simp only [go_sem, qC, qG, qS, qW, h0, h1, h7, h8]
    rw [← hI]; simp [idxOf]
theorem cont_MOut (l : List MOut) (h : Val) (p : MOut → Bool) (hl : Few l.length) (hc : AsksT L (fun x : MOut => .agg [.int .i64 x.port, .int .i64 x.n]) h p l) :
    PC L F.slices_ContainsFunc_s_api_MeanOut_api_MeanOut [.fz (l.map MOut.enc), h] (.bool (l.any p)) := by
  refine pc_of LF.slices_ContainsFunc_s_api_MeanOut_api_MeanOut rfl rfl ?_
  simp only [go_sem, qC, qG, qS, qW, C.slices_ContainsFunc_s_api_MeanOut_api_MeanOut, hc.snap, hc.wk, (idx_MOut l h p hl hc).ret]
  rw [← idxOf_any p l 0]
theorem mean_all_api_MeanOut_c1_pc (l : List MOut) (h : Val) (p : MOut → Bool) (hc : AsksT L (fun x : MOut => .agg [.int .i64 x.port, .int .i64 x.n]) h p l) (x : MOut) (hx : x ∈ l) :
    PC L F.mean_all_api_MeanOut_c1 [.agg [.int .i64 x.port, .int .i64 x.n], .fp [h] 0] (.bool (!p x)) := by
  refine pc_of LF.mean_all_api_MeanOut_c1 rfl rfl ?_
  simp only [go_sem, qC, qG, qS, qW, C.mean_all_api_MeanOut_c1]
  refine hc.call x hx _ _ ?_
  simp only [go_sem, qC, qG, qS, qW]
theorem mean_all_api_MeanOut_pc (l : List MOut) (h : Val) (p : MOut → Bool) (hl : Few l.length) (hc : AsksT L (fun x : MOut => .agg [.int .i64 x.port, .int .i64 x.n]) h p l) :
    PC L F.mean_all_api_MeanOut [.fz (l.map MOut.enc), h] (.bool (l.all p)) := by
  have hd : AsksT L (fun x : MOut => .agg [.int .i64 x.port, .int .i64 x.n]) (.fn F.mean_all_api_MeanOut_c1 [] [.fp [h] 0]) (fun x => !p x) l := by
    refine ⟨fun n en hn => ?_, rfl, rfl, rfl, fun x hx en K hK => ?_⟩
    · obtain ⟨m, rfl⟩ : ∃ m, n = m + 4 := ⟨n - 4, by omega⟩
      simp only [go_sem, qW]
    · simp only [go_sem, qW, (mean_all_api_MeanOut_c1_pc l h p hc x hx).ret]
      exact hK
  refine pc_of LF.mean_all_api_MeanOut rfl rfl ?_
  simp only [go_sem, qC, qG, qS, qW, C.mean_all_api_MeanOut, box_any hc.one hc.cells, hc.snap, hc.wk, (cont_MOut l _ _ hl hd).ret]
  rw [← List.not_all_eq_any_not, Bool.not_not]
theorem mean_within_pc (n lo hi : Int) : PC L F.mean_within [.int .i64 n, .int .i64 lo, .int .i64 hi] (.bool (inR n lo hi)) := by
  refine pc_of LF.mean_within rfl rfl ?_
  simp only [go_sem, qW, C.mean_within]
  refine guard_split (fun h => ?_) (fun h => ?_) <;> simp only [go_sem, qW, h] <;> simp at h <;> simp [h, inR]
  omega
theorem mean_integer_pc (n : Int) : PC L F.mean_integer [.int .i64 n] (.bool (inR n (-1000000000) 1000000000)) := by
  refine pc_of LF.mean_integer rfl rfl ?_
  simp only [go_sem, qC, qG, qS, qW, C.mean_integer, (mean_within_pc _ _ _).ret]
theorem mean_asks_pc (n : BNode) : PC L F.mean_asks [.agg [.int .i64 n.op, .int .i64 n.n, .fz (n.kids.map (.int .i64)), .fz (n.pats.map Pat.enc)]] (.int .i64 n.asks) := by
  refine pc_of LF.mean_asks rfl rfl ?_
  simp only [go_sem, qC, qG, qS, qW, C.mean_asks]
  repeat' ((first | with_reducible refine condK_split (fun h => ?_) (fun h => ?_) | with_reducible refine guardK_split (fun h => ?_) (fun h => ?_)) <;> (try simp only [decide_eq_true_eq, decide_eq_false_iff_not, Bool.not_true, Bool.not_false] at h) <;> try simp only [go_sem, qC, qG, qS, qW, h])
  all_goals simp [BNode.asks, *]
theorem mean_runner_value_pc (p : BProg) (w : MWorld) (v : MVal) (hp : p.few) (hw : w.few) : PC L F.mean_runner_value [.fp [.fz (p.nodes.map BNode.enc), .fz (p.funs.map (.int .i64)), .int .i64 p.main, .fz (p.cons.map BCon.enc), .fz (w.objs.map MObj.enc), .fz (w.tasks.map (.int .i64)), .fz (w.outs.map MOut.enc), .fz (w.ins.map (.int .i64)), .int .i64 w.used] 0, .agg [.int .i64 v.kind, .int .i64 v.n]] (.bool (valueOk p w v)) := by
  refine pc_of LF.mean_runner_value rfl rfl ?_
  simp only [go_sem, qC, qG, qS, qW, C.mean_runner_value]
  repeat' ((first | with_reducible refine condK_split (fun h => ?_) (fun h => ?_) | with_reducible refine guardK_split (fun h => ?_) (fun h => ?_)) <;> (try simp only [decide_eq_true_eq, decide_eq_false_iff_not, Bool.not_true, Bool.not_false] at h) <;> try simp only [go_sem, qC, qG, qS, qW, h, (mean_within_pc _ _ _).ret, (mean_integer_pc _).ret, wrap_pred hp.funs, wrap_pred hw.objs])
  all_goals simp [valueOk, *]
theorem ask_value (p : BProg) (w : MWorld) (hp : p.few) (hw : w.few) (l : List MVal) : AsksT L (fun x : MVal => .agg [.int .i64 x.kind, .int .i64 x.n]) (.fn F.mean_runner_value [.fp [.fz (p.nodes.map BNode.enc), .fz (p.funs.map (.int .i64)), .int .i64 p.main, .fz (p.cons.map BCon.enc), .fz (w.objs.map MObj.enc), .fz (w.tasks.map (.int .i64)), .fz (w.outs.map MOut.enc), .fz (w.ins.map (.int .i64)), .int .i64 w.used] 0] []) (valueOk p w) l := by
  refine ⟨fun n en hn => ?_, rfl, rfl, rfl, fun x hx en K hK => ?_⟩
  · obtain ⟨m, rfl⟩ : ∃ m, n = m + 4 := ⟨n - 4, by omega⟩
    simp only [go_sem, qW]
  · simp only [go_sem, qW, (mean_runner_value_pc p w x hp hw).ret]
    exact hK
theorem mean_inputs_pc (l : List Int) (hl : Few l.length) : PC L F.mean_inputs [.fz (l.map (.int .i64))] (.bool (intsOk l 50)) := by
  have ask : AsksT L (fun x : Int => .int .i64 x) (.fn F.mean_integer [] []) (fun n => inR n (-1000000000) 1000000000) l := by
    refine ⟨fun n en hn => ?_, rfl, rfl, rfl, fun x hx en K hK => ?_⟩
    · obtain ⟨m, rfl⟩ : ∃ m, n = m + 4 := ⟨n - 4, by omega⟩
      simp only [go_sem, qW]
    · simp only [go_sem, qW, (mean_integer_pc x).ret]
      exact hK
  refine pc_of LF.mean_inputs rfl rfl ?_
  simp only [go_sem, qC, qG, qS, qW, C.mean_inputs]
  refine guardK_split (fun h => ?_) (fun h => ?_)
  · simp only [go_sem, qC, qG, qS, qW, h, (mean_all_int_pc l _ _ hl ask).ret]
    simp at h; simp [intsOk, h]
  · simp only [go_sem, qC, qG, qS, qW, h]
    simp at h; simp [intsOk]; intros; omega
theorem mean_runner_world_c1_pc (o : MOut) : PC L F.mean_runner_world_c1 [.agg [.int .i64 o.port, .int .i64 o.n]] (.bool (outOk o)) := by
  refine pc_of LF.mean_runner_world_c1 rfl rfl ?_
  simp only [go_sem, qC, qG, qS, qW, C.mean_runner_world_c1, (mean_within_pc _ _ _).ret]
  refine guardK_split (fun h => ?_) (fun h => ?_) <;> simp only [go_sem, qC, qG, qS, qW, h, (mean_integer_pc _).ret] <;> simp [outOk, h]
theorem mean_runner_frame_pc (p : BProg) (w : MWorld) (f : MFrame) (hp : p.few) (hw : w.few) (hf : f.few) : PC L F.mean_runner_frame [.fp [.fz (p.nodes.map BNode.enc), .fz (p.funs.map (.int .i64)), .int .i64 p.main, .fz (p.cons.map BCon.enc), .fz (w.objs.map MObj.enc), .fz (w.tasks.map (.int .i64)), .fz (w.outs.map MOut.enc), .fz (w.ins.map (.int .i64)), .int .i64 w.used] 0, .agg [.int .i64 f.node, .fz (f.env.map MVal.enc), .fz (f.vals.map MVal.enc)]] (.bool (frameOk p w f)) := by
  refine pc_of LF.mean_runner_frame rfl rfl ?_
  simp only [go_sem, qC, qG, qS, qW, C.mean_runner_frame]
  have e := wrap_pred hp.nodes
  try (refine wp_still ?_ ?_; · decide)
  simp only [go_sem, qC, qG, qS, qW, e, (mean_within_pc _ _ _).ret]
  refine guardK_split (fun h => ?_) (fun h => ?_)
  · simp only [go_sem, qC, qG, qS, qW, h]
    refine guardK_split (fun h2 => ?_) (fun h2 => ?_)
    · simp only [go_sem, qC, qG, qS, qW, h, h2, ia_node, (mean_asks_pc _).ret]
      refine guardK_split (fun h3 => ?_) (fun h3 => ?_)
      · simp only [go_sem, qC, qG, qS, qW, h, h2, h3, (mean_all_api_MeanVal_pc _ _ _ hf.1 (ask_value p w hp hw _)).ret]
        refine guardK_split (fun h4 => ?_) (fun h4 => ?_)
        · simp only [go_sem, qC, qG, qS, qW, h, h2, h3, h4, (mean_all_api_MeanVal_pc _ _ _ hf.2 (ask_value p w hp hw _)).ret]
          simp at h2 h3 h4
          simp [frameOk, valuesOk, h, h2, h3]
          intros; simp_all
        · simp only [go_sem, qC, qG, qS, qW, h, h2, h3, h4]
          simp at h2 h3 h4
          obtain ⟨x, hx, hx2⟩ := h4
          simp [frameOk, valuesOk, h, h2, h3]
          intro hh; rw [hh x hx] at hx2; cases hx2
      · simp only [go_sem, qC, qG, qS, qW, h, h2, h3]
        simp at h2 h3
        simp [frameOk, valuesOk, h, h2]
        intros; omega
    · simp only [go_sem, qC, qG, qS, qW, h, h2]
      simp at h2
      simp [frameOk, valuesOk, h]
      intros; omega
  · simp only [go_sem, qC, qG, qS, qW, h]
    simp at h
    simp [frameOk, h]
theorem mean_runner_open_pc (p : BProg) (w : MWorld) (f : MFrame) (hn : inR f.node 0 (p.nodes.length - 1) = true) : PC L F.mean_runner_open [.fp [.fz (p.nodes.map BNode.enc), .fz (p.funs.map (.int .i64)), .int .i64 p.main, .fz (p.cons.map BCon.enc), .fz (w.objs.map MObj.enc), .fz (w.tasks.map (.int .i64)), .fz (w.outs.map MOut.enc), .fz (w.ins.map (.int .i64)), .int .i64 w.used] 0, .agg [.int .i64 f.node, .fz (f.env.map MVal.enc), .fz (f.vals.map MVal.enc)]] (.bool (frameOpen p f)) := by
  refine pc_of LF.mean_runner_open rfl rfl ?_
  simp only [go_sem, qC, qG, qS, qW, C.mean_runner_open]
  refine wp_still ?_ ?_
  · decide
  simp only [go_sem, qC, qG, qS, qW, hn, ia_node, (mean_asks_pc _).ret]
  simp [frameOpen]
theorem mean_runner_frames_pc (p : BProg) (w : MWorld) (l : List MFrame) (m : Nat) (hp : p.few) (hw : w.few) (hl : Few l.length) (hf : ∀ f ∈ l, f.few) (hm : m ≤ 1) :
    PC L F.mean_runner_frames [.fp [.fz (p.nodes.map BNode.enc), .fz (p.funs.map (.int .i64)), .int .i64 p.main, .fz (p.cons.map BCon.enc), .fz (w.objs.map MObj.enc), .fz (w.tasks.map (.int .i64)), .fz (w.outs.map MOut.enc), .fz (w.ins.map (.int .i64)), .int .i64 w.used] 0, .fz (l.map MFrame.enc), .int .i64 m] (.bool (framesOk p w l && (l.take (l.length - m)).all (frameOpen p))) := by
  have ask1 : AsksT L (fun x : MFrame => .agg [.int .i64 x.node, .fz (x.env.map MVal.enc), .fz (x.vals.map MVal.enc)]) (.fn F.mean_runner_frame [.fp [.fz (p.nodes.map BNode.enc), .fz (p.funs.map (.int .i64)), .int .i64 p.main, .fz (p.cons.map BCon.enc), .fz (w.objs.map MObj.enc), .fz (w.tasks.map (.int .i64)), .fz (w.outs.map MOut.enc), .fz (w.ins.map (.int .i64)), .int .i64 w.used] 0] []) (frameOk p w) l := by
    refine ⟨fun n en hn => ?_, rfl, rfl, rfl, fun x hx en K hK => ?_⟩
    · obtain ⟨m, rfl⟩ : ∃ m, n = m + 4 := ⟨n - 4, by omega⟩
      simp only [go_sem, qW]
    · simp only [go_sem, qW, (mean_runner_frame_pc p w x hp hw (hf x hx)).ret]
      exact hK
  refine pc_of LF.mean_runner_frames rfl rfl ?_
  simp only [go_sem, qC, qG, qS, qW, C.mean_runner_frames]
  refine guardK_split (fun h => ?_) (fun h => ?_)
  · simp only [go_sem, qC, qG, qS, qW, h, (mean_all_api_MeanFrame_pc _ _ _ hl ask1).ret]
    refine guardK_split (fun h2 => ?_) (fun h2 => ?_)
    · have hok : framesOk p w l = true := by simp at h h2; simp [framesOk, h]; exact h2
      have ask2 : AsksT L (fun x : MFrame => .agg [.int .i64 x.node, .fz (x.env.map MVal.enc), .fz (x.vals.map MVal.enc)]) (.fn F.mean_runner_open [.fp [.fz (p.nodes.map BNode.enc), .fz (p.funs.map (.int .i64)), .int .i64 p.main, .fz (p.cons.map BCon.enc), .fz (w.objs.map MObj.enc), .fz (w.tasks.map (.int .i64)), .fz (w.outs.map MOut.enc), .fz (w.ins.map (.int .i64)), .int .i64 w.used] 0] []) (frameOpen p) (l.take (l.length - m)) := by
        refine ⟨fun n en hn => ?_, rfl, rfl, rfl, fun x hx en K hK => ?_⟩
        · obtain ⟨m, rfl⟩ : ∃ m, n = m + 4 := ⟨n - 4, by omega⟩
          simp only [go_sem, qW]
        · simp only [go_sem, qW, (mean_runner_open_pc p w x (framesOk_node hok x (List.mem_of_mem_take hx))).ret]
          exact hK
      have k1 := framesOk_len hok
      have e1 : IntKind.i64.wrap ((l.length : Int) - m) = (l.length : Int) - m := wrap_in (by omega)
      have e2 : max (0 : Int) ((l.length : Int) - m) = ((l.length - m : Nat) : Int) := by omega
      simp only [go_sem, qC, qG, qS, qW, h, h2, e1, e2, slice_to, Nat.sub_le, ← List.map_take, (mean_all_api_MeanFrame_pc _ _ _ (few_take hl _) ask2).ret]
      simp [hok]
    · simp only [go_sem, qC, qG, qS, qW, h, h2]
      have : framesOk p w l = false := by
        rw [← Bool.not_eq_true]; intro hh; simp only [framesOk, Bool.and_eq_true] at hh; rw [hh.2] at h2; simp at h2
      simp [this]
  · simp only [go_sem, qC, qG, qS, qW, h]
    have : framesOk p w l = false := by simp at h; simp [framesOk]; intros; omega
    simp [this]
def taskB (p : BProg) (w : MWorld) (o : MObj) : Bool :=
  if o.n = 0 then (if (1 : Int) < o.vals.length ∨ ((o.frames.length : Int) = 0 ∧ (o.vals.length : Int) = 0) then false else framesOk p w o.frames && (o.frames.take (o.frames.length - (1 - o.vals.length))).all (frameOpen p))
  else if o.n = 1 then decide ((o.vals.length : Int) = 1) && decide ((o.frames.length : Int) = 0)
  else if o.n = 2 ∨ o.n = 3 ∨ o.n = 4 then decide ((o.vals.length : Int) = 0) && decide ((o.frames.length : Int) = 0) else false
theorem mean_runner_task_pc (p : BProg) (w : MWorld) (o : MObj) (hp : p.few) (hw : w.few) (ho : o.few) : PC L F.mean_runner_task [.fp [.fz (p.nodes.map BNode.enc), .fz (p.funs.map (.int .i64)), .int .i64 p.main, .fz (p.cons.map BCon.enc), .fz (w.objs.map MObj.enc), .fz (w.tasks.map (.int .i64)), .fz (w.outs.map MOut.enc), .fz (w.ins.map (.int .i64)), .int .i64 w.used] 0, .agg [.int .i64 o.form, .int .i64 o.n, .fz (o.vals.map MVal.enc), .fz (o.frames.map MFrame.enc)]] (.bool (taskB p w o)) := by
  refine pc_of LF.mean_runner_task rfl rfl ?_
  simp only [go_sem, qC, qG, qS, qW, C.mean_runner_task]
  refine condK_split (fun h0 => ?_) (fun h0 => ?_) <;> simp only [decide_eq_true_eq, decide_eq_false_iff_not] at h0
  · simp only [go_sem, qC, qG, qS, qW]
    repeat' ((first | with_reducible refine condK_split (fun h => ?_) (fun h => ?_) | with_reducible refine guardK_split (fun h => ?_) (fun h => ?_)) <;> (try simp only [decide_eq_true_eq, decide_eq_false_iff_not, Bool.not_true, Bool.not_false] at h) <;> try simp only [go_sem, qC, qG, qS, qW, *])
    all_goals try (simp [taskB, *]; done)
    all_goals
      have hv : o.vals.length ≤ 1 := by omega
      have e : IntKind.i64.wrap (1 - (o.vals.length : Int)) = ((1 - o.vals.length : Nat) : Int) := by rw [wrap_in (by omega)]; omega
      simp only [go_sem, qC, qG, qS, qW, e, (mean_runner_frames_pc p w o.frames (1 - o.vals.length) hp hw ho.2.1 ho.2.2 (by omega)).ret]
      rw [taskB, if_pos h0, if_neg (by omega)]
  · simp only [go_sem, qC, qG, qS, qW]
    repeat' ((first | with_reducible refine condK_split (fun h => ?_) (fun h => ?_) | with_reducible refine guardK_split (fun h => ?_) (fun h => ?_)) <;> (try simp only [decide_eq_true_eq, decide_eq_false_iff_not, Bool.not_true, Bool.not_false] at h) <;> try simp only [go_sem, qC, qG, qS, qW, h])
    all_goals simp [taskB, *]
    all_goals (intros; simp_all)
def bodyB (p : BProg) (w : MWorld) (o : MObj) : Bool :=
  if o.form = 1 then decide ((o.frames.length : Int) = 0) && inR o.n 0 (p.cons.length - 1) && decide ((o.vals.length : Int) = (p.cons.getD o.n.toNat default).args)
  else if o.form = 2 then decide ((o.frames.length : Int) = 0) && inR o.n 0 (p.nodes.length - 1) && decide ((p.node o.n).op = 5) && decide ((o.vals.length : Int) ≤ 30)
  else if o.form = 3 then decide ((o.frames.length : Int) = 0) && decide (o.n = 0) && decide ((o.vals.length : Int) = 1)
  else if o.form = 4 then decide ((o.frames.length : Int) = 0) && decide (o.n = 0) && decide ((o.vals.length : Int) ≤ 4)
  else if o.form = 5 then decide (o.n = 0) && decide ((o.vals.length : Int) = 0) && decide ((0 : Int) < o.frames.length) && (framesOk p w o.frames && o.frames.all (frameOpen p)) && decide ((p.node (o.frames.headD default).node).op = 26)
  else if o.form = 6 then taskB p w o else false
def objB (p : BProg) (w : MWorld) (o : MObj) : Bool := o.vals.all (valueOk p w) && bodyB p w o
theorem obj_same (p : BProg) (w : MWorld) (o : MObj) (hc : ∀ c ∈ p.cons, c.args ≤ 3) : objB p w o = objOk p w o := by
  have hargs : inR o.n 0 (p.cons.length - 1) = true → (p.cons.getD o.n.toNat default).args ≤ 3 := by
    intro h
    simp only [inR, decide_eq_true_eq] at h
    have : o.n.toNat < p.cons.length := by omega
    rw [List.getD_eq_getElem?_getD, List.getElem?_eq_getElem this]
    exact hc _ (List.getElem_mem _)
  have vok : ∀ m : Int, (o.vals.length : Int) ≤ m → valuesOk p w o.vals m = o.vals.all (valueOk p w) := by intro m h; simp [valuesOk, h]
  have vno : ∀ m : Int, m < (o.vals.length : Int) → valuesOk p w o.vals m = false := by intro m h; simp [valuesOk]; intros; omega
  generalize hV : o.vals.all (valueOk p w) = V at vok
  have nilV : o.vals.length = 0 → V = true := by intro h; rw [← hV, List.length_eq_zero_iff.1 h]; rfl
  simp only [objB, objOk, hV]
  by_cases h6 : o.form = 6
  · simp only [h6, if_true, bodyB, taskOk, taskB]
    simp only [show ¬ (6 : Int) = 1 by decide, show ¬ (6 : Int) = 2 by decide, show ¬ (6 : Int) = 3 by decide, show ¬ (6 : Int) = 4 by decide, show ¬ (6 : Int) = 5 by decide, if_false]
    by_cases h0 : o.n = 0
    · simp only [h0, if_true]
      by_cases h1 : (1 : Int) < o.vals.length
      · simp [h1, vno 1 h1]
      · rw [vok 1 (by omega)]
        by_cases h2 : (o.frames.length : Int) = 0 ∧ (o.vals.length : Int) = 0
        · simp only [h2, or_true, if_true]
          simp [h2.1, h2.2]
        · rw [if_neg (by omega)]
          have : (0 : Int) < o.frames.length + o.vals.length := by omega
          have e : o.frames.length - (1 - o.vals.length) = o.frames.length + o.vals.length - 1 := by omega
          simp only [this, decide_true, e]
          cases V <;> cases framesOk p w o.frames <;> simp
    · simp only [h0, if_false]
      by_cases h1 : o.n = 1
      · simp only [h1, if_true]
        by_cases hl : (o.vals.length : Int) = 1
        · rw [vok 1 (by omega)]; simp only [hl, decide_true, Bool.true_and, Bool.and_true]; cases V <;> simp
        · simp only [hl, decide_false, Bool.and_false, Bool.false_and]
      · simp only [h1, if_false]
        split
        · by_cases hl : (o.vals.length : Int) = 0
          · have := nilV (by omega); simp only [this, hl, decide_true, Bool.true_and, Bool.and_true]
          · simp only [hl, decide_false, Bool.and_false, Bool.false_and]
        · simp
  · simp only [h6, if_false, bodyB]
    by_cases h5 : o.form = 5
    · simp only [h5, if_true]
      simp only [show ¬ (5 : Int) = 1 by decide, show ¬ (5 : Int) = 2 by decide, show ¬ (5 : Int) = 3 by decide, show ¬ (5 : Int) = 4 by decide, if_false]
      by_cases hl : (o.vals.length : Int) = 0
      · have := nilV (by omega)
        simp only [this, Bool.true_and, Bool.and_assoc]
      · simp only [hl, decide_false, Bool.and_false, Bool.false_and]
    · simp only [h5, if_false]
      by_cases hf : (o.frames.length : Int) = 0
      · simp only [hf, not_true, if_false, decide_true, Bool.true_and]
        by_cases h1 : o.form = 1
        · simp only [h1, if_true]
          cases hin : inR o.n 0 (p.cons.length - 1) with
          | false => simp
          | true =>
            have ha := hargs hin
            by_cases hl : (o.vals.length : Int) = (p.cons.getD o.n.toNat default).args
            · rw [vok 3 (by omega)]; simp only [hl, decide_true, Bool.true_and, Bool.and_true]
            · simp only [hl, decide_false, Bool.and_false, Bool.false_and]
        · simp only [h1, if_false]
          by_cases h2 : o.form = 2
          · simp only [h2, if_true]
            by_cases hl : (o.vals.length : Int) ≤ 30
            · rw [vok 30 hl]; simp only [hl, decide_true, Bool.and_true]; ac_rfl
            · rw [vno 30 (by omega)]; simp only [hl, decide_false, Bool.and_false, Bool.false_and]
          · simp only [h2, if_false]
            by_cases h3 : o.form = 3
            · simp only [h3, if_true]
              by_cases hl : (o.vals.length : Int) = 1
              · rw [vok 1 (by omega)]; simp only [hl, decide_true, Bool.and_true]; ac_rfl
              · simp only [hl, decide_false, Bool.and_false, Bool.false_and]
            · simp only [h3, if_false]
              by_cases h4 : o.form = 4
              · simp only [h4, if_true]
                by_cases hl : (o.vals.length : Int) ≤ 4
                · rw [vok 4 hl]; simp only [hl, decide_true, Bool.and_true]; ac_rfl
                · rw [vno 4 (by omega)]; simp only [hl, decide_false, Bool.and_false, Bool.false_and]
              · simp only [h4, if_false, Bool.and_false]
      · simp only [hf, not_false_eq_true, if_true, decide_false, Bool.false_and]
        repeat' split
        all_goals simp
theorem mean_runner_object_pc (p : BProg) (w : MWorld) (o : MObj) (hp : p.few) (hw : w.few) (ho : o.few) : PC L F.mean_runner_object [.fp [.fz (p.nodes.map BNode.enc), .fz (p.funs.map (.int .i64)), .int .i64 p.main, .fz (p.cons.map BCon.enc), .fz (w.objs.map MObj.enc), .fz (w.tasks.map (.int .i64)), .fz (w.outs.map MOut.enc), .fz (w.ins.map (.int .i64)), .int .i64 w.used] 0, .agg [.int .i64 o.form, .int .i64 o.n, .fz (o.vals.map MVal.enc), .fz (o.frames.map MFrame.enc)]] (.bool (objB p w o)) := by
  refine pc_of LF.mean_runner_object rfl rfl ?_
  simp only [go_sem, qC, qG, qS, qW, C.mean_runner_object, (mean_all_api_MeanVal_pc _ _ _ ho.1 (ask_value p w hp hw _)).ret]
  refine condK_split (fun hv => ?_) (fun hv => ?_)
  · have hv' : o.vals.all (valueOk p w) = false := by rw [← Bool.not_eq_true']; exact hv
    simp only [go_sem, qC, qG, qS, qW]
    rw [objB, hv']; rfl
  · have hv' : o.vals.all (valueOk p w) = true := by simpa using hv
    rw [objB, hv', Bool.true_and]
    clear hv hv'
    simp only [go_sem, qC, qG, qS, qW]
    have hfr := mean_runner_frames_pc p w o.frames 0 hp hw ho.2.1 ho.2.2 (by omega)
    simp only [Nat.sub_zero, List.take_length, Int.natCast_zero] at hfr
    repeat' ((first | with_reducible refine condK_split (fun h => ?_) (fun h => ?_) | with_reducible refine guardK_split (fun h => ?_) (fun h => ?_)) <;> (try simp only [decide_eq_true_eq, decide_eq_false_iff_not, Bool.not_true, Bool.not_false] at h) <;> try simp only [go_sem, qC, qG, qS, qW, *, (mean_within_pc _ _ _).ret, wrap_pred hp.nodes, wrap_pred hp.cons, ia_node, ia_con, hfr.ret, (mean_runner_task_pc p w o hp hw ho).ret])
    all_goals try (simp [bodyB, *]; done)
    all_goals try (simp [bodyB, *]; intros; simp_all; done)
    · rename_i g1 g2 g3 g4 g5 g6 g7 g8
      have hpos : 0 < o.frames.length := by omega
      have h2 := h
      simp only [Bool.and_eq_true] at h2
      have hn : inR (o.frames.headD default).node 0 (p.nodes.length - 1) = true := framesOk_node h2.1 _ (by cases hh : o.frames with | nil => simp [hh] at hpos | cons a l => simp)
      simp only [go_sem, qC, qG, qS, qW, h, ia_frame0 hpos, hn, ia_node]
      simp only [bodyB, if_neg g1, if_neg g2, if_neg g3, if_neg g4, g5, g6, g7, h]
      simp [*]
    · rename_i g1 g2 g3 g4 g5
      have ht := mean_runner_task_pc p w o hp hw ho
      rw [h] at ht
      simp only [go_sem, qC, qG, qS, qW, ht.ret]
      simp only [bodyB, if_neg g1, if_neg g2, if_neg g3, if_neg g4, if_neg g5, h, if_true]
      simp
end Go.Proofs.YthpmfghgoabnhaaGreat
