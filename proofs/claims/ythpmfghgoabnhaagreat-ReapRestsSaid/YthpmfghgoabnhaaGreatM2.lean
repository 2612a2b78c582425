/- Contracts of functions of the program and of the document: part 2. -/
import Derived.Test.YthpmfghgoabnhaaGreatM1
import Derived.Test.YthpmfghgoabnhaaGreatHxE
set_option linter.all false
namespace Go.Proofs.YthpmfghgoabnhaaGreat
open Go.Abs Go.Proofs
theorem mean_all_int_c1_pc (l : List Int) (h : Val) (p : Int → Bool) (hc : AsksT L (fun x : Int => .int .i64 x) h p l) (x : Int) (hx : x ∈ l) :
  PC L F.mean_all_int_c1 [.int .i64 x,.fp [h] 0] (.bool (!p x)) := by
 refine pc_of LF.mean_all_int_c1 rfl rfl ?_
 simp only [go_sem,qC,qG,qS,qW,C.mean_all_int_c1]
 refine hc.call x hx _ _ ?_
 simp only [go_sem,qC,qG,qS,qW]
theorem mean_all_int_pc (l : List Int) (h : Val) (p : Int → Bool) (hl : Few l.length) (hc : AsksT L (fun x : Int => .int .i64 x) h p l) :
  PC L F.mean_all_int [.fz (l.map (.int .i64)),h] (.bool (l.all p)) := by
 have hd : AsksT L (fun x : Int => .int .i64 x) (.fn F.mean_all_int_c1 [] [.fp [h] 0]) (fun x => !p x) l := by
  refine ⟨fun n en hn => ?_,rfl,rfl,rfl,fun x hx en K hK => ?_⟩
  ·obtain ⟨m,rfl⟩ : ∃ m,n = m + 4 := ⟨n - 4,by omega⟩
   simp only [go_sem,qW]
  ·simp only [go_sem,qW,(mean_all_int_c1_pc l h p hc x hx).ret]
   exact hK
 refine pc_of LF.mean_all_int rfl rfl ?_
 simp only [go_sem,qC,qG,qS,qW,C.mean_all_int,box_any hc.one hc.cells,hc.snap,hc.wk,(cont_int l _ _ hl hd).ret]
 rw [← List.not_all_eq_any_not,Bool.not_not]
theorem idx_MVal (l : List MVal) (h : Val) (p : MVal → Bool) (hl : Few l.length) (hc : AsksT L (fun x : MVal => .agg [.int .i64 x.kind,.int .i64 x.n]) h p l) :
  PC L F.slices_IndexFunc_s_api_MeanVal_api_MeanVal [.fz (l.map MVal.enc),h] (.int .i64 (idxOf p l 0)) := by
 refine pc_of LF.slices_IndexFunc_s_api_MeanVal_api_MeanVal rfl rfl ?_
 simp only [go_sem,qC,qG,qS,qW,C.slices_IndexFunc_s_api_MeanVal_api_MeanVal]
 refine wp_for (l.length) (fun k st => ∃ fr en cnt,st = ⟨fr,en,cnt⟩ ∧ (fr 0 = .fz (l.map MVal.enc)) ∧ (fr 1 = h) ∧ (fr 7 = .int .i64 l.length) ∧ (fr 8 = .int .i64 k) ∧ (idxOf p (l.drop k) k = idxOf p l 0)) 0 (Nat.zero_le _) ⟨_,_,_,rfl,(by first | (simp only [go_sem,qW]; (try rfl); done) | rfl | simp),(by first | (simp only [go_sem,qW]; (try rfl); done) | rfl | simp),(by first | (simp only [go_sem,qW]; (try rfl); done) | rfl | simp),(by first | (simp only [go_sem,qW]; (try rfl); done) | rfl | simp),(by first | (simp only [go_sem,qW]; (try rfl); done) | rfl | simp)⟩ ?_
 rintro k st hk ⟨fr,en,cnt,rfl,h0,h1,h7,h8,hI⟩
 simp only [go_sem,qC,qG,qS,qW,h0,h1,h7,h8]
 refine condK_split (fun hq => ?_) (fun hq => ?_)
 ·have h' : k < l.length := of_decide_eq_true hq
  rw [List.drop_eq_getElem_cons h',idxOf] at hI
  simp only [go_sem,qC,qG,qS,qW,h',h0,h1,h7,h8]
  refine hc.call l[k] (List.getElem_mem _) _ _ ?_
  simp only [go_sem,qC,qG,qS,qW,h0,h1,h7,h8]
  refine condK_split (fun hb => ?_) (fun hb => ?_)
  ·simp only [go_sem,qC,qG,qS,qW,h0,h1,h7,h8]
   rw [hb,if_pos rfl] at hI
   rw [← hI]
  ·simp only [go_sem,qC,qG,qS,qW,h',h0,h1,h7,h8]
   rw [hb] at hI
   simp at hI
   refine ⟨_,_,_,rfl,?_⟩
   simp only [go_sem,qW,h0,h1,h7,h8,wrap_succ h' hl]
   exact hI
 ·have : k = l.length := by simp at hq; omega
  subst this
  simp only [go_sem,qC,qG,qS,qW,h0,h1,h7,h8]
  rw [← hI]; simp [idxOf]
theorem cont_MVal (l : List MVal) (h : Val) (p : MVal → Bool) (hl : Few l.length) (hc : AsksT L (fun x : MVal => .agg [.int .i64 x.kind,.int .i64 x.n]) h p l) :
  PC L F.slices_ContainsFunc_s_api_MeanVal_api_MeanVal [.fz (l.map MVal.enc),h] (.bool (l.any p)) := by
 refine pc_of LF.slices_ContainsFunc_s_api_MeanVal_api_MeanVal rfl rfl ?_
 simp only [go_sem,qC,qG,qS,qW,C.slices_ContainsFunc_s_api_MeanVal_api_MeanVal,hc.snap,hc.wk,(idx_MVal l h p hl hc).ret]
 rw [← idxOf_any p l 0]
theorem mean_all_api_MeanVal_c1_pc (l : List MVal) (h : Val) (p : MVal → Bool) (hc : AsksT L (fun x : MVal => .agg [.int .i64 x.kind,.int .i64 x.n]) h p l) (x : MVal) (hx : x ∈ l) :
  PC L F.mean_all_api_MeanVal_c1 [.agg [.int .i64 x.kind,.int .i64 x.n],.fp [h] 0] (.bool (!p x)) := by
 refine pc_of LF.mean_all_api_MeanVal_c1 rfl rfl ?_
 simp only [go_sem,qC,qG,qS,qW,C.mean_all_api_MeanVal_c1]
 refine hc.call x hx _ _ ?_
 simp only [go_sem,qC,qG,qS,qW]
theorem mean_all_api_MeanVal_pc (l : List MVal) (h : Val) (p : MVal → Bool) (hl : Few l.length) (hc : AsksT L (fun x : MVal => .agg [.int .i64 x.kind,.int .i64 x.n]) h p l) :
  PC L F.mean_all_api_MeanVal [.fz (l.map MVal.enc),h] (.bool (l.all p)) := by
 have hd : AsksT L (fun x : MVal => .agg [.int .i64 x.kind,.int .i64 x.n]) (.fn F.mean_all_api_MeanVal_c1 [] [.fp [h] 0]) (fun x => !p x) l := by
  refine ⟨fun n en hn => ?_,rfl,rfl,rfl,fun x hx en K hK => ?_⟩
  ·obtain ⟨m,rfl⟩ : ∃ m,n = m + 4 := ⟨n - 4,by omega⟩
   simp only [go_sem,qW]
  ·simp only [go_sem,qW,(mean_all_api_MeanVal_c1_pc l h p hc x hx).ret]
   exact hK
 refine pc_of LF.mean_all_api_MeanVal rfl rfl ?_
 simp only [go_sem,qC,qG,qS,qW,C.mean_all_api_MeanVal,box_any hc.one hc.cells,hc.snap,hc.wk,(cont_MVal l _ _ hl hd).ret]
 rw [← List.not_all_eq_any_not,Bool.not_not]
theorem idx_MFrame (l : List MFrame) (h : Val) (p : MFrame → Bool) (hl : Few l.length) (hc : AsksT L (fun x : MFrame => .agg [.int .i64 x.node,.fz (x.env.map MVal.enc),.fz (x.vals.map MVal.enc)]) h p l) :
  PC L F.slices_IndexFunc_s_api_MeanFrame_api_MeanFrame [.fz (l.map MFrame.enc),h] (.int .i64 (idxOf p l 0)) := by
 refine pc_of LF.slices_IndexFunc_s_api_MeanFrame_api_MeanFrame rfl rfl ?_
 simp only [go_sem,qC,qG,qS,qW,C.slices_IndexFunc_s_api_MeanFrame_api_MeanFrame]
 refine wp_for (l.length) (fun k st => ∃ fr en cnt,st = ⟨fr,en,cnt⟩ ∧ (fr 0 = .fz (l.map MFrame.enc)) ∧ (fr 1 = h) ∧ (fr 7 = .int .i64 l.length) ∧ (fr 8 = .int .i64 k) ∧ (idxOf p (l.drop k) k = idxOf p l 0)) 0 (Nat.zero_le _) ⟨_,_,_,rfl,(by first | (simp only [go_sem,qW]; (try rfl); done) | rfl | simp),(by first | (simp only [go_sem,qW]; (try rfl); done) | rfl | simp),(by first | (simp only [go_sem,qW]; (try rfl); done) | rfl | simp),(by first | (simp only [go_sem,qW]; (try rfl); done) | rfl | simp),(by first | (simp only [go_sem,qW]; (try rfl); done) | rfl | simp)⟩ ?_
 rintro k st hk ⟨fr,en,cnt,rfl,h0,h1,h7,h8,hI⟩
 simp only [go_sem,qC,qG,qS,qW,h0,h1,h7,h8]
 refine condK_split (fun hq => ?_) (fun hq => ?_)
 ·have h' : k < l.length := of_decide_eq_true hq
  rw [List.drop_eq_getElem_cons h',idxOf] at hI
  simp only [go_sem,qC,qG,qS,qW,h',h0,h1,h7,h8]
  refine hc.call l[k] (List.getElem_mem _) _ _ ?_
  simp only [go_sem,qC,qG,qS,qW,h0,h1,h7,h8]
  refine condK_split (fun hb => ?_) (fun hb => ?_)
  ·simp only [go_sem,qC,qG,qS,qW,h0,h1,h7,h8]
   rw [hb,if_pos rfl] at hI
   rw [← hI]
  ·simp only [go_sem,qC,qG,qS,qW,h',h0,h1,h7,h8]
   rw [hb] at hI
   simp at hI
   refine ⟨_,_,_,rfl,?_⟩
   simp only [go_sem,qW,h0,h1,h7,h8,wrap_succ h' hl]
   exact hI
 ·have : k = l.length := by simp at hq; omega
  subst this
  simp only [go_sem,qC,qG,qS,qW,h0,h1,h7,h8]
  rw [← hI]; simp [idxOf]
theorem cont_MFrame (l : List MFrame) (h : Val) (p : MFrame → Bool) (hl : Few l.length) (hc : AsksT L (fun x : MFrame => .agg [.int .i64 x.node,.fz (x.env.map MVal.enc),.fz (x.vals.map MVal.enc)]) h p l) :
  PC L F.slices_ContainsFunc_s_api_MeanFrame_api_MeanFrame [.fz (l.map MFrame.enc),h] (.bool (l.any p)) := by
 refine pc_of LF.slices_ContainsFunc_s_api_MeanFrame_api_MeanFrame rfl rfl ?_
 simp only [go_sem,qC,qG,qS,qW,C.slices_ContainsFunc_s_api_MeanFrame_api_MeanFrame,hc.snap,hc.wk,(idx_MFrame l h p hl hc).ret]
 rw [← idxOf_any p l 0]
theorem mean_all_api_MeanFrame_c1_pc (l : List MFrame) (h : Val) (p : MFrame → Bool) (hc : AsksT L (fun x : MFrame => .agg [.int .i64 x.node,.fz (x.env.map MVal.enc),.fz (x.vals.map MVal.enc)]) h p l) (x : MFrame) (hx : x ∈ l) :
  PC L F.mean_all_api_MeanFrame_c1 [.agg [.int .i64 x.node,.fz (x.env.map MVal.enc),.fz (x.vals.map MVal.enc)],.fp [h] 0] (.bool (!p x)) := by
 refine pc_of LF.mean_all_api_MeanFrame_c1 rfl rfl ?_
 simp only [go_sem,qC,qG,qS,qW,C.mean_all_api_MeanFrame_c1]
 refine hc.call x hx _ _ ?_
 simp only [go_sem,qC,qG,qS,qW]
theorem mean_all_api_MeanFrame_pc (l : List MFrame) (h : Val) (p : MFrame → Bool) (hl : Few l.length) (hc : AsksT L (fun x : MFrame => .agg [.int .i64 x.node,.fz (x.env.map MVal.enc),.fz (x.vals.map MVal.enc)]) h p l) :
  PC L F.mean_all_api_MeanFrame [.fz (l.map MFrame.enc),h] (.bool (l.all p)) := by
 have hd : AsksT L (fun x : MFrame => .agg [.int .i64 x.node,.fz (x.env.map MVal.enc),.fz (x.vals.map MVal.enc)]) (.fn F.mean_all_api_MeanFrame_c1 [] [.fp [h] 0]) (fun x => !p x) l := by
  refine ⟨fun n en hn => ?_,rfl,rfl,rfl,fun x hx en K hK => ?_⟩
  ·obtain ⟨m,rfl⟩ : ∃ m,n = m + 4 := ⟨n - 4,by omega⟩
   simp only [go_sem,qW]
  ·simp only [go_sem,qW,(mean_all_api_MeanFrame_c1_pc l h p hc x hx).ret]
   exact hK
 refine pc_of LF.mean_all_api_MeanFrame rfl rfl ?_
 simp only [go_sem,qC,qG,qS,qW,C.mean_all_api_MeanFrame,box_any hc.one hc.cells,hc.snap,hc.wk,(cont_MFrame l _ _ hl hd).ret]
 rw [← List.not_all_eq_any_not,Bool.not_not]
theorem idx_MObj (l : List MObj) (h : Val) (p : MObj → Bool) (hl : Few l.length) (hc : AsksT L (fun x : MObj => .agg [.int .i64 x.form,.int .i64 x.n,.fz (x.vals.map MVal.enc),.fz (x.frames.map MFrame.enc)]) h p l) :
  PC L F.slices_IndexFunc_s_api_MeanObj_api_MeanObj [.fz (l.map MObj.enc),h] (.int .i64 (idxOf p l 0)) := by
 refine pc_of LF.slices_IndexFunc_s_api_MeanObj_api_MeanObj rfl rfl ?_
 simp only [go_sem,qC,qG,qS,qW,C.slices_IndexFunc_s_api_MeanObj_api_MeanObj]
 refine wp_for (l.length) (fun k st => ∃ fr en cnt,st = ⟨fr,en,cnt⟩ ∧ (fr 0 = .fz (l.map MObj.enc)) ∧ (fr 1 = h) ∧ (fr 7 = .int .i64 l.length) ∧ (fr 8 = .int .i64 k) ∧ (idxOf p (l.drop k) k = idxOf p l 0)) 0 (Nat.zero_le _) ⟨_,_,_,rfl,(by first | (simp only [go_sem,qW]; (try rfl); done) | rfl | simp),(by first | (simp only [go_sem,qW]; (try rfl); done) | rfl | simp),(by first | (simp only [go_sem,qW]; (try rfl); done) | rfl | simp),(by first | (simp only [go_sem,qW]; (try rfl); done) | rfl | simp),(by first | (simp only [go_sem,qW]; (try rfl); done) | rfl | simp)⟩ ?_
 rintro k st hk ⟨fr,en,cnt,rfl,h0,h1,h7,h8,hI⟩
 simp only [go_sem,qC,qG,qS,qW,h0,h1,h7,h8]
 refine condK_split (fun hq => ?_) (fun hq => ?_)
 ·have h' : k < l.length := of_decide_eq_true hq
  rw [List.drop_eq_getElem_cons h',idxOf] at hI
  simp only [go_sem,qC,qG,qS,qW,h',h0,h1,h7,h8]
  refine hc.call l[k] (List.getElem_mem _) _ _ ?_
  simp only [go_sem,qC,qG,qS,qW,h0,h1,h7,h8]
  refine condK_split (fun hb => ?_) (fun hb => ?_)
  ·simp only [go_sem,qC,qG,qS,qW,h0,h1,h7,h8]
   rw [hb,if_pos rfl] at hI
   rw [← hI]
  ·simp only [go_sem,qC,qG,qS,qW,h',h0,h1,h7,h8]
   rw [hb] at hI
   simp at hI
   refine ⟨_,_,_,rfl,?_⟩
   simp only [go_sem,qW,h0,h1,h7,h8,wrap_succ h' hl]
   exact hI
 ·have : k = l.length := by simp at hq; omega
  subst this
  simp only [go_sem,qC,qG,qS,qW,h0,h1,h7,h8]
  rw [← hI]; simp [idxOf]
theorem cont_MObj (l : List MObj) (h : Val) (p : MObj → Bool) (hl : Few l.length) (hc : AsksT L (fun x : MObj => .agg [.int .i64 x.form,.int .i64 x.n,.fz (x.vals.map MVal.enc),.fz (x.frames.map MFrame.enc)]) h p l) :
  PC L F.slices_ContainsFunc_s_api_MeanObj_api_MeanObj [.fz (l.map MObj.enc),h] (.bool (l.any p)) := by
 refine pc_of LF.slices_ContainsFunc_s_api_MeanObj_api_MeanObj rfl rfl ?_
 simp only [go_sem,qC,qG,qS,qW,C.slices_ContainsFunc_s_api_MeanObj_api_MeanObj,hc.snap,hc.wk,(idx_MObj l h p hl hc).ret]
 rw [← idxOf_any p l 0]
theorem mean_all_api_MeanObj_c1_pc (l : List MObj) (h : Val) (p : MObj → Bool) (hc : AsksT L (fun x : MObj => .agg [.int .i64 x.form,.int .i64 x.n,.fz (x.vals.map MVal.enc),.fz (x.frames.map MFrame.enc)]) h p l) (x : MObj) (hx : x ∈ l) :
  PC L F.mean_all_api_MeanObj_c1 [.agg [.int .i64 x.form,.int .i64 x.n,.fz (x.vals.map MVal.enc),.fz (x.frames.map MFrame.enc)],.fp [h] 0] (.bool (!p x)) := by
 refine pc_of LF.mean_all_api_MeanObj_c1 rfl rfl ?_
 simp only [go_sem,qC,qG,qS,qW,C.mean_all_api_MeanObj_c1]
 refine hc.call x hx _ _ ?_
 simp only [go_sem,qC,qG,qS,qW]
theorem mean_all_api_MeanObj_pc (l : List MObj) (h : Val) (p : MObj → Bool) (hl : Few l.length) (hc : AsksT L (fun x : MObj => .agg [.int .i64 x.form,.int .i64 x.n,.fz (x.vals.map MVal.enc),.fz (x.frames.map MFrame.enc)]) h p l) :
  PC L F.mean_all_api_MeanObj [.fz (l.map MObj.enc),h] (.bool (l.all p)) := by
 have hd : AsksT L (fun x : MObj => .agg [.int .i64 x.form,.int .i64 x.n,.fz (x.vals.map MVal.enc),.fz (x.frames.map MFrame.enc)]) (.fn F.mean_all_api_MeanObj_c1 [] [.fp [h] 0]) (fun x => !p x) l := by
  refine ⟨fun n en hn => ?_,rfl,rfl,rfl,fun x hx en K hK => ?_⟩
  ·obtain ⟨m,rfl⟩ : ∃ m,n = m + 4 := ⟨n - 4,by omega⟩
   simp only [go_sem,qW]
  ·simp only [go_sem,qW,(mean_all_api_MeanObj_c1_pc l h p hc x hx).ret]
   exact hK
 refine pc_of LF.mean_all_api_MeanObj rfl rfl ?_
 simp only [go_sem,qC,qG,qS,qW,C.mean_all_api_MeanObj,box_any hc.one hc.cells,hc.snap,hc.wk,(cont_MObj l _ _ hl hd).ret]
 rw [← List.not_all_eq_any_not,Bool.not_not]
theorem idx_MOut (l : List MOut) (h : Val) (p : MOut → Bool) (hl : Few l.length) (hc : AsksT L (fun x : MOut => .agg [.int .i64 x.port,.int .i64 x.n]) h p l) :
  PC L F.slices_IndexFunc_s_api_MeanOut_api_MeanOut [.fz (l.map MOut.enc),h] (.int .i64 (idxOf p l 0)) := by
 refine pc_of LF.slices_IndexFunc_s_api_MeanOut_api_MeanOut rfl rfl ?_
 simp only [go_sem,qC,qG,qS,qW,C.slices_IndexFunc_s_api_MeanOut_api_MeanOut]
 refine wp_for (l.length) (fun k st => ∃ fr en cnt,st = ⟨fr,en,cnt⟩ ∧ (fr 0 = .fz (l.map MOut.enc)) ∧ (fr 1 = h) ∧ (fr 7 = .int .i64 l.length) ∧ (fr 8 = .int .i64 k) ∧ (idxOf p (l.drop k) k = idxOf p l 0)) 0 (Nat.zero_le _) ⟨_,_,_,rfl,(by first | (simp only [go_sem,qW]; (try rfl); done) | rfl | simp),(by first | (simp only [go_sem,qW]; (try rfl); done) | rfl | simp),(by first | (simp only [go_sem,qW]; (try rfl); done) | rfl | simp),(by first | (simp only [go_sem,qW]; (try rfl); done) | rfl | simp),(by first | (simp only [go_sem,qW]; (try rfl); done) | rfl | simp)⟩ ?_
 rintro k st hk ⟨fr,en,cnt,rfl,h0,h1,h7,h8,hI⟩
 simp only [go_sem,qC,qG,qS,qW,h0,h1,h7,h8]
 refine condK_split (fun hq => ?_) (fun hq => ?_)
 ·have h' : k < l.length := of_decide_eq_true hq
  rw [List.drop_eq_getElem_cons h',idxOf] at hI
  simp only [go_sem,qC,qG,qS,qW,h',h0,h1,h7,h8]
  refine hc.call l[k] (List.getElem_mem _) _ _ ?_
  simp only [go_sem,qC,qG,qS,qW,h0,h1,h7,h8]
  refine condK_split (fun hb => ?_) (fun hb => ?_)
  ·simp only [go_sem,qC,qG,qS,qW,h0,h1,h7,h8]
   rw [hb,if_pos rfl] at hI
   rw [← hI]
  ·simp only [go_sem,qC,qG,qS,qW,h',h0,h1,h7,h8]
   rw [hb] at hI
   simp at hI
   refine ⟨_,_,_,rfl,?_⟩
   simp only [go_sem,qW,h0,h1,h7,h8,wrap_succ h' hl]
   exact hI
 ·have : k = l.length := by simp at hq; omega
  subst this
  simp only [go_sem,qC,qG,qS,qW,h0,h1,h7,h8]
  rw [← hI]; simp [idxOf]
theorem cont_MOut (l : List MOut) (h : Val) (p : MOut → Bool) (hl : Few l.length) (hc : AsksT L (fun x : MOut => .agg [.int .i64 x.port,.int .i64 x.n]) h p l) :
  PC L F.slices_ContainsFunc_s_api_MeanOut_api_MeanOut [.fz (l.map MOut.enc),h] (.bool (l.any p)) := by
 refine pc_of LF.slices_ContainsFunc_s_api_MeanOut_api_MeanOut rfl rfl ?_
 simp only [go_sem,qC,qG,qS,qW,C.slices_ContainsFunc_s_api_MeanOut_api_MeanOut,hc.snap,hc.wk,(idx_MOut l h p hl hc).ret]
 rw [← idxOf_any p l 0]
theorem mean_all_api_MeanOut_c1_pc (l : List MOut) (h : Val) (p : MOut → Bool) (hc : AsksT L (fun x : MOut => .agg [.int .i64 x.port,.int .i64 x.n]) h p l) (x : MOut) (hx : x ∈ l) :
  PC L F.mean_all_api_MeanOut_c1 [.agg [.int .i64 x.port,.int .i64 x.n],.fp [h] 0] (.bool (!p x)) := by
 refine pc_of LF.mean_all_api_MeanOut_c1 rfl rfl ?_
 simp only [go_sem,qC,qG,qS,qW,C.mean_all_api_MeanOut_c1]
 refine hc.call x hx _ _ ?_
 simp only [go_sem,qC,qG,qS,qW]
theorem mean_all_api_MeanOut_pc (l : List MOut) (h : Val) (p : MOut → Bool) (hl : Few l.length) (hc : AsksT L (fun x : MOut => .agg [.int .i64 x.port,.int .i64 x.n]) h p l) :
  PC L F.mean_all_api_MeanOut [.fz (l.map MOut.enc),h] (.bool (l.all p)) := by
 have hd : AsksT L (fun x : MOut => .agg [.int .i64 x.port,.int .i64 x.n]) (.fn F.mean_all_api_MeanOut_c1 [] [.fp [h] 0]) (fun x => !p x) l := by
  refine ⟨fun n en hn => ?_,rfl,rfl,rfl,fun x hx en K hK => ?_⟩
  ·obtain ⟨m,rfl⟩ : ∃ m,n = m + 4 := ⟨n - 4,by omega⟩
   simp only [go_sem,qW]
  ·simp only [go_sem,qW,(mean_all_api_MeanOut_c1_pc l h p hc x hx).ret]
   exact hK
 refine pc_of LF.mean_all_api_MeanOut rfl rfl ?_
 simp only [go_sem,qC,qG,qS,qW,C.mean_all_api_MeanOut,box_any hc.one hc.cells,hc.snap,hc.wk,(cont_MOut l _ _ hl hd).ret]
 rw [← List.not_all_eq_any_not,Bool.not_not]
theorem mean_within_pc (n lo hi : Int) : PC L F.mean_within [.int .i64 n,.int .i64 lo,.int .i64 hi] (.bool (inR n lo hi)) := by
 refine pc_of LF.mean_within rfl rfl ?_
 simp only [go_sem,qW,C.mean_within]
 refine guard_split (fun h => ?_) (fun h => ?_) <;> simp only [go_sem,qW,h] <;> simp at h <;> simp [h,inR]
 omega
theorem mean_integer_pc (n : Int) : PC L F.mean_integer [.int .i64 n] (.bool (inR n (-1000000000) 1000000000)) := by
 refine pc_of LF.mean_integer rfl rfl ?_
 simp only [go_sem,qC,qG,qS,qW,C.mean_integer,(mean_within_pc _ _ _).ret]
theorem mean_asks_pc (n : BNode) : PC L F.mean_asks [.agg [.int .i64 n.op,.int .i64 n.n,.fz (n.kids.map (.int .i64)),.fz (n.pats.map Pat.enc)]] (.int .i64 n.asks) := by
 refine pc_of LF.mean_asks rfl rfl ?_
 simp only [go_sem,qC,qG,qS,qW,C.mean_asks]
 repeat' ((first | with_reducible refine condK_split (fun h => ?_) (fun h => ?_) | with_reducible refine guardK_split (fun h => ?_) (fun h => ?_)) <;> (try simp only [decide_eq_true_eq,decide_eq_false_iff_not,Bool.not_true,Bool.not_false] at h) <;> try simp only [go_sem,qC,qG,qS,qW,h])
 all_goals simp [BNode.asks, *]
theorem mean_runner_value_pc (p : BProg) (w : MWorld) (v : MVal) (hp : p.few) (hw : w.few) : PC L F.mean_runner_value [.fp [.fz (p.nodes.map BNode.enc),.fz (p.funs.map (.int .i64)),.int .i64 p.main,.fz (p.cons.map BCon.enc),.fz (w.objs.map MObj.enc),.fz (w.tasks.map (.int .i64)),.fz (w.outs.map MOut.enc),.fz (w.ins.map (.int .i64)),.int .i64 w.used] 0,.agg [.int .i64 v.kind,.int .i64 v.n]] (.bool (valueOk p w v)) := by
 refine pc_of LF.mean_runner_value rfl rfl ?_
 simp only [go_sem,qC,qG,qS,qW,C.mean_runner_value]
 repeat' ((first | with_reducible refine condK_split (fun h => ?_) (fun h => ?_) | with_reducible refine guardK_split (fun h => ?_) (fun h => ?_)) <;> (try simp only [decide_eq_true_eq,decide_eq_false_iff_not,Bool.not_true,Bool.not_false] at h) <;> try simp only [go_sem,qC,qG,qS,qW,h,(mean_within_pc _ _ _).ret,(mean_integer_pc _).ret,wrap_pred hp.funs,wrap_pred hw.objs])
 all_goals simp [valueOk, *]
theorem ask_value (p : BProg) (w : MWorld) (hp : p.few) (hw : w.few) (l : List MVal) : AsksT L (fun x : MVal => .agg [.int .i64 x.kind,.int .i64 x.n]) (.fn F.mean_runner_value [.fp [.fz (p.nodes.map BNode.enc),.fz (p.funs.map (.int .i64)),.int .i64 p.main,.fz (p.cons.map BCon.enc),.fz (w.objs.map MObj.enc),.fz (w.tasks.map (.int .i64)),.fz (w.outs.map MOut.enc),.fz (w.ins.map (.int .i64)),.int .i64 w.used] 0] []) (valueOk p w) l := by
 refine ⟨fun n en hn => ?_,rfl,rfl,rfl,fun x hx en K hK => ?_⟩
 ·obtain ⟨m,rfl⟩ : ∃ m,n = m + 4 := ⟨n - 4,by omega⟩
  simp only [go_sem,qW]
 ·simp only [go_sem,qW,(mean_runner_value_pc p w x hp hw).ret]
  exact hK
theorem mean_inputs_pc (l : List Int) (hl : Few l.length) : PC L F.mean_inputs [.fz (l.map (.int .i64))] (.bool (intsOk l 50)) := by
 have ask : AsksT L (fun x : Int => .int .i64 x) (.fn F.mean_integer [] []) (fun n => inR n (-1000000000) 1000000000) l := by
  refine ⟨fun n en hn => ?_,rfl,rfl,rfl,fun x hx en K hK => ?_⟩
  ·obtain ⟨m,rfl⟩ : ∃ m,n = m + 4 := ⟨n - 4,by omega⟩
   simp only [go_sem,qW]
  ·simp only [go_sem,qW,(mean_integer_pc x).ret]
   exact hK
 refine pc_of LF.mean_inputs rfl rfl ?_
 simp only [go_sem,qC,qG,qS,qW,C.mean_inputs]
 refine guardK_split (fun h => ?_) (fun h => ?_)
 ·simp only [go_sem,qC,qG,qS,qW,h,(mean_all_int_pc l _ _ hl ask).ret]
  simp at h; simp [intsOk,h]
 ·simp only [go_sem,qC,qG,qS,qW,h]
  simp at h; simp [intsOk]; intros; omega
theorem mean_runner_world_c1_pc (o : MOut) : PC L F.mean_runner_world_c1 [.agg [.int .i64 o.port,.int .i64 o.n]] (.bool (outOk o)) := by
 refine pc_of LF.mean_runner_world_c1 rfl rfl ?_
 simp only [go_sem,qC,qG,qS,qW,C.mean_runner_world_c1,(mean_within_pc _ _ _).ret]
 refine guardK_split (fun h => ?_) (fun h => ?_) <;> simp only [go_sem,qC,qG,qS,qW,h,(mean_integer_pc _).ret] <;> simp [outOk,h]
theorem mean_runner_frame_pc (p : BProg) (w : MWorld) (f : MFrame) (hp : p.few) (hw : w.few) (hf : f.few) : PC L F.mean_runner_frame [.fp [.fz (p.nodes.map BNode.enc),.fz (p.funs.map (.int .i64)),.int .i64 p.main,.fz (p.cons.map BCon.enc),.fz (w.objs.map MObj.enc),.fz (w.tasks.map (.int .i64)),.fz (w.outs.map MOut.enc),.fz (w.ins.map (.int .i64)),.int .i64 w.used] 0,.agg [.int .i64 f.node,.fz (f.env.map MVal.enc),.fz (f.vals.map MVal.enc)]] (.bool (frameOk p w f)) := by
 refine pc_of LF.mean_runner_frame rfl rfl ?_
 simp only [go_sem,qC,qG,qS,qW,C.mean_runner_frame]
 have e := wrap_pred hp.nodes
 try (refine wp_still ?_ ?_; · decide)
 simp only [go_sem,qC,qG,qS,qW,e,(mean_within_pc _ _ _).ret]
 refine guardK_split (fun h => ?_) (fun h => ?_)
 ·simp only [go_sem,qC,qG,qS,qW,h]
  refine guardK_split (fun h2 => ?_) (fun h2 => ?_)
  ·simp only [go_sem,qC,qG,qS,qW,h,h2,ia_node,(mean_asks_pc _).ret]
   refine guardK_split (fun h3 => ?_) (fun h3 => ?_)
   ·simp only [go_sem,qC,qG,qS,qW,h,h2,h3,(mean_all_api_MeanVal_pc _ _ _ hf.1 (ask_value p w hp hw _)).ret]
    refine guardK_split (fun h4 => ?_) (fun h4 => ?_)
    ·simp only [go_sem,qC,qG,qS,qW,h,h2,h3,h4,(mean_all_api_MeanVal_pc _ _ _ hf.2 (ask_value p w hp hw _)).ret]
     simp at h2 h3 h4
     simp [frameOk,valuesOk,h,h2,h3]
     intros; simp_all
    ·simp only [go_sem,qC,qG,qS,qW,h,h2,h3,h4]
     simp at h2 h3 h4
     obtain ⟨x,hx,hx2⟩ := h4
     simp [frameOk,valuesOk,h,h2,h3]
     intro hh; rw [hh x hx] at hx2; cases hx2
   ·simp only [go_sem,qC,qG,qS,qW,h,h2,h3]
    simp at h2 h3
    simp [frameOk,valuesOk,h,h2]
    intros; omega
  ·simp only [go_sem,qC,qG,qS,qW,h,h2]
   simp at h2
   simp [frameOk,valuesOk,h]
   intros; omega
 ·simp only [go_sem,qC,qG,qS,qW,h]
  simp at h
  simp [frameOk,h]
theorem mean_runner_open_pc (p : BProg) (w : MWorld) (f : MFrame) (hn : inR f.node 0 (p.nodes.length - 1) = true) : PC L F.mean_runner_open [.fp [.fz (p.nodes.map BNode.enc),.fz (p.funs.map (.int .i64)),.int .i64 p.main,.fz (p.cons.map BCon.enc),.fz (w.objs.map MObj.enc),.fz (w.tasks.map (.int .i64)),.fz (w.outs.map MOut.enc),.fz (w.ins.map (.int .i64)),.int .i64 w.used] 0,.agg [.int .i64 f.node,.fz (f.env.map MVal.enc),.fz (f.vals.map MVal.enc)]] (.bool (frameOpen p f)) := by
 refine pc_of LF.mean_runner_open rfl rfl ?_
 simp only [go_sem,qC,qG,qS,qW,C.mean_runner_open]
 refine wp_still ?_ ?_
 ·decide
 simp only [go_sem,qC,qG,qS,qW,hn,ia_node,(mean_asks_pc _).ret]
 simp [frameOpen]
theorem mean_runner_frames_pc (p : BProg) (w : MWorld) (l : List MFrame) (m : Nat) (hp : p.few) (hw : w.few) (hl : Few l.length) (hf : ∀ f ∈ l,f.few) (hm : m ≤ 1) :
  PC L F.mean_runner_frames [.fp [.fz (p.nodes.map BNode.enc),.fz (p.funs.map (.int .i64)),.int .i64 p.main,.fz (p.cons.map BCon.enc),.fz (w.objs.map MObj.enc),.fz (w.tasks.map (.int .i64)),.fz (w.outs.map MOut.enc),.fz (w.ins.map (.int .i64)),.int .i64 w.used] 0,.fz (l.map MFrame.enc),.int .i64 m] (.bool (framesOk p w l && (l.take (l.length - m)).all (frameOpen p))) := by
 have ask1 : AsksT L (fun x : MFrame => .agg [.int .i64 x.node,.fz (x.env.map MVal.enc),.fz (x.vals.map MVal.enc)]) (.fn F.mean_runner_frame [.fp [.fz (p.nodes.map BNode.enc),.fz (p.funs.map (.int .i64)),.int .i64 p.main,.fz (p.cons.map BCon.enc),.fz (w.objs.map MObj.enc),.fz (w.tasks.map (.int .i64)),.fz (w.outs.map MOut.enc),.fz (w.ins.map (.int .i64)),.int .i64 w.used] 0] []) (frameOk p w) l := by
  refine ⟨fun n en hn => ?_,rfl,rfl,rfl,fun x hx en K hK => ?_⟩
  ·obtain ⟨m,rfl⟩ : ∃ m,n = m + 4 := ⟨n - 4,by omega⟩
   simp only [go_sem,qW]
  ·simp only [go_sem,qW,(mean_runner_frame_pc p w x hp hw (hf x hx)).ret]
   exact hK
 refine pc_of LF.mean_runner_frames rfl rfl ?_
 simp only [go_sem,qC,qG,qS,qW,C.mean_runner_frames]
 refine guardK_split (fun h => ?_) (fun h => ?_)
 ·simp only [go_sem,qC,qG,qS,qW,h,(mean_all_api_MeanFrame_pc _ _ _ hl ask1).ret]
  refine guardK_split (fun h2 => ?_) (fun h2 => ?_)
  ·have hok : framesOk p w l = true := by simp at h h2; simp [framesOk,h]; exact h2
   have ask2 : AsksT L (fun x : MFrame => .agg [.int .i64 x.node,.fz (x.env.map MVal.enc),.fz (x.vals.map MVal.enc)]) (.fn F.mean_runner_open [.fp [.fz (p.nodes.map BNode.enc),.fz (p.funs.map (.int .i64)),.int .i64 p.main,.fz (p.cons.map BCon.enc),.fz (w.objs.map MObj.enc),.fz (w.tasks.map (.int .i64)),.fz (w.outs.map MOut.enc),.fz (w.ins.map (.int .i64)),.int .i64 w.used] 0] []) (frameOpen p) (l.take (l.length - m)) := by
    refine ⟨fun n en hn => ?_,rfl,rfl,rfl,fun x hx en K hK => ?_⟩
    ·obtain ⟨m,rfl⟩ : ∃ m,n = m + 4 := ⟨n - 4,by omega⟩
     simp only [go_sem,qW]
    ·simp only [go_sem,qW,(mean_runner_open_pc p w x (framesOk_node hok x (List.mem_of_mem_take hx))).ret]
     exact hK
   have k1 := framesOk_len hok
   have e1 : IntKind.i64.wrap ((l.length : Int) - m) = (l.length : Int) - m := wrap_in (by omega)
   have e2 : max (0 : Int) ((l.length : Int) - m) = ((l.length - m : Nat) : Int) := by omega
   simp only [go_sem,qC,qG,qS,qW,h,h2,e1,e2,slice_to,Nat.sub_le,← List.map_take,(mean_all_api_MeanFrame_pc _ _ _ (few_take hl _) ask2).ret]
   simp [hok]
  ·simp only [go_sem,qC,qG,qS,qW,h,h2]
   have : framesOk p w l = false := by
    rw [← Bool.not_eq_true]; intro hh; simp only [framesOk,Bool.and_eq_true] at hh; rw [hh.2] at h2; simp at h2
   simp [this]
 ·simp only [go_sem,qC,qG,qS,qW,h]
  have : framesOk p w l = false := by simp at h; simp [framesOk]; intros; omega
  simp [this]
def taskB (p : BProg) (w : MWorld) (o : MObj) : Bool :=
 if o.n = 0 then (if (1 : Int) < o.vals.length ∨ ((o.frames.length : Int) = 0 ∧ (o.vals.length : Int) = 0) then false else framesOk p w o.frames && (o.frames.take (o.frames.length - (1 - o.vals.length))).all (frameOpen p))
 else if o.n = 1 then decide ((o.vals.length : Int) = 1) && decide ((o.frames.length : Int) = 0)
 else if o.n = 2 ∨ o.n = 3 ∨ o.n = 4 then decide ((o.vals.length : Int) = 0) && decide ((o.frames.length : Int) = 0) else false
theorem mean_runner_task_pc (p : BProg) (w : MWorld) (o : MObj) (hp : p.few) (hw : w.few) (ho : o.few) : PC L F.mean_runner_task [.fp [.fz (p.nodes.map BNode.enc),.fz (p.funs.map (.int .i64)),.int .i64 p.main,.fz (p.cons.map BCon.enc),.fz (w.objs.map MObj.enc),.fz (w.tasks.map (.int .i64)),.fz (w.outs.map MOut.enc),.fz (w.ins.map (.int .i64)),.int .i64 w.used] 0,.agg [.int .i64 o.form,.int .i64 o.n,.fz (o.vals.map MVal.enc),.fz (o.frames.map MFrame.enc)]] (.bool (taskB p w o)) := by
 refine pc_of LF.mean_runner_task rfl rfl ?_
 simp only [go_sem,qC,qG,qS,qW,C.mean_runner_task]
 refine condK_split (fun h0 => ?_) (fun h0 => ?_) <;> simp only [decide_eq_true_eq,decide_eq_false_iff_not] at h0
 ·simp only [go_sem,qC,qG,qS,qW]
  repeat' ((first | with_reducible refine condK_split (fun h => ?_) (fun h => ?_) | with_reducible refine guardK_split (fun h => ?_) (fun h => ?_)) <;> (try simp only [decide_eq_true_eq,decide_eq_false_iff_not,Bool.not_true,Bool.not_false] at h) <;> try simp only [go_sem,qC,qG,qS,qW, *])
  all_goals try (simp [taskB, *]; done)
  all_goals
   have hv : o.vals.length ≤ 1 := by omega
   have e : IntKind.i64.wrap (1 - (o.vals.length : Int)) = ((1 - o.vals.length : Nat) : Int) := by rw [wrap_in (by omega)]; omega
   simp only [go_sem,qC,qG,qS,qW,e,(mean_runner_frames_pc p w o.frames (1 - o.vals.length) hp hw ho.2.1 ho.2.2 (by omega)).ret]
   rw [taskB,if_pos h0,if_neg (by omega)]
 ·simp only [go_sem,qC,qG,qS,qW]
  repeat' ((first | with_reducible refine condK_split (fun h => ?_) (fun h => ?_) | with_reducible refine guardK_split (fun h => ?_) (fun h => ?_)) <;> (try simp only [decide_eq_true_eq,decide_eq_false_iff_not,Bool.not_true,Bool.not_false] at h) <;> try simp only [go_sem,qC,qG,qS,qW,h])
  all_goals simp [taskB, *]
  all_goals (intros; simp_all)
def bodyB (p : BProg) (w : MWorld) (o : MObj) : Bool :=
 if o.form = 1 then decide ((o.frames.length : Int) = 0) && inR o.n 0 (p.cons.length - 1) && decide ((o.vals.length : Int) = (p.cons.getD o.n.toNat default).args)
 else if o.form = 2 then decide ((o.frames.length : Int) = 0) && inR o.n 0 (p.nodes.length - 1) && decide ((p.node o.n).op = 5) && decide ((o.vals.length : Int) ≤ 30)
 else if o.form = 3 then decide ((o.frames.length : Int) = 0) && decide (o.n = 0) && decide ((o.vals.length : Int) = 1)
 else if o.form = 4 then decide ((o.frames.length : Int) = 0) && decide (o.n = 0) && decide ((o.vals.length : Int) ≤ 4)
 else if o.form = 5 then decide (o.n = 0) && decide ((o.vals.length : Int) = 0) && decide ((0 : Int) < o.frames.length) && (framesOk p w o.frames && o.frames.all (frameOpen p)) && decide ((p.node (o.frames.headD default).node).op = 26)
 else if o.form = 6 then taskB p w o else false
def objB (p : BProg) (w : MWorld) (o : MObj) : Bool := o.vals.all (valueOk p w) && bodyB p w o
theorem obj_same (p : BProg) (w : MWorld) (o : MObj) (hc : ∀ c ∈ p.cons,c.args ≤ 3) : objB p w o = objOk p w o := by
 have hargs : inR o.n 0 (p.cons.length - 1) = true → (p.cons.getD o.n.toNat default).args ≤ 3 := by
  intro h
  simp only [inR,decide_eq_true_eq] at h
  have : o.n.toNat < p.cons.length := by omega
  rw [List.getD_eq_getElem?_getD,List.getElem?_eq_getElem this]
  exact hc _ (List.getElem_mem _)
 have vok : ∀ m : Int,(o.vals.length : Int) ≤ m → valuesOk p w o.vals m = o.vals.all (valueOk p w) := by intro m h; simp [valuesOk,h]
 have vno : ∀ m : Int,m < (o.vals.length : Int) → valuesOk p w o.vals m = false := by intro m h; simp [valuesOk]; intros; omega
 generalize hV : o.vals.all (valueOk p w) = V at vok
 have nilV : o.vals.length = 0 → V = true := by intro h; rw [← hV,List.length_eq_zero_iff.1 h]; rfl
 simp only [objB,objOk,hV]
 by_cases h6 : o.form = 6
 ·simp only [h6,if_true,bodyB,taskOk,taskB]
  simp only [show ¬ (6 : Int) = 1 by decide,show ¬ (6 : Int) = 2 by decide,show ¬ (6 : Int) = 3 by decide,show ¬ (6 : Int) = 4 by decide,show ¬ (6 : Int) = 5 by decide,if_false]
  by_cases h0 : o.n = 0
  ·simp only [h0,if_true]
   by_cases h1 : (1 : Int) < o.vals.length
   ·simp [h1,vno 1 h1]
   ·rw [vok 1 (by omega)]
    by_cases h2 : (o.frames.length : Int) = 0 ∧ (o.vals.length : Int) = 0
    ·simp only [h2,or_true,if_true]
     simp [h2.1,h2.2]
    ·rw [if_neg (by omega)]
     have : (0 : Int) < o.frames.length + o.vals.length := by omega
     have e : o.frames.length - (1 - o.vals.length) = o.frames.length + o.vals.length - 1 := by omega
     simp only [this,decide_true,e]
     cases V <;> cases framesOk p w o.frames <;> simp
  ·simp only [h0,if_false]
   by_cases h1 : o.n = 1
   ·simp only [h1,if_true]
    by_cases hl : (o.vals.length : Int) = 1
    ·rw [vok 1 (by omega)]; simp only [hl,decide_true,Bool.true_and,Bool.and_true]; cases V <;> simp
    ·simp only [hl,decide_false,Bool.and_false,Bool.false_and]
   ·simp only [h1,if_false]
    split
    ·by_cases hl : (o.vals.length : Int) = 0
     ·have := nilV (by omega); simp only [this,hl,decide_true,Bool.true_and,Bool.and_true]
     ·simp only [hl,decide_false,Bool.and_false,Bool.false_and]
    ·simp
 ·simp only [h6,if_false,bodyB]
  by_cases h5 : o.form = 5
  ·simp only [h5,if_true]
   simp only [show ¬ (5 : Int) = 1 by decide,show ¬ (5 : Int) = 2 by decide,show ¬ (5 : Int) = 3 by decide,show ¬ (5 : Int) = 4 by decide,if_false]
   by_cases hl : (o.vals.length : Int) = 0
   ·have := nilV (by omega)
    simp only [this,Bool.true_and,Bool.and_assoc]
   ·simp only [hl,decide_false,Bool.and_false,Bool.false_and]
  ·simp only [h5,if_false]
   by_cases hf : (o.frames.length : Int) = 0
   ·simp only [hf,not_true,if_false,decide_true,Bool.true_and]
    by_cases h1 : o.form = 1
    ·simp only [h1,if_true]
     cases hin : inR o.n 0 (p.cons.length - 1) with
     | false => simp
     | true =>
      have ha := hargs hin
      by_cases hl : (o.vals.length : Int) = (p.cons.getD o.n.toNat default).args
      ·rw [vok 3 (by omega)]; simp only [hl,decide_true,Bool.true_and,Bool.and_true]
      ·simp only [hl,decide_false,Bool.and_false,Bool.false_and]
    ·simp only [h1,if_false]
     by_cases h2 : o.form = 2
     ·simp only [h2,if_true]
      by_cases hl : (o.vals.length : Int) ≤ 30
      ·rw [vok 30 hl]; simp only [hl,decide_true,Bool.and_true]; ac_rfl
      ·rw [vno 30 (by omega)]; simp only [hl,decide_false,Bool.and_false,Bool.false_and]
     ·simp only [h2,if_false]
      by_cases h3 : o.form = 3
      ·simp only [h3,if_true]
       by_cases hl : (o.vals.length : Int) = 1
       ·rw [vok 1 (by omega)]; simp only [hl,decide_true,Bool.and_true]; ac_rfl
       ·simp only [hl,decide_false,Bool.and_false,Bool.false_and]
      ·simp only [h3,if_false]
       by_cases h4 : o.form = 4
       ·simp only [h4,if_true]
        by_cases hl : (o.vals.length : Int) ≤ 4
        ·rw [vok 4 hl]; simp only [hl,decide_true,Bool.and_true]; ac_rfl
        ·rw [vno 4 (by omega)]; simp only [hl,decide_false,Bool.and_false,Bool.false_and]
       ·simp only [h4,if_false,Bool.and_false]
   ·simp only [hf,not_false_eq_true,if_true,decide_false,Bool.false_and]
    repeat' split
    all_goals simp
theorem mean_runner_object_pc (p : BProg) (w : MWorld) (o : MObj) (hp : p.few) (hw : w.few) (ho : o.few) : PC L F.mean_runner_object [.fp [.fz (p.nodes.map BNode.enc),.fz (p.funs.map (.int .i64)),.int .i64 p.main,.fz (p.cons.map BCon.enc),.fz (w.objs.map MObj.enc),.fz (w.tasks.map (.int .i64)),.fz (w.outs.map MOut.enc),.fz (w.ins.map (.int .i64)),.int .i64 w.used] 0,.agg [.int .i64 o.form,.int .i64 o.n,.fz (o.vals.map MVal.enc),.fz (o.frames.map MFrame.enc)]] (.bool (objB p w o)) := by
 refine pc_of LF.mean_runner_object rfl rfl ?_
 simp only [go_sem,qC,qG,qS,qW,C.mean_runner_object,(mean_all_api_MeanVal_pc _ _ _ ho.1 (ask_value p w hp hw _)).ret]
 refine condK_split (fun hv => ?_) (fun hv => ?_)
 ·have hv' : o.vals.all (valueOk p w) = false := by rw [← Bool.not_eq_true']; exact hv
  simp only [go_sem,qC,qG,qS,qW]
  rw [objB,hv']; rfl
 ·have hv' : o.vals.all (valueOk p w) = true := by simpa using hv
  rw [objB,hv',Bool.true_and]
  clear hv hv'
  simp only [go_sem,qC,qG,qS,qW]
  have hfr := mean_runner_frames_pc p w o.frames 0 hp hw ho.2.1 ho.2.2 (by omega)
  simp only [Nat.sub_zero,List.take_length,Int.natCast_zero] at hfr
  repeat' ((first | with_reducible refine condK_split (fun h => ?_) (fun h => ?_) | with_reducible refine guardK_split (fun h => ?_) (fun h => ?_)) <;> (try simp only [decide_eq_true_eq,decide_eq_false_iff_not,Bool.not_true,Bool.not_false] at h) <;> try simp only [go_sem,qC,qG,qS,qW, *,(mean_within_pc _ _ _).ret,wrap_pred hp.nodes,wrap_pred hp.cons,ia_node,ia_con,hfr.ret,(mean_runner_task_pc p w o hp hw ho).ret])
  all_goals try (simp [bodyB, *]; done)
  all_goals try (simp [bodyB, *]; intros; simp_all; done)
  ·rename_i g1 g2 g3 g4 g5 g6 g7 g8
   have hpos : 0 < o.frames.length := by omega
   have h2 := h
   simp only [Bool.and_eq_true] at h2
   have hn : inR (o.frames.headD default).node 0 (p.nodes.length - 1) = true := framesOk_node h2.1 _ (by cases hh : o.frames with | nil => simp [hh] at hpos | cons a l => simp)
   simp only [go_sem,qC,qG,qS,qW,h,ia_frame0 hpos,hn,ia_node]
   simp only [bodyB,if_neg g1,if_neg g2,if_neg g3,if_neg g4,g5,g6,g7,h]
   simp [*]
  ·rename_i g1 g2 g3 g4 g5
   have ht := mean_runner_task_pc p w o hp hw ho
   rw [h] at ht
   simp only [go_sem,qC,qG,qS,qW,ht.ret]
   simp only [bodyB,if_neg g1,if_neg g2,if_neg g3,if_neg g4,if_neg g5,h,if_true]
   simp
theorem mean_numbers_pc (n : Nat) : PC L F.mean_numbers [.int .i64 n] (.fn F.mean_numbers_c1 [] [.fp [.int .i64 n] 0]) := by
 refine pc_of LF.mean_numbers rfl rfl ?_
 simp only [go_sem,qC,qG,qW,C.mean_numbers]
theorem Collect_pc (n : Nat) (hn : n ≤ 1000) : PC L F.slices_Collect_int [.fn F.mean_numbers_c1 [] [.fp [.int .i64 n] 0]] (.fz ((List.range n).map fun (i : Nat) => .int .i64 i)) := by
 have hf : Few n := by unfold Few; omega
 refine pc_of LF.slices_Collect_int rfl rfl ?_
 simp only [go_sem,qC,qG,qW,C.slices_Collect_int]
 refine win_of LF.slices_AppendSeq_s_int_int rfl rfl ?_
 simp only [go_sem,qC,qG,qW,C.slices_AppendSeq_s_int_int,box_any (v := .cl []) rfl rfl]
 refine wp_range (f := F.mean_numbers_c1) (x := []) (y := [.fp [.int .i64 n] 0]) ?_ ?_
 ·simp only [go_sem,qW]
 intro fr0 key hfr0 hkey
 have h2 : fr0 2 = .ptr ⟨0,2,0⟩ 0 := by rw [hfr0]; simp only [go_sem,qW]
 have hk1 : key = ⟨1,0,0⟩ := by rw [hkey]; rfl
 subst hk1
 clear hkey hfr0
 refine win_of LF.mean_numbers_c1 rfl rfl ?_
 simp only [go_sem,qC,qG,qW,C.mean_numbers_c1]
 refine wp_for n (fun k st => ∃ fr en cnt v,st = ⟨fr,en,cnt⟩ ∧ fr 0 = .yld ⟨1,0,0⟩ ∧ fr 4 = .int .i64 n ∧ fr 5 = .int .i64 k ∧ en ⟨1,0,0⟩ = some (.loop fr0 [7] (.ops [o 5 (.mv (.t 7))]) (.block 1 (.ops [o 8 (.load false 1 (.t 2)),o 9 (.mv (.t 5)),o 10 (.bslice 1 1 [(.int .i64 0)] [(0,(.t 9))]),o 11 (.append 1 (.t 8) (.t 10)),on (.store 1 (.t 2) (.t 11))])) .ready) ∧ en ⟨0,2,0⟩ = some (.box [v] false) ∧ Mine en v 1 ((List.range k).map fun (i : Nat) => .int .i64 i) [11]) 0 (Nat.zero_le _) ⟨_,_,_,.cl [],rfl,by simp only [go_sem,qW],by simp only [go_sem,qW],by simp only [go_sem,qW],by simp only [go_sem,qW],by simp only [go_sem,qW],Mine.nil _ _⟩ ?_
 rintro k st hk ⟨fr,en,cnt,v,rfl,h0,h4,h5,e1,e2,hm⟩
 simp only [go_sem,qC,qG,qW,h0,h4,h5]
 refine condK_split (fun hq => ?_) (fun hq => ?_)
 ·have h' : k < n := of_decide_eq_true hq
  simp only [go_sem,qC,qG,qW,h',h0,h4,h5]
  refine win_yld (fr := fr0) (ps := [7]) (a := (.ops [o 5 (.mv (.t 7))])) (b := (.block 1 (.ops [o 8 (.load false 1 (.t 2)),o 9 (.mv (.t 5)),o 10 (.bslice 1 1 [(.int .i64 0)] [(0,(.t 9))]),o 11 (.append 1 (.t 8) (.t 10)),on (.store 1 (.t 2) (.t 11))]))) e1 rfl ?_
  simp only [go_sem,qC,qG,qW,h2,e1,e2]
  refine w_append (D := [11]) (xs := (List.range k).map fun (i : Nat) => Val.int .i64 i) (ys := [.int .i64 k]) (rs := []) ?_ ?_ ?_ ?_ ?_
  ·simp only [go_sem,qW]
   exact hm.keep fun t g ht => by simp at ht; subst ht; simp only [go_sem,qW]
  ·simp only [go_sem,qW]
  ·rfl
  ·simp; omega
  ·intro v' en' cnt' hown hen hcnt
   obtain ⟨s1,s2⟩ := hown.shape
   have k1 : en' ⟨1,0,0⟩ = some (.loop fr0 [7] (.ops [o 5 (.mv (.t 7))]) (.block 1 (.ops [o 8 (.load false 1 (.t 2)),o 9 (.mv (.t 5)),o 10 (.bslice 1 1 [(.int .i64 0)] [(0,(.t 9))]),o 11 (.append 1 (.t 8) (.t 10)),on (.store 1 (.t 2) (.t 11))])) .busy) := by rw [hen 1 0 0 (.inl (by decide))]; simp only [go_sem,qW]
   have k2 : en' ⟨0,2,0⟩ = some (.box [v] false) := by rw [hen 0 2 0 (.inr ⟨by decide,by simp⟩)]; simp only [go_sem,qW,e2]
   simp only [go_sem,qC,qG,qW,h',h2,s1,s2,k1,k2]
   simp only [go_sem,qC,qG,qW,h0,h4,h5]
   refine ⟨_,_,_,v',rfl,?_⟩
   simp only [go_sem,qC,qG,qW,h0,h4,h5,k2,wrap_succ h' hf]
   refine Mine.sub (D := [11,11]) (Mine.keep (en := en') ?_ ?_) (by simp)
   ·rw [List.map_append]; exact hown
   ·intro t g ht; simp at ht; subst ht; simp only [go_sem,qW]
 ·have : k = n := by simp at hq; omega
  subst this
  simp only [go_sem,qC,qG,qW,e1]
  obtain ⟨r,ks,s1,s2,_⟩ := mine_ret (hm.keep (en' := en.set ⟨1,0,0⟩ none) fun t g ht => by simp at ht; subst ht; simp only [go_sem,qW])
  simp only [go_sem,qC,qG,qW,e2,s1,s2]
theorem findKey_int (n : Int) : ∀ ks : List Int,(∃ i,findKey .num (.int .i64 n) (ks.map (.int .i64)) = some (some i) ∧ (ks.any fun x => decide (x = n)) = true ∧ (ks.map (Val.int .i64)).set i (.int .i64 n) = ks.map (.int .i64) ∧ i < ks.length) ∨
  (findKey .num (.int .i64 n) (ks.map (.int .i64)) = some none ∧ (ks.any fun x => decide (x = n)) = false)
 | [] => .inr ⟨rfl,rfl⟩
 | x :: ks => by
  have he : eqVal .num (.int .i64 n) (.int .i64 x) = some (n == x) := by simp [eqVal]
  by_cases h : n = x
  ·subst h
   refine .inl ⟨0,?_,by simp,by simp,by simp⟩
   simp only [List.map_cons,findKey,he,beq_self_eq_true]
  ·have hb : (n == x) = false := by simpa using h
   have hx : decide (x = n) = false := by simp; exact fun e => h e.symm
   rcases findKey_int n ks with ⟨i,h1,h2,h3,h4⟩ | ⟨h1,h2⟩
   ·refine .inl ⟨i + 1,?_,?_,by simp [h3],by simp; exact h4⟩
    ·simp only [List.map_cons,findKey,he,hb,h1]
    ·simp only [List.any_cons,hx,Bool.false_or]; exact h2
   ·refine .inr ⟨?_,?_⟩
    ·simp only [List.map_cons,findKey,he,hb,h1]
    ·simp only [List.any_cons,hx,Bool.false_or]; exact h2
theorem look_bool (n : Int) (ks : List Int) : lookIn .num (.bool false) false (.int .i64 n) (ks.map (.int .i64)) (ks.map fun _ => .bool true) = some (.bool (ks.any fun x => decide (x = n))) := by
 unfold lookIn
 rcases findKey_int n ks with ⟨i,h1,h2,_,h4⟩ | ⟨h1,h2⟩
 ·simp [h1,h2,List.getD_eq_getElem?_getD,h4]
 ·simp [h1,h2]
def covered (w : MWorld) (ks : List Int) : Bool := (List.range w.objs.length).all fun i => (ks.any fun x => decide (x = (i : Int))) || !isTask (w.obj i)
def tasksB (w : MWorld) : Bool := distinctTasks w [] w.tasks && covered w w.tasks
theorem mean_runner_tasks_c1_pc (p : BProg) (w : MWorld) (ks : List Int) (i : Nat) (hi : i < w.objs.length) :
  PC L F.mean_runner_tasks_c1 [.int .i64 i,.fp [.fm (ks.map (.int .i64)) (ks.map fun _ => .bool true)] 0,.fp [.fp [.fz (p.nodes.map BNode.enc),.fz (p.funs.map (.int .i64)),.int .i64 p.main,.fz (p.cons.map BCon.enc),.fz (w.objs.map MObj.enc),.fz (w.tasks.map (.int .i64)),.fz (w.outs.map MOut.enc),.fz (w.ins.map (.int .i64)),.int .i64 w.used] 0] 0] (.bool ((ks.any fun x => decide (x = (i : Int))) || !isTask (w.obj i))) := by
 have hin : inR (i : Int) 0 (w.objs.length - 1) = true := by simp [inR]; omega
 refine pc_of LF.mean_runner_tasks_c1 rfl rfl ?_
 simp only [go_sem,qC,qG,qW,C.mean_runner_tasks_c1,look_bool]
 refine guardK_split (fun h => ?_) (fun h => ?_)
 ·simp only [go_sem,qC,qG,qW,h,ia_obj,hin]
  simp [isTask]
 ·simp only [go_sem,qC,qG,qW,h,Bool.not_false]
  simp
theorem one_mp {k : Key} : Val.one (.mp k) = true := (rfl)
theorem cells_mp {k : Key} : Val.cells (.mp k) = [.mp k] := (rfl)
theorem sn_mp {n : Nat} {en : En} {k : Key} : snapD (n + 1) en (.mp k) = (match en k with
   | some (.map ks vs _) => some (.fm ks vs,[k])
   | _ => none) := (rfl)
theorem mean_runner_tasks_pc (p : BProg) (w : MWorld) (hw : w.few) (hn : w.objs.length ≤ 1000) : PC L F.mean_runner_tasks [.fp [.fz (p.nodes.map BNode.enc),.fz (p.funs.map (.int .i64)),.int .i64 p.main,.fz (p.cons.map BCon.enc),.fz (w.objs.map MObj.enc),.fz (w.tasks.map (.int .i64)),.fz (w.outs.map MOut.enc),.fz (w.ins.map (.int .i64)),.int .i64 w.used] 0] (.bool (tasksB w)) := by
 have e := wrap_pred hw.objs
 refine pc_of LF.mean_runner_tasks rfl rfl ?_
 simp only [go_sem,qC,qG,qW,C.mean_runner_tasks,box_any (v := .fp [.fz (p.nodes.map BNode.enc),.fz (p.funs.map (.int .i64)),.int .i64 p.main,.fz (p.cons.map BCon.enc),.fz (w.objs.map MObj.enc),.fz (w.tasks.map (.int .i64)),.fz (w.outs.map MOut.enc),.fz (w.ins.map (.int .i64)),.int .i64 w.used] 0) rfl rfl,one_mp,cells_mp]
 refine wp_for w.tasks.length (fun k st => ∃ fr en cnt,st = ⟨fr,en,cnt⟩ ∧ fr 1 = .ptr ⟨0,1,0⟩ 0 ∧ en ⟨0,1,0⟩ = some (.box [.fp [.fz (p.nodes.map BNode.enc),.fz (p.funs.map (.int .i64)),.int .i64 p.main,.fz (p.cons.map BCon.enc),.fz (w.objs.map MObj.enc),.fz (w.tasks.map (.int .i64)),.fz (w.outs.map MOut.enc),.fz (w.ins.map (.int .i64)),.int .i64 w.used] 0] false) ∧ fr 3 = .ptr ⟨0,3,0⟩ 0 ∧ en ⟨0,3,0⟩ = some (.box [.mp ⟨0,6,0⟩] false) ∧
  en ⟨0,6,0⟩ = some (.map ((w.tasks.take k).map (.int .i64)) ((w.tasks.take k).map fun _ => .bool true) false) ∧ fr 11 = .fz (w.tasks.map (.int .i64)) ∧ fr 12 = .int .i64 w.tasks.length ∧ fr 13 = .int .i64 k ∧ distinctTasks w (w.tasks.take k) (w.tasks.drop k) = distinctTasks w [] w.tasks) 0 (Nat.zero_le _)
  ⟨_,_,_,rfl,by simp only [go_sem,qW],by simp only [go_sem,qW],by simp only [go_sem,qW],by simp only [go_sem,qW],by simp only [go_sem,qW],by simp only [go_sem,qW],by simp only [go_sem,qW],by simp only [go_sem,qW],rfl⟩ ?_
 rintro k st hk ⟨fr,en,cnt,rfl,h1,e1,h3,e3,e6,h11,h12,h13,hI⟩
 simp only [go_sem,qC,qG,qW,h11,h12,h13]
 refine condK_split (fun hq => ?_) (fun hq => ?_)
 ·have h' : k < w.tasks.length := of_decide_eq_true hq
  rw [List.drop_eq_getElem_cons h',distinctTasks] at hI
  simp only [go_sem,qC,qG,qW,h',h1,e1,h3,e3,h11,h12,h13,(mean_within_pc _ _ _).ret,e]
  refine guardK_split (fun hb => ?_) (fun hb => ?_)
  ·simp at hb
   simp only [go_sem,qC,qG,qW,hb,Bool.not_true,h1,e1,h3,e3,ia_obj]
   refine guardK_split (fun hc => ?_) (fun hc => ?_)
   ·have hc' : isTask (w.obj w.tasks[k]) = true := by simpa [isTask] using hc
    simp only [go_sem,qC,qG,qW,hc,h1,e1,h3,e3,e6,look_bool]
    refine condK_split (fun hd => ?_) (fun hd => ?_)
    ·simp only [go_sem,qC,qG,qW]
     rw [hb,hc',hd] at hI
     rw [tasksB,← hI]; rfl
    ·rw [hb,hc',hd] at hI
     simp only [Bool.not_false,Bool.true_and] at hI
     rcases findKey_int w.tasks[k] (w.tasks.take k) with ⟨i,f1,f2,_⟩ | ⟨f1,_⟩
     ·rw [hd] at f2; cases f2
     ·simp only [go_sem,qC,qG,qW,h',h1,e1,h3,e3,e6,h11,h12,h13,f1]
      refine ⟨_,_,_,rfl,?_⟩
      simp only [go_sem,qC,qG,qW,h',h1,e1,h3,e3,e6,h11,h12,h13,take_step h',List.map_append,wrap_succ h' hw.tasks]
      exact hI
   ·have hc' : isTask (w.obj w.tasks[k]) = false := by simp at hc; simp [isTask,hc]
    simp only [go_sem,qC,qG,qW,hc]
    rw [hb,hc'] at hI
    rw [tasksB,← hI]; rfl
  ·simp at hb
   simp only [go_sem,qC,qG,qW,hb,Bool.not_false]
   rw [hb] at hI
   rw [tasksB,← hI]; rfl
 ·have : k = w.tasks.length := by simp at hq; omega
  subst this
  rw [List.take_length] at e6 hI
  rw [List.drop_length,distinctTasks] at hI
  have hp : ∀ i : Nat,i < w.objs.length → PC L F.mean_runner_tasks_c1 [.int .i64 i,.fp [.fm (w.tasks.map (.int .i64)) (w.tasks.map fun _ => .bool true)] 0,.fp [.fp [.fz (p.nodes.map BNode.enc),.fz (p.funs.map (.int .i64)),.int .i64 p.main,.fz (p.cons.map BCon.enc),.fz (w.objs.map MObj.enc),.fz (w.tasks.map (.int .i64)),.fz (w.outs.map MOut.enc),.fz (w.ins.map (.int .i64)),.int .i64 w.used] 0] 0] (.bool ((w.tasks.any fun x => decide (x = (i : Int))) || !isTask (w.obj i))) := fun i hi => mean_runner_tasks_c1_pc p w w.tasks i hi
  have ask : AsksT L (fun x : Int => .int .i64 x) (.fn F.mean_runner_tasks_c1 [] [.fp [.fm (w.tasks.map (.int .i64)) (w.tasks.map fun _ => .bool true)] 0,.fp [.fp [.fz (p.nodes.map BNode.enc),.fz (p.funs.map (.int .i64)),.int .i64 p.main,.fz (p.cons.map BCon.enc),.fz (w.objs.map MObj.enc),.fz (w.tasks.map (.int .i64)),.fz (w.outs.map MOut.enc),.fz (w.ins.map (.int .i64)),.int .i64 w.used] 0] 0]) (fun j => (w.tasks.any fun x => decide (x = j)) || !isTask (w.obj j)) ((List.range w.objs.length).map fun (i : Nat) => (i : Int)) := by
   refine ⟨fun n en hn => ?_,rfl,rfl,rfl,fun x hx en K hK => ?_⟩
   ·obtain ⟨m,rfl⟩ : ∃ m,n = m + 4 := ⟨n - 4,by omega⟩
    simp only [go_sem,qW]
   ·obtain ⟨i,hi,rfl⟩ := List.mem_map.1 hx
    simp only [go_sem,qW,(hp i (by simpa using hi)).ret]
    exact hK
  have hall := mean_all_int_pc _ _ _ (by simpa using hw.objs) ask
  have he : List.map (Val.int .i64) ((List.range w.objs.length).map fun (i : Nat) => (i : Int)) = (List.range w.objs.length).map fun (i : Nat) => Val.int .i64 i := by simp
  rw [he] at hall
  simp only [go_sem,qC,qG,qW,h1,e1,h3,e3,e6,(mean_numbers_pc _).ret,(Collect_pc _ hn).ret,sn_mp,hall.ret]
  rw [tasksB,← hI,Bool.true_and,covered,List.all_map]; rfl
theorem nodup_le : ∀ (l N : List Nat),l.Nodup → (∀ x ∈ l,x ∈ N) → l.length ≤ N.length
 | [],N,_,_ => Nat.zero_le _
 | x :: l,N,hn,hs => by
  have hx : x ∈ N := hs x (by simp)
  rw [List.nodup_cons] at hn
  have := nodup_le l (N.erase x) hn.2 fun y hy => by
   rw [List.mem_erase_of_ne (by rintro rfl; exact hn.1 hy)]
   exact hs y (by simp [hy])
  rw [List.length_erase_of_mem hx] at this
  have := List.length_pos_of_mem hx
  simp only [List.length_cons]
  omega
def taskNums (w : MWorld) : List Nat := (List.range w.objs.length).filter fun (i : Nat) => isTask (w.obj (i : Int))
theorem taskNums_len (w : MWorld) : (taskNums w).length = w.objs.countP isTask := by
 have h : w.objs = (List.range w.objs.length).map fun (i : Nat) => w.obj (i : Int) := by
  refine List.ext_getElem (by simp) fun i h1 h2 => ?_
  simp [MWorld.obj,List.getD_eq_getElem?_getD,h1]
 conv => rhs; rw [h,List.countP_map]
 rw [taskNums,List.countP_eq_length_filter]; rfl
theorem distinct_facts (w : MWorld) : ∀ (l met : List Int),distinctTasks w met l = true → (∀ x ∈ l,inR x 0 (w.objs.length - 1) = true ∧ isTask (w.obj x) = true) ∧ (l.map Int.toNat).Nodup ∧ ∀ x ∈ l,x ∉ met
 | [],met,_ => by simp
 | x :: l,met,h => by
  simp only [distinctTasks,Bool.and_eq_true] at h
  obtain ⟨⟨⟨h1,h2⟩,h3⟩,h4⟩ := h
  obtain ⟨k1,k2,k3⟩ := distinct_facts w l (met ++ [x]) h4
  have hxm : x ∉ met := by
   intro hm
   simp only [Bool.not_eq_true',List.any_eq_false] at h3
   exact absurd (h3 x hm) (by simp)
  refine ⟨fun y hy => ?_,?_,fun y hy => ?_⟩
  ·rcases List.mem_cons.1 hy with rfl | hy
   ·exact ⟨h1,h2⟩
   ·exact k1 y hy
  ·rw [List.map_cons,List.nodup_cons]
   refine ⟨fun hm => ?_,k2⟩
   obtain ⟨y,hy,he⟩ := List.mem_map.1 hm
   have a := (k1 y hy).1
   simp only [inR,decide_eq_true_eq] at a h1
   have : y = x := by omega
   subst this
   exact k3 y hy (by simp)
  ·rcases List.mem_cons.1 hy with rfl | hy
   ·exact hxm
   ·exact fun hm => k3 y hy (by simp [hm])
theorem tasks_same (w : MWorld) : tasksB w = tasksOk w := by
 unfold tasksB tasksOk
 cases hd : distinctTasks w [] w.tasks with
 | false => simp
 | true =>
  obtain ⟨k1,k2,_⟩ := distinct_facts w _ _ hd
  have hsub : ∀ x ∈ w.tasks.map Int.toNat,x ∈ taskNums w := by
   intro x hx
   obtain ⟨y,hy,rfl⟩ := List.mem_map.1 hx
   obtain ⟨a,b⟩ := k1 y hy
   have a' := a
   simp only [inR,decide_eq_true_eq] at a'
   refine List.mem_filter.2 ⟨List.mem_range.2 (by omega),?_⟩
   rw [Int.toNat_of_nonneg a'.1]; exact b
  have hle := nodup_le _ _ k2 hsub
  rw [taskNums_len,List.length_map] at hle
  simp only [Bool.true_and,Bool.and_true]
  have hcov : covered w w.tasks = true ↔ ∀ x ∈ taskNums w,x ∈ w.tasks.map Int.toNat := by
   simp only [covered,List.all_eq_true,List.mem_range,Bool.or_eq_true,Bool.not_eq_true',taskNums,List.mem_filter,List.any_eq_true,decide_eq_true_eq]
   constructor
   ·rintro h x ⟨hx,ht⟩
    rcases h x hx with ⟨y,hy,he⟩ | hf
    ·exact List.mem_map.2 ⟨y,hy,by omega⟩
    ·rw [ht] at hf; cases hf
   ·intro h x hx
    cases ht : isTask (w.obj (x : Int)) with
    | false => exact .inr rfl
    | true =>
     obtain ⟨y,hy,he⟩ := List.mem_map.1 (h x ⟨hx,ht⟩)
     have a := (k1 y hy).1
     simp only [inR,decide_eq_true_eq] at a
     exact .inl ⟨y,hy,by omega⟩
  rw [Bool.eq_iff_iff,hcov,decide_eq_true_eq]
  constructor
  ·intro h
   have hN : (taskNums w).Nodup := List.Pairwise.filter _ List.nodup_range
   have := nodup_le _ _ hN h
   rw [taskNums_len,List.length_map] at this
   omega
  ·intro he x hx
   by_cases hm : x ∈ w.tasks.map Int.toNat
   ·exact hm
   ·exfalso
    have := nodup_le (x :: w.tasks.map Int.toNat) (taskNums w) (List.nodup_cons.2 ⟨hm,k2⟩) fun y hy => by
     rcases List.mem_cons.1 hy with rfl | hy
     ·exact hx
     ·exact hsub y hy
    rw [taskNums_len,List.length_cons,List.length_map] at this
    omega
def worldB (p : BProg) (w : MWorld) : Bool :=
 decide ((w.objs.length : Int) ≤ 120) && w.objs.all (objB p w) && tasksB w && decide ((w.outs.length : Int) ≤ 100) && w.outs.all outOk && intsOk w.ins 50 && inR w.used 0 1000000000
theorem mean_runner_world_pc (p : BProg) (w : MWorld) (hp : p.few) (hw : w.few) : PC L F.mean_runner_world [.fp [.fz (p.nodes.map BNode.enc),.fz (p.funs.map (.int .i64)),.int .i64 p.main,.fz (p.cons.map BCon.enc),.fz (w.objs.map MObj.enc),.fz (w.tasks.map (.int .i64)),.fz (w.outs.map MOut.enc),.fz (w.ins.map (.int .i64)),.int .i64 w.used] 0] (.bool (worldB p w)) := by
 have ask : AsksT L (fun x : MObj => .agg [.int .i64 x.form,.int .i64 x.n,.fz (x.vals.map MVal.enc),.fz (x.frames.map MFrame.enc)]) (.fn F.mean_runner_object [.fp [.fz (p.nodes.map BNode.enc),.fz (p.funs.map (.int .i64)),.int .i64 p.main,.fz (p.cons.map BCon.enc),.fz (w.objs.map MObj.enc),.fz (w.tasks.map (.int .i64)),.fz (w.outs.map MOut.enc),.fz (w.ins.map (.int .i64)),.int .i64 w.used] 0] []) (objB p w) w.objs := by
  refine ⟨fun n en hn => ?_,rfl,rfl,rfl,fun x hx en K hK => ?_⟩
  ·obtain ⟨m,rfl⟩ : ∃ m,n = m + 4 := ⟨n - 4,by omega⟩
   simp only [go_sem,qW]
  ·simp only [go_sem,qW,(mean_runner_object_pc p w x hp hw (hw.obj x hx)).ret]
   exact hK
 have ask2 : AsksT L (fun x : MOut => .agg [.int .i64 x.port,.int .i64 x.n]) (.fn F.mean_runner_world_c1 [] []) outOk w.outs := by
  refine ⟨fun n en hn => ?_,rfl,rfl,rfl,fun x hx en K hK => ?_⟩
  ·obtain ⟨m,rfl⟩ : ∃ m,n = m + 4 := ⟨n - 4,by omega⟩
   simp only [go_sem,qW]
  ·simp only [go_sem,qW,(mean_runner_world_c1_pc x).ret]
   exact hK
 refine pc_of LF.mean_runner_world rfl rfl ?_
 simp only [go_sem,qC,qG,qW,C.mean_runner_world]
 refine guardK_split (fun h1 => ?_) (fun h1 => ?_)
 ·have hn : w.objs.length ≤ 1000 := by simp at h1; omega
  have ht := mean_runner_tasks_pc p w hw hn
  simp only [go_sem,qC,qG,qW,h1,(mean_all_api_MeanObj_pc _ _ _ hw.objs ask).ret]
  refine guardK_split (fun h2 => ?_) (fun h2 => ?_)
  ·simp only [go_sem,qC,qG,qW,h2,ht.ret]
   refine guardK_split (fun h3 => ?_) (fun h3 => ?_)
   ·simp only [go_sem,qC,qG,qW,h3]
    refine guardK_split (fun h4 => ?_) (fun h4 => ?_)
    ·simp only [go_sem,qC,qG,qW,h4,(mean_all_api_MeanOut_pc _ _ _ hw.outs ask2).ret]
     refine guardK_split (fun h5 => ?_) (fun h5 => ?_)
     ·simp only [go_sem,qC,qG,qW,h5,(mean_inputs_pc _ hw.ins).ret]
      refine guardK_split (fun h6 => ?_) (fun h6 => ?_)
      ·simp only [go_sem,qC,qG,qW,h6,(mean_within_pc _ _ _).ret]
       simp only [worldB,h1,h2,h3,h4,h5,h6,Bool.true_and]
      ·simp only [go_sem,qC,qG,qW,h6,Bool.not_true]
       simp only [worldB,h1,h2,h3,h4,h5,h6,Bool.not_true,Bool.true_and,Bool.false_and]
     ·simp only [go_sem,qC,qG,qW,h5,Bool.not_true]
      simp only [worldB,h1,h2,h3,h4,h5,Bool.not_true,Bool.true_and,Bool.false_and,Bool.and_false]
    ·simp only [go_sem,qC,qG,qW,h4,Bool.not_true]
     simp only [worldB,h1,h2,h3,h4,Bool.not_true,Bool.true_and,Bool.false_and,Bool.and_false]
   ·simp only [go_sem,qC,qG,qW,h3,Bool.not_true]
    simp only [worldB,h1,h2,h3,Bool.not_true,Bool.true_and,Bool.false_and,Bool.and_false]
  ·simp only [go_sem,qC,qG,qW,h2,Bool.not_true]
   simp only [worldB,h1,h2,Bool.not_true,Bool.true_and,Bool.false_and,Bool.and_false]
 ·simp only [go_sem,qC,qG,qW,h1,Bool.not_true]
  simp only [worldB,h1,Bool.not_true,Bool.true_and,Bool.false_and,Bool.and_false]
theorem formed_args {p : BProg} (h : formedOk p = true) : ∀ c ∈ p.cons,c.args ≤ 3 := by
 intro c hc
 simp only [formedOk,consOk,Bool.and_eq_true] at h
 have := List.all_eq_true.1 h.1.2.1.1 c hc
 simp only [conOk,inR,Bool.and_eq_true,decide_eq_true_eq] at this
 omega
theorem world_same (p : BProg) (w : MWorld) (h : formedOk p = true) : worldB p w = worldOk p w := by
 have : w.objs.all (objB p w) = w.objs.all (objOk p w) := by
  congr 1; funext o; exact obj_same p w o (formed_args h)
 simp only [worldB,worldOk,this,tasks_same]
 ac_rfl
theorem mean_Check_pc (p : BProg) (w : MWorld) (hp : p.few) (hw : w.few) (hs : smallProg p = true) : PC L F.mean_Check [.agg [.fz (p.nodes.map BNode.enc),.fz (p.funs.map (.int .i64)),.int .i64 p.main,.fz (p.cons.map BCon.enc)],.agg [.fz (w.objs.map MObj.enc),.fz (w.tasks.map (.int .i64)),.fz (w.outs.map MOut.enc),.fz (w.ins.map (.int .i64)),.int .i64 w.used]] (.int .i64 (if given p w then 0 else 2)) := by
 have hrun : ∃ r,PC L F.mean_running [.agg [.fz (p.nodes.map BNode.enc),.fz (p.funs.map (.int .i64)),.int .i64 p.main,.fz (p.cons.map BCon.enc)],.agg [.fz (w.objs.map MObj.enc),.fz (w.tasks.map (.int .i64)),.fz (w.outs.map MOut.enc),.fz (w.ins.map (.int .i64)),.int .i64 w.used]] (.tup [r,.bool (given p w)]) ∧ isOwnV r = false ∧ (∀ n en,6 ≤ n → snapD n en r = some (r,[])) := by
  cases hf : formedOk p with
  | false =>
   refine ⟨.nilp,?_,rfl,fun n en hn => ?_⟩
   ·refine pc_of LF.mean_running rfl rfl ?_
    have hb := bind_Check_pc p hp hs
    rw [hf] at hb
    simp only [go_sem,qC,qG,qW,C.mean_running,hb.ret]
    simp [given,hf]
   ·obtain ⟨m,rfl⟩ : ∃ m,n = m + 1 := ⟨n - 1,by omega⟩
    rfl
  | true =>
   refine ⟨.fp [.fz (p.nodes.map BNode.enc),.fz (p.funs.map (.int .i64)),.int .i64 p.main,.fz (p.cons.map BCon.enc),.fz (w.objs.map MObj.enc),.fz (w.tasks.map (.int .i64)),.fz (w.outs.map MOut.enc),.fz (w.ins.map (.int .i64)),.int .i64 w.used] 0,?_,rfl,fun n en hn => ?_⟩
   ·refine pc_of LF.mean_running rfl rfl ?_
    have hb := bind_Check_pc p hp hs
    rw [hf] at hb
    simp only [go_sem,qC,qG,qW,C.mean_running,hb.ret,(mean_runner_world_pc p w hp hw).ret]
    rw [world_same p w hf]
    simp [given,hf]
   ·obtain ⟨m,rfl⟩ : ∃ m,n = m + 1 := ⟨n - 1,by omega⟩
    rfl
 obtain ⟨r,hr,hr1,hr2⟩ := hrun
 refine pc_of LF.mean_Check rfl rfl ?_
 simp only [go_sem,qC,qG,qW,C.mean_Check,hr.ret]
 cases hg : given p w <;> simp only [go_sem,qC,qG,qW,hg,Bool.not_true,Bool.not_false]
theorem eq_step {α : Type} {a b : List α} {k : Nat} (ha : k < a.length) (hb : k < b.length) (h : a.take k = b.take k) (he : a[k] = b[k]) : a.take (k + 1) = b.take (k + 1) := by
 rw [take_step ha,take_step hb,h,he]
theorem eq_full {α : Type} {a b : List α} (hl : a.length = b.length) (h : a.take a.length = b.take a.length) : a = b := by
 rw [List.take_length,hl,List.take_length] at h; exact h
theorem ne_at {α : Type} {a b : List α} {k : Nat} (ha : k < a.length) (hb : k < b.length) (h : ¬ a[k] = b[k]) : ¬ a = b := by
 rintro rfl; exact h rfl
theorem R06_SameInts_pc (a b : List Int) (ha : Few a.length) : PC L F.R06_SameInts [.fz (a.map (.int .i64)),.fz (b.map (.int .i64))] (.bool (decide (a = b))) := by
 refine pc_of LF.R06_SameInts rfl rfl ?_
 simp only [go_sem,qC,qG,qW,C.R06_SameInts]
 refine condK_split (fun h => ?_) (fun h => ?_)
 ·simp only [go_sem,qC,qG,qW]
  simp at h
  have : ¬ a = b := by rintro rfl; exact h rfl
  simp [this]
 ·have hl : a.length = b.length := by simp at h; exact h
  simp only [go_sem,qC,qG,qW]
  refine wp_for (a.length) (fun k st => ∃ fr en cnt,st = ⟨fr,en,cnt⟩ ∧ (fr 0 = .fz (a.map (.int .i64))) ∧ (fr 1 = .fz (b.map (.int .i64))) ∧ (fr 5 = .int .i64 k) ∧ (a.take k = b.take k)) 0 (Nat.zero_le _) ⟨_,_,_,rfl,(by first | (simp only [go_sem,qW]; (try rfl); done) | rfl | simp),(by first | (simp only [go_sem,qW]; (try rfl); done) | rfl | simp),(by first | (simp only [go_sem,qW]; (try rfl); done) | rfl | simp),(by first | (simp only [go_sem,qW]; (try rfl); done) | rfl | simp)⟩ ?_
  rintro k st hk ⟨fr,en,cnt,rfl,h0,h1,h5,hI⟩
  simp only [go_sem,qC,qG,qW,h0,h1,h5]
  refine condK_split (fun hq => ?_) (fun hq => ?_)
  ·have h' : k < a.length := of_decide_eq_true hq
   have h'' : k < b.length := by omega
   simp only [go_sem,qC,qG,qW,h',h'',h0,h1,h5]
   refine condK_split (fun hb => ?_) (fun hb => ?_)
   ·simp only [go_sem,qC,qG,qW]
    simp at hb
    simp [ne_at h' h'' hb]
   ·simp only [go_sem,qC,qG,qW,h',h0,h1,h5]
    simp at hb
    refine ⟨_,_,_,rfl,?_⟩
    simp only [go_sem,qW,h0,h1,h5,wrap_succ h' ha]
    exact eq_step h' h'' hI hb
  ·have : k = a.length := by simp at hq; omega
   subst this
   simp only [go_sem,qC,qG,qW]
   simp [eq_full hl hI]
theorem MVal.eq_iff {a b : MVal} : (decide (a.kind = b.kind) && decide (a.n = b.n)) = decide (a = b) := by
 cases a; cases b; simp
theorem MOut.eq_iff {a b : MOut} : (decide (a.port = b.port) && decide (a.n = b.n)) = decide (a = b) := by
 cases a; cases b; simp
theorem R06_SameVals_pc (a b : List MVal) (ha : Few a.length) : PC L F.R06_SameVals [.fz (a.map MVal.enc),.fz (b.map MVal.enc)] (.bool (decide (a = b))) := by
 refine pc_of LF.R06_SameVals rfl rfl ?_
 simp only [go_sem,qC,qG,qW,C.R06_SameVals]
 refine condK_split (fun h => ?_) (fun h => ?_)
 ·simp only [go_sem,qC,qG,qW]
  simp at h
  have : ¬ a = b := by rintro rfl; exact h rfl
  simp [this]
 ·have hl : a.length = b.length := by simp at h; exact h
  simp only [go_sem,qC,qG,qW]
  refine wp_for (a.length) (fun k st => ∃ fr en cnt,st = ⟨fr,en,cnt⟩ ∧ (fr 0 = .fz (a.map MVal.enc)) ∧ (fr 1 = .fz (b.map MVal.enc)) ∧ (fr 5 = .int .i64 k) ∧ (a.take k = b.take k)) 0 (Nat.zero_le _) ⟨_,_,_,rfl,(by first | (simp only [go_sem,qW]; (try rfl); done) | rfl | simp),(by first | (simp only [go_sem,qW]; (try rfl); done) | rfl | simp),(by first | (simp only [go_sem,qW]; (try rfl); done) | rfl | simp),(by first | (simp only [go_sem,qW]; (try rfl); done) | rfl | simp)⟩ ?_
  rintro k st hk ⟨fr,en,cnt,rfl,h0,h1,h5,hI⟩
  simp only [go_sem,qC,qG,qW,h0,h1,h5]
  refine condK_split (fun hq => ?_) (fun hq => ?_)
  ·have h' : k < a.length := of_decide_eq_true hq
   have h'' : k < b.length := by omega
   simp only [go_sem,qC,qG,qW,h',h'',h0,h1,h5,MVal.eq_iff]
   refine condK_split (fun hb => ?_) (fun hb => ?_)
   ·simp only [go_sem,qC,qG,qW]
    simp at hb
    simp [ne_at h' h'' hb]
   ·simp only [go_sem,qC,qG,qW,h',h0,h1,h5]
    simp at hb
    refine ⟨_,_,_,rfl,?_⟩
    simp only [go_sem,qW,h0,h1,h5,wrap_succ h' ha]
    exact eq_step h' h'' hI hb
  ·have : k = a.length := by simp at hq; omega
   subst this
   simp only [go_sem,qC,qG,qW]
   simp [eq_full hl hI]
theorem R06_SameOuts_pc (a b : List MOut) (ha : Few a.length) : PC L F.R06_SameOuts [.fz (a.map MOut.enc),.fz (b.map MOut.enc)] (.bool (decide (a = b))) := by
 refine pc_of LF.R06_SameOuts rfl rfl ?_
 simp only [go_sem,qC,qG,qW,C.R06_SameOuts]
 refine condK_split (fun h => ?_) (fun h => ?_)
 ·simp only [go_sem,qC,qG,qW]
  simp at h
  have : ¬ a = b := by rintro rfl; exact h rfl
  simp [this]
 ·have hl : a.length = b.length := by simp at h; exact h
  simp only [go_sem,qC,qG,qW]
  refine wp_for (a.length) (fun k st => ∃ fr en cnt,st = ⟨fr,en,cnt⟩ ∧ (fr 0 = .fz (a.map MOut.enc)) ∧ (fr 1 = .fz (b.map MOut.enc)) ∧ (fr 5 = .int .i64 k) ∧ (a.take k = b.take k)) 0 (Nat.zero_le _) ⟨_,_,_,rfl,(by first | (simp only [go_sem,qW]; (try rfl); done) | rfl | simp),(by first | (simp only [go_sem,qW]; (try rfl); done) | rfl | simp),(by first | (simp only [go_sem,qW]; (try rfl); done) | rfl | simp),(by first | (simp only [go_sem,qW]; (try rfl); done) | rfl | simp)⟩ ?_
  rintro k st hk ⟨fr,en,cnt,rfl,h0,h1,h5,hI⟩
  simp only [go_sem,qC,qG,qW,h0,h1,h5]
  refine condK_split (fun hq => ?_) (fun hq => ?_)
  ·have h' : k < a.length := of_decide_eq_true hq
   have h'' : k < b.length := by omega
   simp only [go_sem,qC,qG,qW,h',h'',h0,h1,h5,MOut.eq_iff]
   refine condK_split (fun hb => ?_) (fun hb => ?_)
   ·simp only [go_sem,qC,qG,qW]
    simp at hb
    simp [ne_at h' h'' hb]
   ·simp only [go_sem,qC,qG,qW,h',h0,h1,h5]
    simp at hb
    refine ⟨_,_,_,rfl,?_⟩
    simp only [go_sem,qW,h0,h1,h5,wrap_succ h' ha]
    exact eq_step h' h'' hI hb
  ·have : k = a.length := by simp at hq; omega
   subst this
   simp only [go_sem,qC,qG,qW]
   simp [eq_full hl hI]
theorem R06_SameObj_pc (a b : MObj) (ha : a.few) : PC L F.R06_SameObj [.agg [.int .i64 a.form,.int .i64 a.n,.fz (a.vals.map MVal.enc),.fz (a.frames.map MFrame.enc)],.agg [.int .i64 b.form,.int .i64 b.n,.fz (b.vals.map MVal.enc),.fz (b.frames.map MFrame.enc)]] (.bool (decide (a = b))) := by
 have ne : (¬ a.form = b.form ∨ ¬ a.n = b.n ∨ ¬ a.vals = b.vals ∨ ¬ a.frames = b.frames) → Val.bool false = Val.bool (decide (a = b)) := by
  intro h
  have : ¬ a = b := by rintro rfl; simp at h
  simp [this]
 refine pc_of LF.R06_SameObj rfl rfl ?_
 simp only [go_sem,qC,qG,qW,C.R06_SameObj]
 refine guardK_split (fun g1 => ?_) (fun g1 => ?_)
 ·simp only [go_sem,qC,qG,qW,g1]
  refine guardK_split (fun g2 => ?_) (fun g2 => ?_)
  ·simp only [go_sem,qC,qG,qW,g1,g2,(R06_SameVals_pc _ _ ha.1).ret]
   refine guardK_split (fun g3 => ?_) (fun g3 => ?_)
   ·simp only [go_sem,qC,qG,qW,g1,g2,g3]
    refine condK_split (fun g4 => ?_) (fun g4 => ?_)
    ·simp only [go_sem,qC,qG,qW]
     simp at g4
     exact ne (.inr (.inr (.inr (by intro e; rw [e] at g4; exact g4 rfl))))
    ·have hl : a.frames.length = b.frames.length := by simp at g4; exact g4
     simp only [go_sem,qC,qG,qW]
     refine wp_for (a.frames.length) (fun k st => ∃ fr en cnt,st = ⟨fr,en,cnt⟩ ∧ (fr 2 = .ptr ⟨0,2,0⟩ 0) ∧ (en ⟨0,2,0⟩ = some (.box [.int .i64 a.form,.int .i64 a.n,.fz (a.vals.map MVal.enc),.fz (a.frames.map MFrame.enc)] false)) ∧ (fr 3 = .ptr ⟨0,3,0⟩ 0) ∧ (en ⟨0,3,0⟩ = some (.box [.int .i64 b.form,.int .i64 b.n,.fz (b.vals.map MVal.enc),.fz (b.frames.map MFrame.enc)] false)) ∧ (fr 5 = .int .i64 k) ∧ (a.frames.take k = b.frames.take k)) 0 (Nat.zero_le _) ⟨_,_,_,rfl,(by first | (simp only [go_sem,qW]; (try rfl); done) | rfl | simp),(by first | (simp only [go_sem,qW]; (try rfl); done) | rfl | simp),(by first | (simp only [go_sem,qW]; (try rfl); done) | rfl | simp),(by first | (simp only [go_sem,qW]; (try rfl); done) | rfl | simp),(by first | (simp only [go_sem,qW]; (try rfl); done) | rfl | simp),(by first | (simp only [go_sem,qW]; (try rfl); done) | rfl | simp)⟩ ?_
     rintro k st hk ⟨fr,en,cnt,rfl,h2,e2,h3,e3,h5,hI⟩
     simp only [go_sem,qC,qG,qW,h2,e2,h3,e3,h5]
     refine condK_split (fun hq => ?_) (fun hq => ?_)
     ·have h' : k < a.frames.length := of_decide_eq_true hq
      have h'' : k < b.frames.length := by omega
      have hx := ha.2.2 a.frames[k] (List.getElem_mem _)
      simp only [go_sem,qC,qG,qW]
      refine wp_foot ?_
      simp only [go_sem,qC,qG,qW,h',h'',h2,e2,h3,e3,h5,List.all_cons,List.getElem?_cons_zero,List.getElem?_cons_succ,Bool.true_or,Bool.or_true]
      have fin : ¬ a.frames[k] = b.frames[k] → Val.bool false = Val.bool (decide (a = b)) := fun h => ne (.inr (.inr (.inr (ne_at h' h'' h))))
      refine guardK_split (fun g5 => ?_) (fun g5 => ?_)
      ·simp only [go_sem,qC,qG,qW,g5,(R06_SameVals_pc _ _ hx.1).ret]
       refine guardK_split (fun g6 => ?_) (fun g6 => ?_)
       ·simp only [go_sem,qC,qG,qW,g6,(R06_SameVals_pc _ _ hx.2).ret]
        refine condK_split (fun g7 => ?_) (fun g7 => ?_)
        ·simp only [go_sem,qC,qG,qW]
         simp at g7
         exact fin fun e => g7 (by rw [e])
        ·simp only [go_sem,qC,qG,qW,h',h2,e2,h3,e3,h5]
         simp at g5 g6 g7
         refine ⟨_,_,_,rfl,?_⟩
         simp only [go_sem,qW,h2,e2,h3,e3,h5,wrap_succ h' ha.2.1]
         refine eq_step h' h'' hI ?_
         generalize a.frames[k] = x at *
         generalize b.frames[k] = y at *
         cases x; cases y; simp only at g5 g6 g7; subst g5 g6 g7; rfl
       ·simp only [go_sem,qC,qG,qW,g6,Bool.not_false]
        simp at g6
        exact fin fun e => g6 (by rw [e])
      ·simp only [go_sem,qC,qG,qW,g5,Bool.not_false]
       simp at g5
       exact fin fun e => g5 (by rw [e])
     ·have : k = a.frames.length := by simp at hq; omega
      subst this
      simp only [go_sem,qC,qG,qW]
      simp at g1 g2 g3
      have : a = b := by
       have hf := eq_full hl hI
       cases a; cases b; simp only at g1 g2 g3 hf; subst g1 g2 g3 hf; rfl
      simp [this]
   ·simp only [go_sem,qC,qG,qW,g3,Bool.not_false]
    simp at g3
    exact ne (.inr (.inr (.inl g3)))
  ·simp only [go_sem,qC,qG,qW,g2,Bool.not_false]
   simp at g2
   exact ne (.inr (.inl g2))
 ·simp only [go_sem,qC,qG,qW,g1,Bool.not_false]
  simp at g1
  exact ne (.inl g1)
theorem R06_Same_pc (a b : MWorld) (ha : a.few) : PC L F.R06_Same [.agg [.fz (a.objs.map MObj.enc),.fz (a.tasks.map (.int .i64)),.fz (a.outs.map MOut.enc),.fz (a.ins.map (.int .i64)),.int .i64 a.used],.agg [.fz (b.objs.map MObj.enc),.fz (b.tasks.map (.int .i64)),.fz (b.outs.map MOut.enc),.fz (b.ins.map (.int .i64)),.int .i64 b.used]] (.bool (decide (a = b))) := by
 have ne : (¬ a.objs = b.objs ∨ ¬ a.tasks = b.tasks ∨ ¬ a.outs = b.outs ∨ ¬ a.ins = b.ins ∨ ¬ a.used = b.used) → Val.bool false = Val.bool (decide (a = b)) := by
  intro h
  have : ¬ a = b := by rintro rfl; simp at h
  simp [this]
 refine pc_of LF.R06_Same rfl rfl ?_
 simp only [go_sem,qC,qG,qW,C.R06_Same]
 refine guardK_split (fun g1 => ?_) (fun g1 => ?_)
 ·simp only [go_sem,qC,qG,qW,g1,(R06_SameInts_pc _ _ ha.tasks).ret]
  refine guardK_split (fun g2 => ?_) (fun g2 => ?_)
  ·simp only [go_sem,qC,qG,qW,g2,(R06_SameOuts_pc _ _ ha.outs).ret]
   refine guardK_split (fun g3 => ?_) (fun g3 => ?_)
   ·simp only [go_sem,qC,qG,qW,g3,(R06_SameInts_pc _ _ ha.ins).ret]
    refine guardK_split (fun g4 => ?_) (fun g4 => ?_)
    ·simp only [go_sem,qC,qG,qW,g4]
     refine condK_split (fun g5 => ?_) (fun g5 => ?_)
     ·simp only [go_sem,qC,qG,qW]
      simp at g5
      exact ne (.inr (.inr (.inr (.inr g5))))
     ·have hl : a.objs.length = b.objs.length := by simp at g1; exact g1
      simp only [go_sem,qC,qG,qW]
      refine wp_for (a.objs.length) (fun k st => ∃ fr en cnt,st = ⟨fr,en,cnt⟩ ∧ (fr 2 = .ptr ⟨0,2,0⟩ 0) ∧ (en ⟨0,2,0⟩ = some (.box a.cells false)) ∧ (fr 3 = .ptr ⟨0,3,0⟩ 0) ∧ (en ⟨0,3,0⟩ = some (.box b.cells false)) ∧ (fr 5 = .int .i64 k) ∧ (a.objs.take k = b.objs.take k)) 0 (Nat.zero_le _) ⟨_,_,_,rfl,(by first | (simp only [go_sem,qW]; (try rfl); done) | rfl | simp),(by first | (simp only [go_sem,qW]; (try rfl); done) | rfl | simp),(by first | (simp only [go_sem,qW]; (try rfl); done) | rfl | simp),(by first | (simp only [go_sem,qW]; (try rfl); done) | rfl | simp),(by first | (simp only [go_sem,qW]; (try rfl); done) | rfl | simp),(by first | (simp only [go_sem,qW]; (try rfl); done) | rfl | simp)⟩ ?_
      rintro k st hk ⟨fr,en,cnt,rfl,h2,e2,h3,e3,h5,hI⟩
      simp only [go_sem,qC,qG,qW,h2,e2,h3,e3,h5]
      refine condK_split (fun hq => ?_) (fun hq => ?_)
      ·have h' : k < a.objs.length := of_decide_eq_true hq
       have h'' : k < b.objs.length := by omega
       simp only [go_sem,qC,qG,qW,h',h'',h2,e2,h3,e3,h5,(R06_SameObj_pc _ _ (ha.obj _ (List.getElem_mem h'))).ret]
       refine condK_split (fun g6 => ?_) (fun g6 => ?_)
       ·simp only [go_sem,qC,qG,qW]
        simp at g6
        exact ne (.inl (ne_at h' h'' g6))
       ·simp only [go_sem,qC,qG,qW,h',h2,e2,h3,e3,h5]
        simp at g6
        refine ⟨_,_,_,rfl,?_⟩
        simp only [go_sem,qW,h2,e2,h3,e3,h5,wrap_succ h' ha.objs]
        exact eq_step h' h'' hI g6
      ·have : k = a.objs.length := by simp at hq; omega
       subst this
       simp only [go_sem,qC,qG,qW]
       simp at g2 g3 g4 g5
       have : a = b := by
        have hf := eq_full hl hI
        cases a; cases b; simp only at g2 g3 g4 g5 hf; subst g2 g3 g4 g5 hf; rfl
       simp [this]
    ·simp only [go_sem,qC,qG,qW,g4,Bool.not_false]
     simp at g4
     exact ne (.inr (.inr (.inr (.inl g4))))
   ·simp only [go_sem,qC,qG,qW,g3,Bool.not_false]
    simp at g3
    exact ne (.inr (.inr (.inl g3)))
  ·simp only [go_sem,qC,qG,qW,g2,Bool.not_false]
   simp at g2
   exact ne (.inr (.inl g2))
 ·simp only [go_sem,qC,qG,qW,g1,Bool.not_false]
  simp at g1
  exact ne (.inl fun e => g1 (by rw [e]))
theorem R18_in_pc' (n lo hi : Int) : PC L F.R18_in [.int .i64 n,.int .i64 lo,.int .i64 hi] (.bool (inR n lo hi)) := by
 refine pc_of LF.R18_in rfl rfl ?_
 simp only [go_sem,qW,C.R18_in]
 refine guard_split (fun h => ?_) (fun h => ?_) <;> simp only [go_sem,qW,h] <;> simp at h <;> simp [h,inR]
 omega
theorem R18_listed_pc (l : List Int) (n : Int) (hl : Few l.length) : PC L F.R18_listed [.fz (l.map (.int .i64)),.int .i64 n] (.bool (l.any fun x => decide (x = n))) := by
 refine pc_of LF.R18_listed rfl rfl ?_
 simp only [go_sem,qC,qG,qW,C.R18_listed]
 refine wp_for (l.length) (fun k st => ∃ fr en cnt,st = ⟨fr,en,cnt⟩ ∧ (fr 0 = .fz (l.map (.int .i64))) ∧ (fr 1 = .int .i64 n) ∧ (fr 5 = .int .i64 k) ∧ ((l.drop k).any (fun x => decide (x = n)) = l.any fun x => decide (x = n))) 0 (Nat.zero_le _) ⟨_,_,_,rfl,(by first | (simp only [go_sem,qW]; (try rfl); done) | rfl | simp),(by first | (simp only [go_sem,qW]; (try rfl); done) | rfl | simp),(by first | (simp only [go_sem,qW]; (try rfl); done) | rfl | simp),(by first | (simp only [go_sem,qW]; (try rfl); done) | rfl | simp)⟩ ?_
 rintro k st hk ⟨fr,en,cnt,rfl,h0,h1,h5,hI⟩
 simp only [go_sem,qC,qG,qW,h0,h1,h5]
 refine condK_split (fun h => ?_) (fun h => ?_)
 ·have h' : k < l.length := of_decide_eq_true h
  rw [any_step h'] at hI
  simp only [go_sem,qC,qG,qW,h',h0,h1,h5]
  refine condK_split (fun h2 => ?_) (fun h2 => ?_)
  ·simp only [go_sem,qC,qG,qW]
   rw [← hI,h2]; rfl
  ·simp only [go_sem,qC,qG,qW,h',h0,h1,h5]
   refine ⟨_,_,_,rfl,?_⟩
   simp only [go_sem,qW,h0,h1,h5,wrap_succ h' hl]
   rw [← hI,h2]; simp
 ·have : k = l.length := by simp at h; omega
  subst this
  simp only [go_sem,qC,qG,qW]
  rw [← hI]; simp
theorem R18_task_pc (w : MWorld) (i : Nat) (hi : i < w.objs.length) : PC L F.R18_task [.agg [.fz (w.objs.map MObj.enc),.fz (w.tasks.map (.int .i64)),.fz (w.outs.map MOut.enc),.fz (w.ins.map (.int .i64)),.int .i64 w.used],.int .i64 i] (.bool (isTask (w.obj i))) := by
 have hin : inR (i : Int) 0 (w.objs.length - 1) = true := by simp [inR]; omega
 refine pc_of LF.R18_task rfl rfl ?_
 simp only [go_sem,qC,qG,qW,C.R18_task,ia_obj,hin]
 simp [isTask]
theorem R18_full_pc (c : Int) : PC L F.R18_full [.int .i64 c] (.bool (decide (c = 3))) := by
 refine pc_of LF.R18_full rfl rfl ?_
 simp only [go_sem,qC,qG,qW,C.R18_full]
theorem R18_World_pc (p : BProg) (w : MWorld) (hp : p.few) (hw : w.few) (hc : p.cons.length ≤ 1000) : PC L F.R18_World [.agg [.fz (p.nodes.map BNode.enc),.fz (p.funs.map (.int .i64)),.int .i64 p.main,.fz (p.cons.map BCon.enc)],.agg [.fz (w.objs.map MObj.enc),.fz (w.tasks.map (.int .i64)),.fz (w.outs.map MOut.enc),.fz (w.ins.map (.int .i64)),.int .i64 w.used]] (.bool (given p w)) := by
 refine pc_of LF.R18_World rfl rfl ?_
 simp only [go_sem,qC,qG,qW,C.R18_World,(R05_Formed_pc p hp hc).ret]
 refine guardK_split (fun h => ?_) (fun h => ?_) <;> simp only [go_sem,qC,qG,qW,h,(R06_World_pc p w hp hw).ret] <;> simp [given,h]
theorem R18_SmallState_pc (s : RState) (hs : s.few) : PC L F.R18_SmallState [.agg [.fz (s.world.objs.map MObj.enc),.fz (s.world.tasks.map (.int .i64)),.fz (s.world.outs.map MOut.enc),.fz (s.world.ins.map (.int .i64)),.int .i64 s.world.used,.fz (s.ages.map (.int .i64)),.fz (s.marks.map (.int .i64)),.int .i64 s.cycle]] (.bool (smallState s)) := by
 refine pc_of LF.R18_SmallState rfl rfl ?_
 simp only [go_sem,qC,qG,qW,C.R18_SmallState,(R06_SmallWorld_pc s.world hs.1).ret]
 refine guardK_split (fun g1 => ?_) (fun g1 => ?_)
 ·simp only [go_sem,qC,qG,qW,g1]
  refine guardK_split (fun g2 => ?_) (fun g2 => ?_) <;> simp only [go_sem,qC,qG,qW,g2,Bool.not_true] <;> simp only [smallState,g1,g2,Bool.not_true,Bool.true_and,Bool.false_and]
 ·simp only [go_sem,qC,qG,qW,g1,Bool.not_true]
  simp only [smallState,g1,Bool.not_true,Bool.false_and]
def isRef (v : MVal) : Bool := decide (v.kind = 5)
def refVals (l : List MVal) : List Int := (l.filter isRef).map MVal.n
theorem refVals_t {x : MVal} {l : List MVal} (h : isRef x = true) : refVals (x :: l) = x.n :: refVals l := by simp [refVals,h]
theorem refVals_f {x : MVal} {l : List MVal} (h : isRef x = false) : refVals (x :: l) = refVals l := by simp [refVals,h]
def frameRefs (f : MFrame) : List Int := refVals f.env ++ refVals f.vals
def refsOf (o : MObj) : List Int := refVals o.vals ++ o.frames.flatMap frameRefs
theorem reap_refs_pc (o : MObj) : PC L F.reap_refs [.agg [.int .i64 o.form,.int .i64 o.n,.fz (o.vals.map MVal.enc),.fz (o.frames.map MFrame.enc)]] (.fn F.reap_refs_c1 [] [.fp [.int .i64 o.form,.int .i64 o.n,.fz (o.vals.map MVal.enc),.fz (o.frames.map MFrame.enc)] 0]) := by
 refine pc_of LF.reap_refs rfl rfl ?_
 simp only [go_sem,qC,qG,qW,C.reap_refs]
def T4 : List Nat := [2,3,5,6]
def Outside (c0 : Nat → Nat) (en en' : En) : Prop := ∀ n t g,(n ≠ 0 ∨ t ∉ T4 ∨ g < c0 t) → en' ⟨n,t,g⟩ = en ⟨n,t,g⟩
def Inside (c0 : Nat → Nat) (en en' : En) : Prop := ∀ t g,t ∈ T4 → c0 t ≤ g → en' ⟨0,t,g⟩ = en ⟨0,t,g⟩
structure Rounds (k : Key) (c0 : Nat → Nat) (I : List Int → En → (Nat → Nat → Nat) → Prop) (F : En → (Nat → Nat → Nat) → Prop) : Prop where
 stable : ∀ r en cnt en' cnt',I r en cnt → Outside c0 en en' → (∀ n t,t ∉ T4 → cnt' n t = cnt n t) → (∀ t ∈ T4,c0 t ≤ cnt' 0 t) → I r en' cnt'
 round : ∀ x rest en cnt,I (x :: rest) en cnt → WIn L (.yld k) [.int .i64 x] en cnt fun v en' cnt' => Inside c0 en en' ∧ (∀ t ∈ T4,cnt' 0 t = cnt 0 t) ∧ ((v = .bool true ∧ I rest en' cnt') ∨ (v = .bool false ∧ F en' cnt'))
theorem slice_cl1 {xs : List Val} {x : Val} {en : En} (hx : headOk 1 (x :: xs) = true) : opSlice false 1 en (.cl (x :: xs)) (some (.int .i64 1)) none none = some { v := .cl xs } := by
 have h1 : bound (some (.int .i64 1)) 0 (xs.length + 1) = some 1 := by
  simp only [bound]; rw [if_pos ⟨by omega,by omega⟩]; rfl
 simp [opSlice,bound_no,h1,hx]
section
variable {k : Key} {c0 : Nat → Nat} {I : List Int → En → (Nat → Nat → Nat) → Prop} {G : En → (Nat → Nat → Nat) → Prop} {a b : Nat}
structure Mid (k : Key) (c0 : Nat → Nat) (a b : Nat) (en : En) (cnt : Nat → Nat → Nat) : Prop where
 e2 : en ⟨0,2,a⟩ = some (.box [.yld k] false)
 e3 : en ⟨0,3,b⟩ = some (.box [.fn F.reap_refs_c1_c1 [] [.ptr ⟨0,2,a⟩ 0,.ptr ⟨0,3,b⟩ 0]] false)
 cnt : ∀ t ∈ T4,c0 t ≤ cnt 0 t
theorem lists_win (hr : Rounds k c0 I G) (ha : c0 2 ≤ a) (hb : c0 3 ≤ b) : ∀ (ls : List (List MVal)) (rest : List Int) (en : En) (cnt : Nat → Nat → Nat),(∀ l ∈ ls,Few l.length) → Mid k c0 a b en cnt → I (ls.flatMap refVals ++ rest) en cnt →
  WIn L (.fn F.reap_refs_c1_c1 [] [.ptr ⟨0,2,a⟩ 0,.ptr ⟨0,3,b⟩ 0]) [.cl (ls.map fun l => .fz (l.map MVal.enc))] en cnt fun v en' cnt' =>
   (v = .bool true ∧ Mid k c0 a b en' cnt' ∧ I rest en' cnt') ∨ (v = .bool false ∧ G en' cnt')
 | [],rest,en,cnt,hf,hm,hI => by
  refine win_of LF.reap_refs_c1_c1 rfl rfl ?_
  simp only [go_sem,qC,qG,qW,C.reap_refs_c1_c1]
  exact .inl ⟨hm,by simpa using hI⟩
 | l :: ls,rest,en,cnt,hf,hm,hI => by
  have hl := hf l (by simp)
  refine win_of LF.reap_refs_c1_c1 rfl rfl ?_
  simp only [go_sem,qC,qG,qW,C.reap_refs_c1_c1]
  have hz : decide ((ls.length : Int) + 1 = 0) = false := by simp; omega
  refine condK_split (fun h0 => ?_) (fun h0 => ?_)
  ·exfalso; simp at h0; omega
  ·simp only [go_sem,qC,qG,qW]
   refine wp_for l.length (fun j st => ∃ fr en cnt,st = ⟨fr,en,cnt⟩ ∧ fr 0 = .cl (.fz (l.map MVal.enc) :: ls.map fun l => .fz (l.map MVal.enc)) ∧ fr 1 = .ptr ⟨0,2,a⟩ 0 ∧ fr 2 = .ptr ⟨0,3,b⟩ 0 ∧ fr 12 = .fz (l.map MVal.enc) ∧ fr 13 = .int .i64 l.length ∧ fr 14 = .int .i64 j ∧
    Mid k c0 a b en cnt ∧ I (refVals (l.drop j) ++ (ls.flatMap refVals ++ rest)) en cnt) 0 (Nat.zero_le _) ⟨_,_,_,rfl,by simp only [go_sem,qW],by simp only [go_sem,qW],by simp only [go_sem,qW],by simp only [go_sem,qW],by simp only [go_sem,qW],by simp only [go_sem,qW],hm,by simpa using hI⟩ ?_
   rintro j st hj ⟨fr,en,cnt,rfl,f0,f1,f2,f12,f13,f14,hm,hI⟩
   simp only [go_sem,qC,qG,qW,f12,f13,f14]
   refine condK_split (fun hq => ?_) (fun hq => ?_)
   ·have h' : j < l.length := of_decide_eq_true hq
    rw [List.drop_eq_getElem_cons h'] at hI
    have hout : ∀ e : Option Ent,∀ e' : Option Ent,Outside c0 en ((en.set ⟨0,6,cnt 0 6⟩ e).set ⟨0,6,cnt 0 6⟩ e') := by
     intro e e' n t g h
     have hne : (⟨n,t,g⟩ : Key) ≠ ⟨0,6,cnt 0 6⟩ := by
      intro he; injection he with h1 h2 h3
      have := hm.cnt 6 (by decide)
      rcases h with h | h | h
      ·exact h h1
      ·exact h (by rw [h2]; decide)
      ·subst h2; omega
     rw [en_ne hne,en_ne hne]
    simp only [go_sem,qC,qG,qW,h',f0,f1,f2,f12,f13,f14]
    have st1 : ∀ e e' : Option Ent,Mid k c0 a b ((en.set ⟨0,6,cnt 0 6⟩ e).set ⟨0,6,cnt 0 6⟩ e') (setCnt cnt 0 6 (cnt 0 6 + 1)) := by
     intro e e'
     refine ⟨by simp only [go_sem,hm.e2],by simp only [go_sem,hm.e3],fun t ht => ?_⟩
     have := hm.cnt t ht
     simp only [setCnt]; split
     ·rename_i h; obtain ⟨_,rfl⟩ := h; omega
     ·exact this
    have i1 : ∀ r (e e' : Option Ent),I r en cnt → I r ((en.set ⟨0,6,cnt 0 6⟩ e).set ⟨0,6,cnt 0 6⟩ e') (setCnt cnt 0 6 (cnt 0 6 + 1)) := by
     intro r e e' h
     refine hr.stable r _ _ _ _ h (hout e e') (fun n t ht => ?_) (st1 e e').cnt
     simp only [setCnt]; split
     ·rename_i h; obtain ⟨_,rfl⟩ := h; exact absurd (by decide) ht
     ·rfl
    refine guardK_split (fun hk => ?_) (fun hk => ?_)
    ·have hx : isRef l[j] = true := hk
     rw [refVals_t hx,List.cons_append] at hI
     simp only [go_sem,qC,qG,qW,hk,f1,hm.e2]
     refine (hr.round _ _ _ _ (i1 _ _ _ hI)).mono ?_
     rintro v en' cnt' ⟨hin,hc,hv⟩
     have hm' : Mid k c0 a b en' cnt' := by
      have m1 := st1 (some (.box [.int .i64 0,.int .i64 0] false)) (some (.box [.int .i64 l[j].kind,.int .i64 l[j].n] false))
      exact ⟨by rw [hin 2 a (by decide) ha]; exact m1.e2,by rw [hin 3 b (by decide) hb]; exact m1.e3,fun t ht => by rw [hc t ht]; exact m1.cnt t ht⟩
     rcases hv with ⟨rfl,hI2⟩ | ⟨rfl,hG⟩
     ·simp only [go_sem,qC,qG,qW,hk,h',f0,f1,f2,f12,f13,f14]
      refine ⟨_,_,_,rfl,?_⟩
      simp only [go_sem,qC,qG,qW,f0,f1,f2,f12,f13,f14,wrap_succ h' hl]
      exact ⟨hm',hI2⟩
     ·simp only [go_sem,qC,qG,qW,hk]
      exact .inr hG
    ·have hx : isRef l[j] = false := by simpa [isRef] using hk
     rw [refVals_f hx] at hI
     simp only [go_sem,qC,qG,qW,hk,Bool.not_true,h',f0,f1,f2,f12,f13,f14]
     refine ⟨_,_,_,rfl,?_⟩
     simp only [go_sem,qC,qG,qW,f0,f1,f2,f12,f13,f14,wrap_succ h' hl]
     exact ⟨st1 _ _,i1 _ _ _ hI⟩
   ·have : j = l.length := by simp at hq; omega
    subst this
    rw [List.drop_length] at hI
    simp only [go_sem,qC,qG,qW,f0,f2,hm.e3,slice_cl1 (x := .fz (l.map MVal.enc)) rfl]
    refine (lists_win hr ha hb ls rest en cnt (fun x hx => hf x (by simp [hx])) hm (by simpa [refVals] using hI)).mono ?_
    rintro v en' cnt' h
    try simp only [go_sem,qC,qG,qW]
    exact h
end
theorem one_fn {f : Nat} {x y : List Val} : Val.one (.fn f x y) = true := (rfl)
theorem cells_fn {f : Nat} {x y : List Val} : Val.cells (.fn f x y) = [.fn f x y] := (rfl)
theorem ofZero_one {v : Val} : ofZero 1 [v] false = v := (rfl)
theorem out_ne {c0 : Nat → Nat} {n t g t' g' : Nat} (h : n ≠ 0 ∨ t ∉ T4 ∨ g < c0 t) (ht : t' ∈ T4) (hg : c0 t' ≤ g') : (⟨n,t,g⟩ : Key) ≠ ⟨0,t',g'⟩ := by
 intro he; injection he with h1 h2 h3
 rcases h with h | h | h
 ·exact h h1
 ·exact h (h2 ▸ ht)
 ·subst h2; omega
theorem Outside.trans {c0 : Nat → Nat} {x y z : En} (h : Outside c0 x y) (h' : Outside c0 y z) : Outside c0 x z := fun n t g k => (h' n t g k).trans (h n t g k)
theorem Mid.put {k : Key} {c0 : Nat → Nat} {a b : Nat} {en : En} {cnt : Nat → Nat → Nat} (hm : Mid k c0 a b en cnt) (e e' : Option Ent) : Mid k c0 a b ((en.set ⟨0,5,cnt 0 5⟩ e).set ⟨0,5,cnt 0 5⟩ e') (setCnt cnt 0 5 (cnt 0 5 + 1)) := by
 refine ⟨by simp only [go_sem,hm.e2],by simp only [go_sem,hm.e3],fun t ht => ?_⟩
 have := hm.cnt t ht
 simp only [setCnt]; split
 ·rename_i h; obtain ⟨_,rfl⟩ := h; omega
 ·exact this
theorem Rounds.put {k : Key} {c0 : Nat → Nat} {a b : Nat} {I : List Int → En → (Nat → Nat → Nat) → Prop} {G : En → (Nat → Nat → Nat) → Prop} (hr : Rounds k c0 I G) {en : En} {cnt : Nat → Nat → Nat} (hm : Mid k c0 a b en cnt) {r : List Int} (h : I r en cnt) (e e' : Option Ent) : I r ((en.set ⟨0,5,cnt 0 5⟩ e).set ⟨0,5,cnt 0 5⟩ e') (setCnt cnt 0 5 (cnt 0 5 + 1)) := by
 refine hr.stable r _ _ _ _ h (fun n t g h => ?_) (fun n t ht => ?_) (hm.put e e').cnt
 ·rw [en_ne (out_ne h (by decide) (hm.cnt 5 (by decide))),en_ne (out_ne h (by decide) (hm.cnt 5 (by decide)))]
 ·simp only [setCnt]; split
  ·rename_i h; obtain ⟨_,rfl⟩ := h; exact absurd (by decide) ht
  ·rfl
theorem refs_win (o : MObj) (ho : o.few) {k : Key} {en : En} {cnt : Nat → Nat → Nat} {I : List Int → En → (Nat → Nat → Nat) → Prop} {G : En → (Nat → Nat → Nat) → Prop} (hr : Rounds k (cnt 0) I G) (hI : I (refsOf o) en cnt) :
  WIn L (.fn F.reap_refs_c1 [] [.fp [.int .i64 o.form,.int .i64 o.n,.fz (o.vals.map MVal.enc),.fz (o.frames.map MFrame.enc)] 0]) [.yld k] en cnt fun _ en' cnt' => I [] en' cnt' ∨ G en' cnt' := by
 obtain ⟨c0,hc0⟩ : ∃ c0,c0 = cnt 0 := ⟨_,rfl⟩
 rw [← hc0] at hr
 obtain ⟨b,hbd⟩ : ∃ b,b = cnt 0 3 := ⟨_,rfl⟩
 obtain ⟨a,had⟩ : ∃ a,a = cnt 0 2 := ⟨_,rfl⟩
 have ha : c0 2 ≤ a := by rw [hc0,had]; exact Nat.le_refl _
 have hb : c0 3 ≤ b := by rw [hc0,hbd]; exact Nat.le_refl _
 have hI0 : I ([o.vals].flatMap refVals ++ o.frames.flatMap frameRefs) en cnt := by
  have : [o.vals].flatMap refVals ++ o.frames.flatMap frameRefs = refsOf o := by simp [refsOf]
  rw [this]; exact hI
 refine win_of LF.reap_refs_c1 rfl rfl ?_
 simp only [go_sem,qC,qG,qW,C.reap_refs_c1,box_any (v := .yld k) rfl rfl,one_fn,cells_fn,ofZero_one,← hbd,← had]
 have hcc : ∀ t ∈ T4,c0 t ≤ setCnt (setCnt cnt 0 2 (a + 1)) 0 3 (b + 1) 0 t := by
  intro t ht
  simp only [T4,List.mem_cons,List.not_mem_nil,or_false] at ht
  rw [hc0]
  rcases ht with rfl | rfl | rfl | rfl <;> simp [setCnt] <;> omega
 refine (lists_win hr (a := a) (b := b) ha hb [o.vals] (o.frames.flatMap frameRefs) _ _ (fun l hl => by simp at hl; subst hl; exact ho.1) ⟨by simp only [go_sem,qW],by simp only [go_sem,qW],hcc⟩ (hr.stable _ _ _ _ _ hI0 (fun n t g h => ?_) (fun n t ht => ?_) hcc)).mono ?_
 ·rw [en_ne (out_ne h (by decide) hb),en_ne (out_ne h (by decide) hb),en_ne (out_ne h (by decide) ha)]
 ·simp only [setCnt]
  simp only [T4,List.mem_cons,List.not_mem_nil,or_false,not_or] at ht
  rw [if_neg (by omega),if_neg (by omega)]
 ·rintro v en' cnt' (⟨rfl,hm,hI'⟩ | ⟨rfl,hG⟩)
  ·simp only [go_sem,qC,qG,qW,Bool.not_true]
   refine wp_for o.frames.length (fun j st => ∃ fr en cnt,st = ⟨fr,en,cnt⟩ ∧ fr 3 = .ptr ⟨0,3,b⟩ 0 ∧ fr 14 = .fz (o.frames.map MFrame.enc) ∧ fr 15 = .int .i64 o.frames.length ∧ fr 16 = .int .i64 j ∧
    Mid k c0 a b en cnt ∧ I ((o.frames.drop j).flatMap frameRefs) en cnt) 0 (Nat.zero_le _) ⟨_,_,_,rfl,by simp only [go_sem,qW],by simp only [go_sem,qW],by simp only [go_sem,qW],by simp only [go_sem,qW],hm,by simpa using hI'⟩ ?_
   rintro j st hj ⟨fr,en,cnt,rfl,f3,f14,f15,f16,hm,hI⟩
   simp only [go_sem,qC,qG,qW,f14,f15,f16]
   refine condK_split (fun hq => ?_) (fun hq => ?_)
   ·have h' : j < o.frames.length := of_decide_eq_true hq
    rw [List.drop_eq_getElem_cons h'] at hI
    have hf := ho.2.2 _ (List.getElem_mem h')
    have hI1 : I ([o.frames[j].env,o.frames[j].vals].flatMap refVals ++ (o.frames.drop (j + 1)).flatMap frameRefs) en cnt := by
     have : [o.frames[j].env,o.frames[j].vals].flatMap refVals ++ (o.frames.drop (j + 1)).flatMap frameRefs = (o.frames[j] :: o.frames.drop (j + 1)).flatMap frameRefs := by simp only [List.flatMap_cons,List.flatMap_nil,List.append_nil,List.append_assoc,frameRefs]
     rw [this]; exact hI
    have h3 := (hm.put (some (.box [.int .i64 0,.cl [],.cl []] false)) (some (.box [.int .i64 o.frames[j].node,.fz (o.frames[j].env.map MVal.enc),.fz (o.frames[j].vals.map MVal.enc)] false))).e3
    simp only [go_sem,qC,qG,qW,h',f3,f14,f15,f16,hm.e3]
    refine (lists_win hr (a := a) (b := b) ha hb [o.frames[j].env,o.frames[j].vals] ((o.frames.drop (j + 1)).flatMap frameRefs) _ _ (fun l hl => ?_) (hm.put _ _) (hr.put hm hI1 _ _)).mono ?_
    ·simp only [List.mem_cons,List.not_mem_nil,or_false] at hl
     rcases hl with rfl | rfl
     ·exact hf.1
     ·exact hf.2
    rintro v en' cnt' (⟨rfl,hm,hI'⟩ | ⟨rfl,hG⟩)
    ·simp only [go_sem,qC,qG,qW,Bool.not_true,h',f3,f14,f15,f16]
     refine ⟨_,_,_,rfl,?_⟩
     simp only [go_sem,qC,qG,qW,f3,f14,f15,f16,wrap_succ h' ho.2.1]
     exact ⟨hm,hI'⟩
    ·simp only [go_sem,qC,qG,qW]
     exact .inr hG
   ·have : j = o.frames.length := by simp at hq; omega
    subst this
    rw [List.drop_length] at hI
    simp only [go_sem,qC,qG,qW]
    exact .inl (by simpa using hI)
  ·simp only [go_sem,qC,qG,qW]
   exact .inr hG
def someStep (out : List Int) (v : MVal) : List Int := if (isRef v && !out.any (fun x => decide (x = v.n))) = true then out ++ [v.n] else out
def someL (out : List Int) (l : List MVal) : List Int := l.foldl someStep out
def refsL (o : MObj) : List Int := o.frames.foldl (fun out f => someL (someL out f.env) f.vals) (someL [] o.vals)
theorem someStep_len (out : List Int) (v : MVal) : (someStep out v).length ≤ out.length + 1 := by unfold someStep; split <;> simp
theorem someL_len : ∀ (l : List MVal) (out : List Int),(someL out l).length ≤ out.length + l.length
 | [],out => by simp [someL]
 | v :: l,out => by
  have h1 := someL_len l (someStep out v)
  have h2 := someStep_len out v
  simp only [someL,List.foldl_cons,List.length_cons] at h1 ⊢
  omega
theorem someL_step {l : List MVal} {out : List Int} {k : Nat} (h : k < l.length) : someL out (l.take (k + 1)) = someStep (someL out (l.take k)) l[k] := by
 rw [take_step h]; simp only [someL,List.foldl_append,List.foldl_cons,List.foldl_nil]
theorem some_win (out : List Int) (l : List MVal) {v : Val} {en : En} {cnt : Nat → Nat → Nat} {D : List Nat} (hD : 35 ∈ D) (hm : Mine en v 1 (out.map (.int .i64)) D) (hb : out.length + l.length ≤ 16777216) :
  WIn L (.fn F.R18_some [] []) [v,.fz (l.map MVal.enc)] en cnt fun r en' cnt' =>
   Mine en' r 1 ((someL out l).map (.int .i64)) D ∧ (∀ n t g,n ≠ 0 ∨ (t ∉ D ∧ t ≠ 34) → en' ⟨n,t,g⟩ = en ⟨n,t,g⟩) := by
 have hf : Few l.length := by unfold Few; omega
 obtain ⟨en0,hen0⟩ : ∃ e,e = en := ⟨_,rfl⟩
 refine win_of LF.R18_some rfl rfl ?_
 simp only [go_sem,qC,qG,qW,C.R18_some]
 refine wp_for l.length (fun k st => ∃ fr en cnt,st = ⟨fr,en,cnt⟩ ∧ fr 1 = .fz (l.map MVal.enc) ∧ fr 5 = .int .i64 k ∧ Mine en (fr 0) 1 ((someL out (l.take k)).map (.int .i64)) D ∧ (∀ n t g,n ≠ 0 ∨ (t ∉ D ∧ t ≠ 34) → en ⟨n,t,g⟩ = en0 ⟨n,t,g⟩)) 0 (Nat.zero_le _) ⟨_,_,_,rfl,by simp only [go_sem,qW],by simp only [go_sem,qW],by simp only [go_sem,qW]; simpa [someL] using hm,fun n t g h => by rw [hen0]⟩ ?_
 rintro k st hk ⟨fr,en,cnt,rfl,h1,h5,h0,hI⟩
 simp only [go_sem,qC,qG,qW,h1,h5]
 refine condK_split (fun h => ?_) (fun h => ?_)
 ·have h' : k < l.length := of_decide_eq_true h
  have hlen := someL_len (l.take k) out
  rw [List.length_take] at hlen
  have hs := someL_step (out := out) h'
  obtain ⟨r,ks,s1,s2,s3⟩ := mine_ret h0
  simp only [go_sem,qC,qG,qW,h',h1,h5]
  refine guardK_split (fun hg => ?_) (fun hg => ?_)
  ·have hx : isRef l[k] = true := hg
   have hd := R18_listed_pc (someL out (l.take k)) l[k].n (by unfold Few; omega)
   simp only [go_sem,qC,qG,qW,hg,h',h1,h5,s1,s3,hd.ret]
   refine condK_split (fun h2 => ?_) (fun h2 => ?_)
   ·have hs2 : someL out (l.take (k + 1)) = someL out (l.take k) ++ [l[k].n] := by rw [hs,someStep,if_pos (by rw [hx]; simpa using h2)]
    simp only [go_sem,qC,qG,qW,h',h1,h5]
    refine w_append (D := D) (xs := (someL out (l.take k)).map (.int .i64)) (ys := [.int .i64 l[k].n]) (rs := []) ?_ ?_ ?_ ?_ ?_
    ·simp only [go_sem,qW]
     exact h0
    ·simp only [go_sem,qW]
    ·rfl
    ·simp; omega
    ·intro v' en' cnt' hown hen hcnt
     simp only [go_sem,qC,qG,qW,h',h1,h5]
     refine ⟨_,_,_,rfl,?_⟩
     simp only [go_sem,qC,qG,qW,h',h1,h5,wrap_succ h' hf]
     refine ⟨?_,fun n t g h => ?_⟩
     ·rw [hs2,List.map_append]
      exact Mine.sub hown (by intro t ht; rcases List.mem_cons.1 ht with rfl | ht <;> assumption)
     ·rw [hen n t g (by rcases h with h | h; exact .inl h; exact .inr ⟨fun e => h.1 (e ▸ hD),h.1⟩)]
      exact hI n t g h
   ·have hs2 : someL out (l.take (k + 1)) = someL out (l.take k) := by rw [hs,someStep,if_neg (by rw [hx]; simpa using h2)]
    simp only [go_sem,qC,qG,qW,h',h1,h5]
    refine ⟨_,_,_,rfl,?_⟩
    simp only [go_sem,qC,qG,qW,h',h1,h5,wrap_succ h' hf]
    exact ⟨by rw [hs2]; exact h0,hI⟩
  ·have hx : isRef l[k] = false := hg
   have hs2 : someL out (l.take (k + 1)) = someL out (l.take k) := by rw [hs,someStep,if_neg (by rw [hx]; simp)]
   simp only [go_sem,qC,qG,qW,hg,h',h1,h5]
   refine ⟨_,_,_,rfl,?_⟩
   simp only [go_sem,qC,qG,qW,h',h1,h5,wrap_succ h' hf]
   exact ⟨by rw [hs2]; exact h0,hI⟩
 ·have : k = l.length := by simp at h; omega
  subst this
  rw [List.take_length] at h0
  simp only [go_sem,qC,qG,qW]
  exact ⟨h0,fun n t g h => by rw [← hen0]; exact hI n t g h⟩
theorem sameL_map {α : Type} {g : Val → Val → Bool} {f : α → Val} : ∀ (l : List α),(∀ x ∈ l,g (f x) (f x) = true) → sameL g (l.map f) (l.map f) = true
 | [],_ => rfl
 | x :: l,h => by simp only [List.map_cons,sameL,Bool.and_eq_true]; exact ⟨h x (by simp),sameL_map l fun y hy => h y (by simp [hy])⟩
theorem sameV_int {n : Nat} {k : IntKind} {i : Int} : sameV (n + 1) (.int k i) (.int k i) = true := by simp [sameV]
theorem sameV_val {n : Nat} (v : MVal) : sameV (n + 2) (MVal.enc v) (MVal.enc v) = true := by simp [sameV,MVal.enc,sameL]
theorem sameV_vals {n : Nat} (l : List MVal) : sameV (n + 3) (.fz (l.map MVal.enc)) (.fz (l.map MVal.enc)) = true := sameL_map l fun v _ => sameV_val v
theorem sameV_frame {n : Nat} (f : MFrame) : sameV (n + 4) (MFrame.enc f) (MFrame.enc f) = true := by
 show sameL (sameV (n + 3)) [_,_,_] [_,_,_] = true
 simp only [sameL,sameV_vals,sameV_int,Bool.and_self]
theorem sameV_frames {n : Nat} (l : List MFrame) : sameV (n + 5) (.fz (l.map MFrame.enc)) (.fz (l.map MFrame.enc)) = true := sameL_map l fun v _ => sameV_frame v
theorem sameE_obj (o : MObj) (f : Bool) : sameE (some (.box [.int .i64 o.form,.int .i64 o.n,.fz (o.vals.map MVal.enc),.fz (o.frames.map MFrame.enc)] f)) (some (.box [.int .i64 o.form,.int .i64 o.n,.fz (o.vals.map MVal.enc),.fz (o.frames.map MFrame.enc)] f)) = true := by
 simp only [sameE,sameL,sameV_vals,sameV_int,sameV_frames,Bool.and_self,decide_true]
theorem apart_m {v v' : Val} {m : En × (Nat → Nat → Nat)} {u u' : Key → Bool} {rs : List R} : apartRes { v,mem := some m,unch := u } { v := v',rs := rs,unch := u' } = rs.all (fun r => u r.key) := by simp [apartRes,Res.still]
def framesL (o : MObj) (k : Nat) : List Int := (o.frames.take k).foldl (fun out f => someL (someL out f.env) f.vals) (someL [] o.vals)
theorem framesL_step {o : MObj} {k : Nat} (h : k < o.frames.length) : framesL o (k + 1) = someL (someL (framesL o k) o.frames[k].env) o.frames[k].vals := by
 unfold framesL; rw [take_step h]; simp only [List.foldl_append,List.foldl_cons,List.foldl_nil]
theorem framesL_full (o : MObj) : framesL o o.frames.length = refsL o := by unfold framesL refsL; rw [List.take_length]
theorem small_obj {o : MObj} (hs : smallObj o = true) : o.vals.length ≤ 40 ∧ o.frames.length ≤ 50 ∧ ∀ f ∈ o.frames,f.env.length ≤ 40 ∧ f.vals.length ≤ 40 := by
 simp only [smallObj,Bool.and_eq_true,decide_eq_true_eq,List.all_eq_true] at hs
 refine ⟨by omega,by omega,fun f hf => ?_⟩
 have := hs.2 f hf
 omega
theorem small_few {o : MObj} (hs : smallObj o = true) : o.few := by
 obtain ⟨h1,h2,h3⟩ := small_obj hs
 refine ⟨by unfold Few; omega,by unfold Few; omega,fun f hf => ?_⟩
 have := h3 f hf
 exact ⟨by unfold Few; omega,by unfold Few; omega⟩
theorem framesL_len {o : MObj} (hs : smallObj o = true) : ∀ (k : Nat),k ≤ o.frames.length → (framesL o k).length ≤ 40 + 80 * k
 | 0,_ => by
  have h1 := someL_len o.vals []
  have h2 := (small_obj hs).1
  have e : framesL o 0 = someL [] o.vals := by simp [framesL]
  rw [e]; simp only [List.length_nil] at h1; omega
 | k + 1,h => by
  have h1 := framesL_len hs k (by omega)
  rw [framesL_step (by omega)]
  have h2 := someL_len o.frames[k].vals (someL (framesL o k) o.frames[k].env)
  have h3 := someL_len o.frames[k].env (framesL o k)
  have h4 := (small_obj hs).2.2 _ (List.getElem_mem (show k < o.frames.length by omega))
  omega
theorem refsL_len {o : MObj} (hs : smallObj o = true) : (refsL o).length ≤ 4040 := by
 rw [← framesL_full]
 have := framesL_len hs o.frames.length (Nat.le_refl _)
 have := (small_obj hs).2.1
 omega
theorem R18_Refs_pc (o : MObj) (hs : smallObj o = true) : PC L F.R18_Refs [.agg [.int .i64 o.form,.int .i64 o.n,.fz (o.vals.map MVal.enc),.fz (o.frames.map MFrame.enc)]] (.fz ((refsL o).map (.int .i64))) := by
 obtain ⟨b1,b2,b3⟩ := small_obj hs
 have hf : Few o.frames.length := by unfold Few; omega
 refine pc_of LF.R18_Refs rfl rfl ?_
 simp only [go_sem,qC,qG,qW,C.R18_Refs]
 refine (some_win [] o.vals (D := [35]) (by simp) (Mine.nil _ _) (by simp; omega)).mono ?_
 rintro v en' cnt' ⟨hm,hfr⟩
 have e1 : en' ⟨0,1,0⟩ = some (.box [.int .i64 o.form,.int .i64 o.n,.fz (o.vals.map MVal.enc),.fz (o.frames.map MFrame.enc)] false) := by rw [hfr _ _ _ (.inr ⟨by simp,by simp⟩)]; simp only [go_sem,qW]
 refine wp_for o.frames.length (fun k st => ∃ fr en cnt,st = ⟨fr,en,cnt⟩ ∧ fr 1 = .ptr ⟨0,1,0⟩ 0 ∧ en ⟨0,1,0⟩ = some (.box [.int .i64 o.form,.int .i64 o.n,.fz (o.vals.map MVal.enc),.fz (o.frames.map MFrame.enc)] false) ∧ fr 4 = .int .i64 k ∧ Mine en (fr 3) 1 ((framesL o k).map (.int .i64)) [35]) 0 (Nat.zero_le _) ⟨_,_,_,rfl,by simp only [go_sem,qW],by simp only [go_sem,e1],by simp only [go_sem,qW],by simp only [go_sem,qW]; simpa [framesL] using hm⟩ ?_
 rintro k st hk ⟨fr,en,cnt,rfl,h1,e1,h4,h3⟩
 simp only [go_sem,qC,qG,qW,h1,e1,h4]
 refine condK_split (fun hq => ?_) (fun hq => ?_)
 ·have h' : k < o.frames.length := of_decide_eq_true hq
  have h4' := b3 _ (List.getElem_mem h')
  have hl := framesL_len hs k hk
  have hl2 := someL_len o.frames[k].env (framesL o k)
  simp only [go_sem,qC,qG,qW,h',h1,e1,h4]
  refine wp_foot ?_
  simp only [go_sem,qC,qG,qW,h',h1,e1,h4,List.all_cons,List.getElem?_cons_zero,List.getElem?_cons_succ,Bool.true_or,Bool.or_true]
  refine (some_win (framesL o k) o.frames[k].env (D := [35]) (by simp) h3 (by omega)).mono ?_
  rintro v1 en1 cnt1 ⟨hm1,hfr1⟩
  have e1' := (hfr1 0 1 0 (.inr ⟨by simp,by simp⟩)).trans e1
  simp only [go_sem,qC,qG,qW,h',h1,e1',h4,List.all_cons,List.getElem?_cons_zero,List.getElem?_cons_succ,Bool.true_or,Bool.or_true]
  refine (some_win (someL (framesL o k) o.frames[k].env) o.frames[k].vals (D := [35]) (by simp) hm1 (by omega)).mono ?_
  rintro v2 en2 cnt2 ⟨hm2,hfr2⟩
  have e1'' := (hfr2 0 1 0 (.inr ⟨by simp,by simp⟩)).trans e1'
  simp only [go_sem,qC,qG,qW,h',h1,e1,e1',h4,List.all_cons,List.getElem?_cons_zero,List.getElem?_cons_succ,Bool.true_or,Bool.or_true,apart_m,sameE_obj,List.all_nil]
  refine ⟨rfl,_,_,_,rfl,?_⟩
  simp only [go_sem,qC,qG,qW,h',h1,e1'',h4,wrap_succ h' hf]
  rw [framesL_step h']
  exact hm2
 ·have : k = o.frames.length := by simp at hq; omega
  subst this
  rw [framesL_full] at h3
  simp only [go_sem,qC,qG,qW]
  obtain ⟨r,ks,s1,s2,s3⟩ := mine_ret h3
  simp only [go_sem,qC,qG,qW,s1,s2]
theorem someStep_mem (out : List Int) (v : MVal) (x : Int) : x ∈ someStep out v ↔ x ∈ out ∨ (isRef v = true ∧ x = v.n) := by
 unfold someStep
 split
 ·rename_i h
  simp only [Bool.and_eq_true] at h
  simp [h.1]
 ·rename_i h
  constructor
  ·exact .inl
  ·rintro (h2 | ⟨h2,rfl⟩)
   ·exact h2
   ·rw [h2,Bool.true_and] at h
    simp only [Bool.not_eq_true',Bool.not_eq_false] at h
    obtain ⟨y,hy,e⟩ := List.any_eq_true.1 h
    rw [← of_decide_eq_true e]; exact hy
theorem someL_mem (x : Int) : ∀ (l : List MVal) (out : List Int),x ∈ someL out l ↔ x ∈ out ∨ x ∈ refVals l
 | [],out => by simp [someL,refVals]
 | v :: l,out => by
  have := someL_mem x l (someStep out v)
  simp only [someL,List.foldl_cons] at this ⊢
  rw [this,someStep_mem]
  by_cases h : isRef v = true
  ·rw [refVals_t h]; simp [h,or_assoc]
  ·rw [refVals_f (by simpa using h)]; simp [h]
theorem frames_mem (x : Int) : ∀ (l : List MFrame) (out : List Int),x ∈ l.foldl (fun out f => someL (someL out f.env) f.vals) out ↔ x ∈ out ∨ x ∈ l.flatMap frameRefs
 | [],out => by simp
 | f :: l,out => by
  simp only [List.foldl_cons]
  rw [frames_mem x l,someL_mem,someL_mem]
  simp [frameRefs,or_assoc]
theorem refs_mem (o : MObj) (x : Int) : x ∈ refsL o ↔ x ∈ refsOf o := by
 unfold refsL refsOf
 rw [frames_mem,someL_mem]; simp
theorem vals_in {p : BProg} {w : MWorld} {l : List MVal} {m : Int} (h : valuesOk p w l m = true) : ∀ x ∈ refVals l,inR x 0 (w.objs.length - 1) = true := by
 intro x hx
 simp only [valuesOk,Bool.and_eq_true,List.all_eq_true] at h
 simp only [refVals,List.mem_map,List.mem_filter] at hx
 obtain ⟨v,⟨hv,hr⟩,rfl⟩ := hx
 have h5 : v.kind = 5 := of_decide_eq_true hr
 have := h.2 v hv
 simpa [valueOk,h5] using this
theorem frames_in {p : BProg} {w : MWorld} {l : List MFrame} (h : framesOk p w l = true) : ∀ x ∈ l.flatMap frameRefs,inR x 0 (w.objs.length - 1) = true := by
 intro x hx
 simp only [framesOk,Bool.and_eq_true,List.all_eq_true] at h
 obtain ⟨f,hf,hx⟩ := List.mem_flatMap.1 hx
 have hk := h.2 f hf
 simp only [frameOk,Bool.and_eq_true] at hk
 rcases List.mem_append.1 hx with hx | hx
 ·exact vals_in hk.1.2 x hx
 ·exact vals_in hk.2 x hx
theorem len0 {α : Type} {l : List α} (h : (l.length : Int) = 0) : l = [] := by
 cases l with
 | nil => rfl
 | cons a l => simp at h; omega
theorem obj_in {p : BProg} {w : MWorld} {o : MObj} (h : objOk p w o = true) : ∀ x ∈ refsOf o,inR x 0 (w.objs.length - 1) = true := by
 have key : (∃ m,valuesOk p w o.vals m = true ∨ o.vals = []) ∧ (framesOk p w o.frames = true ∨ o.frames = []) := by
  unfold objOk at h
  split at h
  ·unfold taskOk at h
   split at h
   ·simp only [Bool.and_eq_true] at h
    exact ⟨⟨1,.inl h.1.1.2⟩,.inl h.1.1.1⟩
   split at h
   ·simp only [Bool.and_eq_true,decide_eq_true_eq] at h
    exact ⟨⟨1,.inl h.2⟩,.inr (len0 h.1.1)⟩
   split at h
   ·simp only [Bool.and_eq_true,decide_eq_true_eq] at h
    exact ⟨⟨1,.inr (len0 h.2)⟩,.inr (len0 h.1)⟩
   ·cases h
  split at h
  ·simp only [Bool.and_eq_true,decide_eq_true_eq] at h
   exact ⟨⟨1,.inr (len0 h.1.1.1.1.2)⟩,.inl h.1.1.2⟩
  split at h
  ·cases h
  rename_i hf
  have hf0 : o.frames = [] := len0 (Classical.not_not.1 hf)
  split at h
  ·simp only [Bool.and_eq_true] at h; exact ⟨⟨_,.inl h.2⟩,.inr hf0⟩
  split at h
  ·simp only [Bool.and_eq_true] at h; exact ⟨⟨_,.inl h.2⟩,.inr hf0⟩
  split at h
  ·simp only [Bool.and_eq_true] at h; exact ⟨⟨_,.inl h.2⟩,.inr hf0⟩
  split at h
  ·simp only [Bool.and_eq_true] at h; exact ⟨⟨_,.inl h.2⟩,.inr hf0⟩
  ·cases h
 obtain ⟨⟨m,hv⟩,hfr⟩ := key
 intro x hx
 rcases List.mem_append.1 hx with hx | hx
 ·rcases hv with hv | hv
  ·exact vals_in hv x hx
  ·rw [hv] at hx; simp [refVals] at hx
 ·rcases hfr with hfr | hfr
  ·exact frames_in hfr x hx
  ·rw [hfr] at hx; simp at hx
theorem world_in {p : BProg} {w : MWorld} (h : worldOk p w = true) : ∀ o ∈ w.objs,∀ x ∈ refsOf o,inR x 0 (w.objs.length - 1) = true := by
 intro o ho
 simp only [worldOk,Bool.and_eq_true,List.all_eq_true] at h
 exact obj_in (h.1.2 o ho)
def ageAt (s : RState) (i : Int) : Int := s.ages.getD i.toNat 0
def markAt (s : RState) (i : Int) : Int := s.marks.getD i.toNat 0
theorem ageAt_get {s : RState} {k : Nat} (h : k < s.ages.length) : ageAt s k = s.ages[k] := by simp [ageAt,List.getD_eq_getElem?_getD,h]
theorem markAt_get {s : RState} {k : Nat} (h : k < s.marks.length) : markAt s k = s.marks[k] := by simp [markAt,List.getD_eq_getElem?_getD,h]
theorem objAt_get {w : MWorld} {k : Nat} (h : k < w.objs.length) : w.obj k = w.objs[k] := by simp [MWorld.obj,List.getD_eq_getElem?_getD,h]
def rangeOk (s : RState) (i : Nat) : Bool := inR (ageAt s i) 0 2 && inR (markAt s i) 0 2
def whiteBad (s : RState) (i : Nat) : Bool := decide (markAt s i = 0) && (isTask (s.world.obj i) || decide (ageAt s i = 2) && !decide (s.cycle = 3))
def refBad (s : RState) (i : Nat) (r : Int) : Bool := decide (markAt s i = 2) && decide (markAt s r = 0)
def rowOk (s : RState) (i : Nat) : Bool := !whiteBad s i && (refsL (s.world.obj i)).all fun r => !refBad s i r
def rowsOk (s : RState) : Bool := (List.range s.world.objs.length).all fun i => rangeOk s i && rowOk s i
def lensOk (s : RState) : Bool := decide (s.ages.length = s.world.objs.length) && decide (s.marks.length = s.world.objs.length) && inR s.cycle 0 3
def stateOk (p : BProg) (s : RState) : Bool := given p s.world && lensOk s && rowsOk s
theorem given_in {p : BProg} {w : MWorld} (h : given p w = true) : ∀ o ∈ w.objs,∀ x ∈ refsL o,inR x 0 (w.objs.length - 1) = true := by
 intro o ho x hx
 simp only [given,Bool.and_eq_true] at h
 exact world_in h.2 o ho x ((refs_mem o x).1 hx)
theorem smallW_obj {w : MWorld} (h : smallWorld w = true) : ∀ o ∈ w.objs,smallObj o = true := by
 intro o ho
 simp only [smallWorld,Bool.and_eq_true,List.all_eq_true] at h
 exact h.2 o ho
theorem wops_cut {L : Prog} {l : List LOper} {st : St} {Q : St → Prop} (M : St → Prop) (h : WOps L l st M) (k : ∀ fr en cnt,M ⟨fr,en,cnt⟩ → Q ⟨fr,en,cnt⟩) : WOps L l st Q := by
 have : ∀ (l : List LOper) {st : St} {M Q : St → Prop},WOps L l st M → (∀ s,M s → Q s) → WOps L l st Q := by
  intro l
  induction l with
  | nil => intro st M Q h k; exact k _ h
  | cons o l ih => intro st M Q h k; exact wstep_mono h fun s r hs => ih hs k
 exact this l h fun s hs => k _ _ _ hs
theorem R18_State_pc (p : BProg) (s : RState) (hp : p.few) (hs : s.few) (hc : p.cons.length ≤ 1000) (hsm : smallWorld s.world = true) : PC L F.R18_State [.agg [.fz (p.nodes.map BNode.enc),.fz (p.funs.map (.int .i64)),.int .i64 p.main,.fz (p.cons.map BCon.enc)],.agg [.fz (s.world.objs.map MObj.enc),.fz (s.world.tasks.map (.int .i64)),.fz (s.world.outs.map MOut.enc),.fz (s.world.ins.map (.int .i64)),.int .i64 s.world.used,.fz (s.ages.map (.int .i64)),.fz (s.marks.map (.int .i64)),.int .i64 s.cycle]] (.bool (stateOk p s)) := by
 refine pc_of LF.R18_State rfl rfl ?_
 simp only [go_sem,qC,qG,qW,C.R18_State,(R18_World_pc p s.world hp hs.1 hc).ret]
 refine guardK_split (fun g1 => ?_) (fun g1 => ?_)
 ·have k1 : given p s.world = true := by simpa using g1
  simp only [go_sem,qC,qG,qW,g1]
  refine guardK_split (fun g2 => ?_) (fun g2 => ?_)
  ·have k2 : s.ages.length = s.world.objs.length := by simp at g2; omega
   simp only [go_sem,qC,qG,qW,g1,g2]
   refine guardK_split (fun g3 => ?_) (fun g3 => ?_)
   ·have k3 : s.marks.length = s.world.objs.length := by simp at g3; omega
    simp only [go_sem,qC,qG,qW,g1,g2,g3,(R18_in_pc' _ _ _).ret]
    refine condK_split (fun g4 => ?_) (fun g4 => ?_)
    ·simp only [go_sem,qC,qG,qW]
     have k4 : inR s.cycle 0 3 = false := by simpa using g4
     simp [stateOk,lensOk,k4]
    ·have k4 : inR s.cycle 0 3 = true := by simpa using g4
     have kl : lensOk s = true := by simp [lensOk,k2,k3,k4]
     have fin : rowsOk s = false → Val.bool false = Val.bool (stateOk p s) := fun h => by simp [stateOk,h]
     simp only [go_sem,qC,qG,qW]
     refine wp_for (s.world.objs.length) (fun k st => ∃ fr en cnt,st = ⟨fr,en,cnt⟩ ∧ (fr 3 = .ptr ⟨0,3,0⟩ 0) ∧ (en ⟨0,3,0⟩ = some (.box [.fz (s.world.objs.map MObj.enc),.fz (s.world.tasks.map (.int .i64)),.fz (s.world.outs.map MOut.enc),.fz (s.world.ins.map (.int .i64)),.int .i64 s.world.used,.fz (s.ages.map (.int .i64)),.fz (s.marks.map (.int .i64)),.int .i64 s.cycle] false)) ∧ (fr 5 = .int .i64 s.world.objs.length) ∧ (fr 6 = .int .i64 k) ∧ (∀ i,i < k → (rangeOk s i && rowOk s i) = true)) 0 (Nat.zero_le _) ⟨_,_,_,rfl,(by first | (simp only [go_sem,qW]; (try rfl); done) | rfl | simp),(by first | (simp only [go_sem,qW]; (try rfl); done) | rfl | simp),(by first | (simp only [go_sem,qW]; (try rfl); done) | rfl | simp),(by first | (simp only [go_sem,qW]; (try rfl); done) | rfl | simp),(by first | (simp only [go_sem,qW]; (try rfl); done) | rfl | simp)⟩ ?_
     rintro k st hk ⟨fr,en,cnt,rfl,h3,e3,h5,h6,hI⟩
     simp only [go_sem,qC,qG,qW,h3,e3,h5,h6]
     refine condK_split (fun hq => ?_) (fun hq => ?_)
     ·have h' : k < s.world.objs.length := of_decide_eq_true hq
      have ha : k < s.ages.length := by omega
      have hm : k < s.marks.length := by omega
      have bad : (rangeOk s k && rowOk s k) = false → rowsOk s = false := fun h => by
       unfold rowsOk
       rw [List.all_eq_false]
       exact ⟨k,by simpa using h',by simpa using h⟩
      simp only [go_sem,qC,qG,qW,h',ha,hm,h3,e3,h5,h6,(R18_in_pc' _ _ _).ret]
      refine guardK_split (fun g5 => ?_) (fun g5 => ?_)
      ·simp only [go_sem,qC,qG,qW,g5,h',ha,hm,h3,e3,h5,h6,(R18_in_pc' _ _ _).ret]
       refine condK_split (fun g6 => ?_) (fun g6 => ?_)
       ·simp only [go_sem,qC,qG,qW]
        refine fin (bad ?_)
        have : inR s.marks[k] 0 2 = false := by simpa using g6
        simp [rangeOk,ageAt_get ha,markAt_get hm,this]
       ·have kr : rangeOk s k = true := by
         have h1 : inR s.ages[k] 0 2 = true := by simpa using g5
         have h2 : inR s.marks[k] 0 2 = true := by simpa using g6
         simp [rangeOk,ageAt_get ha,markAt_get hm,h1,h2]
        refine wops_cut (fun st => (st.fr 3 = .ptr ⟨0,3,0⟩ 0) ∧ (st.en ⟨0,3,0⟩ = some (.box [.fz (s.world.objs.map MObj.enc),.fz (s.world.tasks.map (.int .i64)),.fz (s.world.outs.map MOut.enc),.fz (s.world.ins.map (.int .i64)),.int .i64 s.world.used,.fz (s.ages.map (.int .i64)),.fz (s.marks.map (.int .i64)),.int .i64 s.cycle] false)) ∧ (st.fr 5 = .int .i64 s.world.objs.length) ∧ (st.fr 6 = .int .i64 k) ∧ (st.fr 84 = .bool (whiteBad s k))) ?_ ?_
        ·simp only [go_sem,qC,qG,qW,h',ha,hm,h3,e3,h5,h6]
         refine guardK_split (fun g7 => ?_) (fun g7 => ?_)
         ·have hm0 : s.marks[k] = 0 := by simpa using g7
          simp only [go_sem,qC,qG,qW,g7,h',ha,hm,h3,e3,h5,h6,(R18_task_pc s.world k h').ret]
          refine guardK_split (fun g8 => ?_) (fun g8 => ?_)
          ·simp only [go_sem,qC,qG,qW,g7,g8,h',ha,hm,h3,e3,h5,h6]
           refine guardK_split (fun g9 => ?_) (fun g9 => ?_)
           ·have ha2 : s.ages[k] = 2 := by simpa using g9
            simp only [go_sem,qC,qG,qW,g7,g8,g9,h',ha,hm,h3,e3,h5,h6,(R18_full_pc _).ret]
            simp [whiteBad,ageAt_get ha,markAt_get hm,hm0,ha2,g8]
           ·simp only [go_sem,qC,qG,qW,g7,g8,g9,h',ha,hm,h3,e3,h5,h6]
            simp at g9
            simp [whiteBad,ageAt_get ha,markAt_get hm,hm0,g8,g9]
          ·simp only [go_sem,qC,qG,qW,g7,g8,h',ha,hm,h3,e3,h5,h6]
           simp [whiteBad,markAt_get hm,hm0,g8]
         ·simp only [go_sem,qC,qG,qW,g7,h',ha,hm,h3,e3,h5,h6]
          simp at g7
          simp [whiteBad,markAt_get hm,g7]
        ·rintro fr en cnt ⟨(h3 : fr 3 = .ptr ⟨0,3,0⟩ 0),(e3 : en ⟨0,3,0⟩ = some (.box [.fz (s.world.objs.map MObj.enc),.fz (s.world.tasks.map (.int .i64)),.fz (s.world.outs.map MOut.enc),.fz (s.world.ins.map (.int .i64)),.int .i64 s.world.used,.fz (s.ages.map (.int .i64)),.fz (s.marks.map (.int .i64)),.int .i64 s.cycle] false)),(h5 : fr 5 = .int .i64 s.world.objs.length),(h6 : fr 6 = .int .i64 k),(h84 : fr 84 = .bool (whiteBad s k))⟩
         simp only [go_sem,qC,qG,qW,h3,e3,h5,h6,h84]
         refine condK_split (fun hW => ?_) (fun hW => ?_)
         ·simp only [go_sem,qC,qG,qW]
          exact fin (bad (by simp [rowOk,hW]))
         have hin := given_in k1 _ (List.getElem_mem h')
         have hso := smallW_obj hsm _ (List.getElem_mem h')
         have hlen := refsL_len hso
         have hfl : Few (refsL s.world.objs[k]).length := by unfold Few; omega
         simp only [go_sem,qC,qG,qW,h',h3,e3,h5,h6,h84,(R18_Refs_pc _ hso).ret]
         refine wp_for ((refsL s.world.objs[k]).length) (fun j st => ∃ fr en cnt,st = ⟨fr,en,cnt⟩ ∧ (fr 3 = .ptr ⟨0,3,0⟩ 0) ∧ (en ⟨0,3,0⟩ = some (.box [.fz (s.world.objs.map MObj.enc),.fz (s.world.tasks.map (.int .i64)),.fz (s.world.outs.map MOut.enc),.fz (s.world.ins.map (.int .i64)),.int .i64 s.world.used,.fz (s.ages.map (.int .i64)),.fz (s.marks.map (.int .i64)),.int .i64 s.cycle] false)) ∧ (fr 5 = .int .i64 s.world.objs.length) ∧ (fr 6 = .int .i64 k) ∧ (fr 7 = .fz ((refsL s.world.objs[k]).map (.int .i64))) ∧ (fr 8 = .int .i64 j) ∧ (∀ x ∈ (refsL s.world.objs[k]).take j,refBad s k x = false)) 0 (Nat.zero_le _) ⟨_,_,_,rfl,(by first | (simp only [go_sem,h3,e3,h5,h6,h84]; (try rfl); done) | rfl | simp),(by first | (simp only [go_sem,h3,e3,h5,h6,h84]; (try rfl); done) | rfl | simp),(by first | (simp only [go_sem,h3,e3,h5,h6,h84]; (try rfl); done) | rfl | simp),(by first | (simp only [go_sem,h3,e3,h5,h6,h84]; (try rfl); done) | rfl | simp),(by first | (simp only [go_sem,h3,e3,h5,h6,h84]; (try rfl); done) | rfl | simp),(by first | (simp only [go_sem,h3,e3,h5,h6,h84]; (try rfl); done) | rfl | simp),(by first | (simp only [go_sem,h3,e3,h5,h6,h84]; (try rfl); done) | rfl | simp)⟩ ?_
         rintro j st hk ⟨fr,en,cnt,rfl,h3,e3,h5,h6,h7,h8,hJ⟩
         simp only [go_sem,qC,qG,qW,h3,e3,h5,h6,h7,h8]
         refine condK_split (fun hq2 => ?_) (fun hq2 => ?_)
         ·have h2' : j < (refsL s.world.objs[k]).length := of_decide_eq_true hq2
          have hx := hin _ (List.getElem_mem h2')
          rw [← k3] at hx
          simp only [go_sem,qC,qG,qW,h2',hm,h3,e3,h5,h6,h7,h8]
          refine guardK_split (fun g7 => ?_) (fun g7 => ?_)
          ·have hm2 : s.marks[k] = 2 := by simpa using g7
           simp only [go_sem,qC,qG,qW,g7,h2',hm,h3,e3,h5,h6,h7,h8,ia_int hx]
           refine condK_split (fun g8 => ?_) (fun g8 => ?_)
           ·simp only [go_sem,qC,qG,qW]
            refine fin (bad ?_)
            have hb : refBad s k (refsL s.world.objs[k])[j] = true := by
             have e2 : markAt s k = 2 := by rw [markAt_get hm,hm2]
             simp only [refBad,e2,decide_true,Bool.true_and]
             exact g8
            have : (refsL (s.world.obj k)).all (fun r => !refBad s k r) = false := by
             rw [objAt_get h',List.all_eq_false]
             exact ⟨_,List.getElem_mem h2',by simp [hb]⟩
            simp [rowOk,this]
           ·have hb : refBad s k (refsL s.world.objs[k])[j] = false := by
             have e2 : markAt s k = 2 := by rw [markAt_get hm,hm2]
             simp only [refBad,e2,decide_true,Bool.true_and]
             exact g8
            simp only [go_sem,qC,qG,qW,h2',h3,e3,h5,h6,h7,h8]
            refine ⟨_,_,_,rfl,?_⟩
            simp only [go_sem,qW,h3,e3,h5,h6,h7,h8,wrap_succ h2' hfl]
            intro x hx
            rw [take_step h2',List.mem_append] at hx
            rcases hx with hx | hx
            ·exact hJ x hx
            ·simp only [List.mem_singleton] at hx; rw [hx]; exact hb
          ·have hb : refBad s k (refsL s.world.objs[k])[j] = false := by
            simp only [refBad,markAt_get hm]
            simp at g7
            simp [g7]
           simp only [go_sem,qC,qG,qW,g7,h2',h3,e3,h5,h6,h7,h8]
           refine ⟨_,_,_,rfl,?_⟩
           simp only [go_sem,qW,h3,e3,h5,h6,h7,h8,wrap_succ h2' hfl]
           intro x hx
           rw [take_step h2',List.mem_append] at hx
           rcases hx with hx | hx
           ·exact hJ x hx
           ·simp only [List.mem_singleton] at hx; rw [hx]; exact hb
         ·have : j = (refsL s.world.objs[k]).length := by simp at hq2; omega
          subst this
          rw [List.take_length] at hJ
          simp only [go_sem,qC,qG,qW,h3,e3,h5,h6,h7,h8]
          refine ⟨_,_,_,rfl,?_⟩
          simp only [go_sem,qW,h3,e3,h5,h6,h7,h8,wrap_succ h' hs.1.objs]
          intro i hi
          by_cases hik : i < k
          ·exact hI i hik
          ·have : i = k := by omega
           subst this
           have : (refsL (s.world.obj i)).all (fun r => !refBad s i r) = true := by
            rw [objAt_get h',List.all_eq_true]
            intro x hx; simp [hJ x hx]
           simp [rowOk,kr,hW,this]
      ·simp only [go_sem,qC,qG,qW,g5,h',ha,hm,h3,e3,h5,h6]
       refine fin (bad ?_)
       have : inR s.ages[k] 0 2 = false := by simpa using g5
       simp [rangeOk,ageAt_get ha,this]
     ·have : k = s.world.objs.length := by simp at hq; omega
      subst this
      simp only [go_sem,qC,qG,qW,h3,e3,h5,h6]
      have : rowsOk s = true := by
       unfold rowsOk
       rw [List.all_eq_true]
       exact fun i hi => hI i (by simpa using hi)
      simp [stateOk,kl,k1,this]
   ·simp only [go_sem,qC,qG,qW,g1,g2,g3]
    simp [stateOk,lensOk]
    simp at g3
    omega
  ·simp only [go_sem,qC,qG,qW,g1,g2]
   simp [stateOk,lensOk]
   simp at g2
   omega
 ·simp only [go_sem,qC,qG,qW,g1]
  have k1 : given p s.world = false := by simpa using g1
  simp [stateOk,k1]
theorem reap_isTask_pc (o : MObj) : PC L F.reap_isTask [.agg [.int .i64 o.form,.int .i64 o.n,.fz (o.vals.map MVal.enc),.fz (o.frames.map MFrame.enc)]] (.bool (isTask o)) := by
 refine pc_of LF.reap_isTask rfl rfl ?_
 simp only [go_sem,qC,qG,qW,C.reap_isTask]
 simp [isTask]
theorem reap_full_pc (s : RState) : PC L F.reap_collector_full [.fp [.fz (s.world.objs.map MObj.enc),.fz (s.world.tasks.map (.int .i64)),.fz (s.world.outs.map MOut.enc),.fz (s.world.ins.map (.int .i64)),.int .i64 s.world.used,.fz (s.ages.map (.int .i64)),.fz (s.marks.map (.int .i64)),.int .i64 s.cycle] 0] (.bool (decide (s.cycle = 3))) := by
 refine pc_of LF.reap_collector_full rfl rfl ?_
 simp only [go_sem,qC,qG,qW,C.reap_collector_full]
theorem reap_old_pc (s : RState) (k : Nat) (hk : k < s.ages.length) : PC L F.reap_collector_old [.fp [.fz (s.world.objs.map MObj.enc),.fz (s.world.tasks.map (.int .i64)),.fz (s.world.outs.map MOut.enc),.fz (s.world.ins.map (.int .i64)),.int .i64 s.world.used,.fz (s.ages.map (.int .i64)),.fz (s.marks.map (.int .i64)),.int .i64 s.cycle] 0,.int .i64 k] (.bool (decide (s.ages[k] = 2))) := by
 refine pc_of LF.reap_collector_old rfl rfl ?_
 simp only [go_sem,qC,qG,qW,C.reap_collector_old,hk]
def RI (s : RState) (k : Nat) (fr0 : Nat → Val) (gk : Nat) (r : List Int) (en : En) (cnt : Nat → Nat → Nat) : Prop :=
 en ⟨1,0,gk⟩ = some (.loop fr0 [142] (LCode.ops [o 7 (.mv (.t 142))]) (LCode.block 5 (.seq (.ops [o 143 (.load false 1 (.t 1)),o 144 (.nilck (.t 143)),o 145 (.fa 0 (.t 144)),o 146 (.fa 6 (.t 145)),o 147 (.load false 1 (.t 146)),o 148 (.mv (.t 7)),o 149 (.ia 1 (.t 147) (.t 148)),o 150 (.load false 1 (.t 149)),o 151 (.bin .eql .num (.t 150) (.c (.int .i64 0)))]) (.cond (.t 151) (.seq (.ops [on (.store 1 (.t 2) (.c (.bool false)))]) .ret) .skip))) .ready) ∧ en ⟨0,1,0⟩ = some (.box [.fp [.fz (s.world.objs.map MObj.enc),.fz (s.world.tasks.map (.int .i64)),.fz (s.world.outs.map MOut.enc),.fz (s.world.ins.map (.int .i64)),.int .i64 s.world.used,.fz (s.ages.map (.int .i64)),.fz (s.marks.map (.int .i64)),.int .i64 s.cycle] 0] false) ∧ en ⟨0,2,0⟩ = some (.box [.bool false] false) ∧ (∀ x ∈ refsOf (s.world.obj k),refBad s k x = true → x ∈ r) ∧ (∀ x ∈ r,x ∈ refsOf (s.world.obj k)) ∧ 1 ≤ cnt 0 2
def RG (s : RState) (k : Nat) (fr0 : Nat → Val) (gk : Nat) (en : En) (cnt : Nat → Nat → Nat) : Prop :=
 en ⟨1,0,gk⟩ = some (.loop fr0 [142] (LCode.ops [o 7 (.mv (.t 142))]) (LCode.block 5 (.seq (.ops [o 143 (.load false 1 (.t 1)),o 144 (.nilck (.t 143)),o 145 (.fa 0 (.t 144)),o 146 (.fa 6 (.t 145)),o 147 (.load false 1 (.t 146)),o 148 (.mv (.t 7)),o 149 (.ia 1 (.t 147) (.t 148)),o 150 (.load false 1 (.t 149)),o 151 (.bin .eql .num (.t 150) (.c (.int .i64 0)))]) (.cond (.t 151) (.seq (.ops [on (.store 1 (.t 2) (.c (.bool false)))]) .ret) .skip))) (.done .ret)) ∧ en ⟨0,2,0⟩ = some (.box [.bool false] false) ∧ ∃ x ∈ refsOf (s.world.obj k),refBad s k x = true
theorem right_rounds (s : RState) (k : Nat) {fr0 : Nat → Val} {gk : Nat} {c0 : Nat → Nat} (hm2 : markAt s k = 2) (q1 : fr0 1 = .ptr ⟨0,1,0⟩ 0) (q2 : fr0 2 = .ptr ⟨0,2,0⟩ 0) (q5 : fr0 5 = .int .i64 k)
  (hino : ∀ x ∈ refsOf (s.world.obj k),inR x 0 ((s.marks.length : Int) - 1) = true) (hc : 1 ≤ c0 2) : Rounds ⟨1,0,gk⟩ c0 (RI s k fr0 gk) (RG s k fr0 gk) := by
 refine ⟨?_,?_⟩
 ·rintro r en cnt en' cnt' ⟨i1,i2,i3,i4,i5,i6⟩ hout hcnt hge
  have hge2 := hge 2 (by decide)
  exact ⟨(hout 1 0 gk (.inl (by omega))).trans i1,(hout 0 1 0 (.inr (.inl (by decide)))).trans i2,(hout 0 2 0 (.inr (.inr (by omega)))).trans i3,i4,i5,by omega⟩
 ·rintro x rest en cnt ⟨i1,i2,i3,i4,i5,i6⟩
  have hxr := i5 x (by simp)
  have hxi := hino x hxr
  refine win_yld (fr := fr0) (ps := [142]) (a := (LCode.ops [o 7 (.mv (.t 142))])) (b := (LCode.block 5 (.seq (.ops [o 143 (.load false 1 (.t 1)),o 144 (.nilck (.t 143)),o 145 (.fa 0 (.t 144)),o 146 (.fa 6 (.t 145)),o 147 (.load false 1 (.t 146)),o 148 (.mv (.t 7)),o 149 (.ia 1 (.t 147) (.t 148)),o 150 (.load false 1 (.t 149)),o 151 (.bin .eql .num (.t 150) (.c (.int .i64 0)))]) (.cond (.t 151) (.seq (.ops [on (.store 1 (.t 2) (.c (.bool false)))]) .ret) .skip)))) i1 rfl ?_
  simp only [go_sem,qC,qG,qW,q1,q2,q5,i1,i2,i3,ia_int hxi]
  refine condK_split (fun hb => ?_) (fun hb => ?_)
  ·have hbad : refBad s k x = true := by simp only [refBad,hm2,decide_true,Bool.true_and]; exact hb
   simp only [go_sem,qC,qG,qW,q1,q2,q5,i1,i2,i3]
   refine ⟨fun t g ht hg => ?_,fun _ _ => trivial,.inr ⟨rfl,?_,?_,x,hxr,hbad⟩⟩
   ·have n1 : (⟨0,t,g⟩ : Key) ≠ ⟨1,0,gk⟩ := by intro he; injection he with h1 _ _; omega
    have n2 : (⟨0,t,g⟩ : Key) ≠ ⟨0,2,0⟩ := by intro he; injection he with _ h2 h3; subst h2; omega
    rw [en_ne n1,en_ne n2,en_ne n1]
   ·try simp only [go_sem,qW]
    try rfl
   ·simp only [go_sem,qW,i3]
  ·have hbad : refBad s k x = false := by simp only [refBad,hm2,decide_true,Bool.true_and]; exact hb
   simp only [go_sem,qC,qG,qW,q1,q2,q5,i1,i2,i3]
   refine ⟨fun t g ht hg => ?_,fun _ _ => trivial,.inl ⟨?_,?_,?_,fun y hy hz => ?_,fun y hy => i5 y (by simp [hy]),i6⟩⟩
   ·have n1 : (⟨0,t,g⟩ : Key) ≠ ⟨1,0,gk⟩ := by intro he; injection he with h1 _ _; omega
    rw [en_ne n1,en_ne n1]
   ·try simp only [go_sem,qW]
    try rfl
   ·simp only [go_sem,qW,i2]
   ·simp only [go_sem,qW,i3]
   ·rcases List.mem_cons.1 (i4 y hy hz) with rfl | h
    ·rw [hbad] at hz; cases hz
    ·exact h
theorem reap_right_pc (s : RState) (hs : s.few) (hsm : smallWorld s.world = true) (hin : ∀ o ∈ s.world.objs,∀ x ∈ refsL o,inR x 0 (s.world.objs.length - 1) = true) : PC L F.reap_collector_right [.fp [.fz (s.world.objs.map MObj.enc),.fz (s.world.tasks.map (.int .i64)),.fz (s.world.outs.map MOut.enc),.fz (s.world.ins.map (.int .i64)),.int .i64 s.world.used,.fz (s.ages.map (.int .i64)),.fz (s.marks.map (.int .i64)),.int .i64 s.cycle] 0] (.bool (lensOk s && rowsOk s)) := by
 refine pc_of LF.reap_collector_right rfl rfl ?_
 simp only [go_sem,qC,qG,qW,C.reap_collector_right]
 refine guardK_split (fun g1 => ?_) (fun g1 => ?_)
 ·have k2 : s.ages.length = s.world.objs.length := by simp at g1; omega
  simp only [go_sem,qC,qG,qW,g1]
  refine guardK_split (fun g2 => ?_) (fun g2 => ?_)
  ·have k3 : s.marks.length = s.world.objs.length := by simp at g2; omega
   simp only [go_sem,qC,qG,qW,g1,g2]
   refine guardK_split (fun g3 => ?_) (fun g3 => ?_)
   ·simp only [go_sem,qC,qG,qW,g1,g2,g3]
    refine condK_split (fun g4 => ?_) (fun g4 => ?_)
    ·simp only [go_sem,qC,qG,qW]
     simp at g3 g4
     simp [lensOk,inR]; intros; omega
    ·have k4 : lensOk s = true := by
      simp at g3 g4
      simp [lensOk,inR,k2,k3]; omega
     rw [k4,Bool.true_and]
     simp only [go_sem,qC,qG,qW]
     refine wp_for (s.world.objs.length) (fun k st => ∃ fr en cnt,st = ⟨fr,en,cnt⟩ ∧ (fr 1 = .ptr ⟨0,1,0⟩ 0) ∧ (en ⟨0,1,0⟩ = some (.box [.fp [.fz (s.world.objs.map MObj.enc),.fz (s.world.tasks.map (.int .i64)),.fz (s.world.outs.map MOut.enc),.fz (s.world.ins.map (.int .i64)),.int .i64 s.world.used,.fz (s.ages.map (.int .i64)),.fz (s.marks.map (.int .i64)),.int .i64 s.cycle] 0] false)) ∧ (fr 2 = .ptr ⟨0,2,0⟩ 0) ∧ (en ⟨0,2,0⟩ = some (.box [.bool false] false)) ∧ (fr 49 = .int .i64 s.world.objs.length) ∧ (fr 50 = .int .i64 k) ∧ (1 ≤ cnt 0 2) ∧ (∀ i,i < k → rangeOk s i = true)) 0 (Nat.zero_le _) ⟨_,_,_,rfl,(by first | (simp only [go_sem,qW]; (try rfl); done) | rfl | simp),(by first | (simp only [go_sem,qW]; (try rfl); done) | rfl | simp),(by first | (simp only [go_sem,qW]; (try rfl); done) | rfl | simp),(by first | (simp only [go_sem,qW]; (try rfl); done) | rfl | simp),(by first | (simp only [go_sem,qW]; (try rfl); done) | rfl | simp),(by first | (simp only [go_sem,qW]; (try rfl); done) | rfl | simp),(by first | (simp only [go_sem,qW]; (try rfl); done) | rfl | simp),(by first | (simp only [go_sem,qW]; (try rfl); done) | rfl | simp)⟩ ?_
     rintro k st hk ⟨fr,en,cnt,rfl,h1,e1,h2,e2,h49,h50,hc2,hI⟩
     simp only [go_sem,qC,qG,qW,h1,e1,h2,e2,h49,h50,hc2]
     refine condK_split (fun hq => ?_) (fun hq => ?_)
     ·have h' : k < s.world.objs.length := of_decide_eq_true hq
      have ha : k < s.ages.length := by omega
      have hm : k < s.marks.length := by omega
      have bad : rangeOk s k = false → Val.bool false = Val.bool (rowsOk s) := fun h => by
       have : rowsOk s = false := by
        unfold rowsOk
        rw [List.all_eq_false]
        exact ⟨k,by simpa using h',by simp [h]⟩
       rw [this]
      have eR : rangeOk s k = (inR s.ages[k] 0 2 && inR s.marks[k] 0 2) := by simp only [rangeOk,ageAt_get ha,markAt_get hm]
      simp only [go_sem,qC,qG,qW,h',ha,hm,h1,e1,h2,e2,h49,h50,hc2]
      refine guardK_split (fun g5 => ?_) (fun g5 => ?_)
      ·simp only [go_sem,qC,qG,qW,g5,h',ha,hm,h1,e1,h2,e2,h49,h50,hc2]
       refine guardK_split (fun g6 => ?_) (fun g6 => ?_)
       ·simp only [go_sem,qC,qG,qW,g5,g6,h',ha,hm,h1,e1,h2,e2,h49,h50,hc2]
        refine guardK_split (fun g7 => ?_) (fun g7 => ?_)
        ·simp only [go_sem,qC,qG,qW,g5,g6,g7,h',ha,hm,h1,e1,h2,e2,h49,h50,hc2]
         refine condK_split (fun g8 => ?_) (fun g8 => ?_)
         ·simp only [go_sem,qC,qG,qW,h',ha,hm,h1,e1,h2,e2,h49,h50,hc2]
          refine bad ?_
          simp at g5 g6 g7 g8
          rw [eR]; simp [inR]; intros; omega
         ·simp only [go_sem,qC,qG,qW,h',ha,hm,h1,e1,h2,e2,h49,h50,hc2]
          refine ⟨_,_,_,rfl,?_⟩
          simp only [go_sem,qW,h1,e1,h2,e2,h49,h50,hc2,wrap_succ h' hs.1.objs]
          intro i hi
          by_cases hik : i < k
          ·exact hI i hik
          ·have : i = k := by omega
           subst this
           simp at g5 g6 g7 g8
           rw [eR]; simp [inR]; omega
        ·simp only [go_sem,qC,qG,qW,g5,g6,g7,h',ha,hm,h1,e1,h2,e2,h49,h50,hc2]
         refine bad ?_
         simp at g7
         rw [eR]; simp [inR]; intros; omega
       ·simp only [go_sem,qC,qG,qW,g5,g6,h',ha,hm,h1,e1,h2,e2,h49,h50,hc2]
        refine bad ?_
        simp at g6
        rw [eR]; simp [inR]; intros; omega
      ·simp only [go_sem,qC,qG,qW,g5,h',ha,hm,h1,e1,h2,e2,h49,h50,hc2]
       refine bad ?_
       simp at g5
       rw [eR]; simp [inR]; intros; omega
     ·have : k = s.world.objs.length := by simp at hq; omega
      subst this
      have eAll : rowsOk s = (List.range s.world.objs.length).all (rowOk s) := by
       unfold rowsOk
       rw [Bool.eq_iff_iff,List.all_eq_true,List.all_eq_true]
       exact ⟨fun h i hi => (Bool.and_eq_true _ _ ▸ h i hi).2,fun h i hi => by rw [hI i (by simpa using hi),h i hi]; rfl⟩
      rw [eAll]
      simp only [go_sem,qC,qG,qW,h1,e1,h2,e2,h49,h50,hc2]
      refine wp_for (s.world.objs.length) (fun k st => ∃ fr en cnt,st = ⟨fr,en,cnt⟩ ∧ (fr 1 = .ptr ⟨0,1,0⟩ 0) ∧ (en ⟨0,1,0⟩ = some (.box [.fp [.fz (s.world.objs.map MObj.enc),.fz (s.world.tasks.map (.int .i64)),.fz (s.world.outs.map MOut.enc),.fz (s.world.ins.map (.int .i64)),.int .i64 s.world.used,.fz (s.ages.map (.int .i64)),.fz (s.marks.map (.int .i64)),.int .i64 s.cycle] 0] false)) ∧ (fr 2 = .ptr ⟨0,2,0⟩ 0) ∧ (en ⟨0,2,0⟩ = some (.box [.bool false] false)) ∧ (fr 101 = .fz (s.world.objs.map MObj.enc)) ∧ (fr 102 = .int .i64 s.world.objs.length) ∧ (fr 103 = .int .i64 k) ∧ (1 ≤ cnt 0 2) ∧ (∀ i,i < k → rowOk s i = true)) 0 (Nat.zero_le _) ⟨_,_,_,rfl,(by first | (simp only [go_sem,h1,e1,h2,e2,h49,h50,hc2]; (try rfl); done) | rfl | simp),(by first | (simp only [go_sem,h1,e1,h2,e2,h49,h50,hc2]; (try rfl); done) | rfl | simp),(by first | (simp only [go_sem,h1,e1,h2,e2,h49,h50,hc2]; (try rfl); done) | rfl | simp),(by first | (simp only [go_sem,h1,e1,h2,e2,h49,h50,hc2]; (try rfl); done) | rfl | simp),(by first | (simp only [go_sem,h1,e1,h2,e2,h49,h50,hc2]; (try rfl); done) | rfl | simp),(by first | (simp only [go_sem,h1,e1,h2,e2,h49,h50,hc2]; (try rfl); done) | rfl | simp),(by first | (simp only [go_sem,h1,e1,h2,e2,h49,h50,hc2]; (try rfl); done) | rfl | simp),(by first | (simp only [go_sem,h1,e1,h2,e2,h49,h50,hc2]; (try rfl); done) | rfl | simp),(by first | (simp only [go_sem,h1,e1,h2,e2,h49,h50,hc2]; (try rfl); done) | rfl | simp)⟩ ?_
      rintro k st hk ⟨fr,en,cnt,rfl,h1,e1,h2,e2,h101,h102,h103,hc2,hR⟩
      simp only [go_sem,qC,qG,qW,h1,e1,h2,e2,h101,h102,h103,hc2]
      refine condK_split (fun hq => ?_) (fun hq => ?_)
      ·have h' : k < s.world.objs.length := of_decide_eq_true hq
       have ha : k < s.ages.length := by omega
       have hm : k < s.marks.length := by omega
       have bad : rowOk s k = false → Val.bool false = Val.bool ((List.range s.world.objs.length).all (rowOk s)) := fun h => by
        have : (List.range s.world.objs.length).all (rowOk s) = false := by
         rw [List.all_eq_false]
         exact ⟨k,by simpa using h',by simp [h]⟩
        rw [this]
       have hso := smallW_obj hsm _ (List.getElem_mem h')
       have next : rowOk s k = true → ∀ i,i < k + 1 → rowOk s i = true := fun h i hi => by
        by_cases hik : i < k
        ·exact hR i hik
        ·have : i = k := by omega
         subst this; exact h
       obtain ⟨g6,hg6⟩ : ∃ g,g = cnt 0 6 := ⟨_,rfl⟩
       refine wops_cut (fun st => (st.fr 1 = .ptr ⟨0,1,0⟩ 0) ∧ (st.en ⟨0,1,0⟩ = some (.box [.fp [.fz (s.world.objs.map MObj.enc),.fz (s.world.tasks.map (.int .i64)),.fz (s.world.outs.map MOut.enc),.fz (s.world.ins.map (.int .i64)),.int .i64 s.world.used,.fz (s.ages.map (.int .i64)),.fz (s.marks.map (.int .i64)),.int .i64 s.cycle] 0] false)) ∧ (st.fr 2 = .ptr ⟨0,2,0⟩ 0) ∧ (st.en ⟨0,2,0⟩ = some (.box [.bool false] false)) ∧ (st.fr 6 = .ptr ⟨0,6,g6⟩ 0) ∧ (st.en ⟨0,6,g6⟩ = some (.box [.int .i64 s.world.objs[k].form,.int .i64 s.world.objs[k].n,.fz (s.world.objs[k].vals.map MVal.enc),.fz (s.world.objs[k].frames.map MFrame.enc)] false)) ∧ (st.fr 5 = .int .i64 k) ∧ (st.fr 101 = .fz (s.world.objs.map MObj.enc)) ∧ (st.fr 102 = .int .i64 s.world.objs.length) ∧ (st.fr 103 = .int .i64 k) ∧ (1 ≤ st.cnt 0 2) ∧ (st.cnt 0 6 = g6 + 1)) ?_ ?_
       ·simp only [go_sem,qC,qG,qW,h',h1,e1,h2,e2,h101,h102,h103,hc2,← hg6]
       ·rintro fr en cnt ⟨(h1 : fr 1 = .ptr ⟨0,1,0⟩ 0),(e1 : en ⟨0,1,0⟩ = some (.box [.fp [.fz (s.world.objs.map MObj.enc),.fz (s.world.tasks.map (.int .i64)),.fz (s.world.outs.map MOut.enc),.fz (s.world.ins.map (.int .i64)),.int .i64 s.world.used,.fz (s.ages.map (.int .i64)),.fz (s.marks.map (.int .i64)),.int .i64 s.cycle] 0] false)),(h2 : fr 2 = .ptr ⟨0,2,0⟩ 0),(e2 : en ⟨0,2,0⟩ = some (.box [.bool false] false)),(h6 : fr 6 = .ptr ⟨0,6,g6⟩ 0),(e6 : en ⟨0,6,g6⟩ = some (.box [.int .i64 s.world.objs[k].form,.int .i64 s.world.objs[k].n,.fz (s.world.objs[k].vals.map MVal.enc),.fz (s.world.objs[k].frames.map MFrame.enc)] false)),(h5 : fr 5 = .int .i64 k),(h101 : fr 101 = .fz (s.world.objs.map MObj.enc)),(h102 : fr 102 = .int .i64 s.world.objs.length),(h103 : fr 103 = .int .i64 k),(hc2 : 1 ≤ cnt 0 2),(hc6 : cnt 0 6 = g6 + 1)⟩
        refine wops_cut (fun st => (st.fr 1 = .ptr ⟨0,1,0⟩ 0) ∧ (st.en ⟨0,1,0⟩ = some (.box [.fp [.fz (s.world.objs.map MObj.enc),.fz (s.world.tasks.map (.int .i64)),.fz (s.world.outs.map MOut.enc),.fz (s.world.ins.map (.int .i64)),.int .i64 s.world.used,.fz (s.ages.map (.int .i64)),.fz (s.marks.map (.int .i64)),.int .i64 s.cycle] 0] false)) ∧ (st.fr 2 = .ptr ⟨0,2,0⟩ 0) ∧ (st.en ⟨0,2,0⟩ = some (.box [.bool false] false)) ∧ (st.fr 6 = .ptr ⟨0,6,g6⟩ 0) ∧ (st.en ⟨0,6,g6⟩ = some (.box [.int .i64 s.world.objs[k].form,.int .i64 s.world.objs[k].n,.fz (s.world.objs[k].vals.map MVal.enc),.fz (s.world.objs[k].frames.map MFrame.enc)] false)) ∧ (st.fr 5 = .int .i64 k) ∧ (st.fr 101 = .fz (s.world.objs.map MObj.enc)) ∧ (st.fr 102 = .int .i64 s.world.objs.length) ∧ (st.fr 103 = .int .i64 k) ∧ (1 ≤ st.cnt 0 2) ∧ (st.cnt 0 6 = g6 + 1) ∧ (st.fr 130 = .bool (whiteBad s k))) ?_ ?_
        ·simp only [go_sem,qC,qG,qW,h',ha,hm,h1,e1,h2,e2,h6,e6,h5,h101,h102,h103,hc6]
         refine guardK_split (fun g7 => ?_) (fun g7 => ?_)
         ·have hm0 : s.marks[k] = 0 := by simpa using g7
          simp only [go_sem,qC,qG,qW,g7,h',ha,hm,h1,e1,h2,e2,h6,e6,h5,h101,h102,h103,hc6,(reap_isTask_pc _).ret]
          refine guardK_split (fun g8 => ?_) (fun g8 => ?_)
          ·simp only [go_sem,qC,qG,qW,g7,g8,h',ha,hm,h1,e1,h2,e2,h6,e6,h5,h101,h102,h103,hc6,(reap_old_pc _ _ ha).ret]
           refine guardK_split (fun g9 => ?_) (fun g9 => ?_)
           ·have ha2 : s.ages[k] = 2 := by simpa using g9
            simp only [go_sem,qC,qG,qW,g7,g8,g9,h',ha,hm,h1,e1,h2,e2,h6,e6,h5,h101,h102,h103,hc6,(reap_full_pc _).ret]
            simp [whiteBad,objAt_get h',ageAt_get ha,markAt_get hm,hm0,ha2,g8,hc2]
           ·simp only [go_sem,qC,qG,qW,g7,g8,g9,h',ha,hm,h1,e1,h2,e2,h6,e6,h5,h101,h102,h103,hc6]
            simp at g9
            simp [whiteBad,objAt_get h',ageAt_get ha,markAt_get hm,hm0,g8,g9,hc2]
          ·simp only [go_sem,qC,qG,qW,g7,g8,h',ha,hm,h1,e1,h2,e2,h6,e6,h5,h101,h102,h103,hc6]
           simp [whiteBad,objAt_get h',markAt_get hm,hm0,g8,hc2]
         ·simp only [go_sem,qC,qG,qW,g7,h',ha,hm,h1,e1,h2,e2,h6,e6,h5,h101,h102,h103,hc6]
          simp at g7
          simp [whiteBad,markAt_get hm,g7,hc2]
        ·rintro fr en cnt ⟨(h1 : fr 1 = .ptr ⟨0,1,0⟩ 0),(e1 : en ⟨0,1,0⟩ = some (.box [.fp [.fz (s.world.objs.map MObj.enc),.fz (s.world.tasks.map (.int .i64)),.fz (s.world.outs.map MOut.enc),.fz (s.world.ins.map (.int .i64)),.int .i64 s.world.used,.fz (s.ages.map (.int .i64)),.fz (s.marks.map (.int .i64)),.int .i64 s.cycle] 0] false)),(h2 : fr 2 = .ptr ⟨0,2,0⟩ 0),(e2 : en ⟨0,2,0⟩ = some (.box [.bool false] false)),(h6 : fr 6 = .ptr ⟨0,6,g6⟩ 0),(e6 : en ⟨0,6,g6⟩ = some (.box [.int .i64 s.world.objs[k].form,.int .i64 s.world.objs[k].n,.fz (s.world.objs[k].vals.map MVal.enc),.fz (s.world.objs[k].frames.map MFrame.enc)] false)),(h5 : fr 5 = .int .i64 k),(h101 : fr 101 = .fz (s.world.objs.map MObj.enc)),(h102 : fr 102 = .int .i64 s.world.objs.length),(h103 : fr 103 = .int .i64 k),(hc2 : 1 ≤ cnt 0 2),(hc6 : cnt 0 6 = g6 + 1),(h130 : fr 130 = .bool (whiteBad s k))⟩
         simp only [go_sem,qC,qG,qW,h1,e1,h2,e2,h6,e6,h5,h101,h102,h103,hc2,hc6,h130]
         refine condK_split (fun hW => ?_) (fun hW => ?_)
         ·simp only [go_sem,qC,qG,qW,h1,e1,h2,e2,h6,e6,h5,h101,h102,h103,hc2,hc6,h130]
          exact bad (by simp [rowOk,hW])
         simp only [go_sem,qC,qG,qW,h1,e1,h2,e2,h6,e6,h5,h101,h102,h103,hc2,hc6,h130,h',hm]
         refine condK_split (fun hM => ?_) (fun hM => ?_)
         ·simp only [go_sem,qC,qG,qW,h1,e1,h2,e2,h6,e6,h5,h101,h102,h103,hc2,hc6,h130]
          refine ⟨_,_,_,rfl,?_⟩
          simp only [go_sem,qW,h1,e1,h2,e2,h6,e6,h5,h101,h102,h103,hc2,hc6,h130,wrap_succ h' hs.1.objs]
          have hM' : ¬ markAt s k = 2 := by rw [markAt_get hm]; simpa using hM
          exact next (by simp [rowOk,hW,refBad,hM'])
         ·have hm2 : markAt s k = 2 := by rw [markAt_get hm]; simpa using hM
          simp only [go_sem,qC,qG,qW,h1,e1,h2,e2,h6,e6,h5,h101,h102,h103,hc2,hc6,h130,h',hm,(reap_refs_pc _).ret]
          refine wp_range (f := F.reap_refs_c1) (x := []) (y := [.fp [.int .i64 s.world.objs[k].form,.int .i64 s.world.objs[k].n,.fz (s.world.objs[k].vals.map MVal.enc),.fz (s.world.objs[k].frames.map MFrame.enc)] 0]) (by simp only [go_sem,qW]) ?_
          intro fr0 key hfr0 hkey
          have q1 : fr0 1 = .ptr ⟨0,1,0⟩ 0 := by rw [hfr0]; simp only [go_sem,qW,h1,e1,h2,e2,h6,e6,h5,h101,h102,h103,hc2,hc6,h130]
          have q2 : fr0 2 = .ptr ⟨0,2,0⟩ 0 := by rw [hfr0]; simp only [go_sem,qW,h1,e1,h2,e2,h6,e6,h5,h101,h102,h103,hc2,hc6,h130]
          have q5 : fr0 5 = .int .i64 k := by rw [hfr0]; simp only [go_sem,qW,h1,e1,h2,e2,h6,e6,h5,h101,h102,h103,hc2,hc6,h130]
          obtain ⟨gk,rfl⟩ : ∃ gk,key = ⟨1,0,gk⟩ := ⟨_,hkey⟩
          have hino := hin _ (List.getElem_mem h')
          rw [← k3] at hino
          rw [← objAt_get h'] at hino ⊢
          obtain ⟨c0,hc0⟩ : ∃ c0,c0 = setCnt cnt 1 0 (cnt 1 0 + 1) 0 := ⟨_,rfl⟩
          have hcc : 1 ≤ c0 2 := by rw [hc0]; simpa [setCnt] using hc2
          have hr := right_rounds s k (gk := gk) (c0 := c0) hm2 q1 q2 q5 (fun x hx => hino x ((refs_mem _ _).2 hx)) hcc
          rw [hc0] at hr
          refine (refs_win (s.world.obj k) (small_few (by rw [objAt_get h']; exact hso)) hr ⟨by simp only [go_sem,qW],by simp only [go_sem,e1],by simp only [go_sem,e2],fun x hx _ => hx,fun x hx => hx,by simpa [setCnt] using hc2⟩).mono ?_
          rintro v en' cnt' (⟨i1,i2,i3,i4,i5,i6⟩ | ⟨i1,i3,x,hx,hb⟩)
          ·have hrow : rowOk s k = true := by
            have : (refsL (s.world.obj k)).all (fun r => !refBad s k r) = true := by
             rw [List.all_eq_true]
             intro x hx
             have : refBad s k x = false := by
              rw [← Bool.not_eq_true]
              intro hb
              exact absurd (i4 x ((refs_mem _ _).1 hx) hb) (by simp)
             rw [this]; rfl
            rw [rowOk,hW,this]; rfl
           simp only [go_sem,qC,qG,qW,i1,i2,i3,h1,e1,h2,e2,h6,e6,h5,h101,h102,h103,hc2,hc6,h130]
           refine ⟨_,_,_,rfl,?_⟩
           simp only [go_sem,qC,qG,qW,i2,i3,h1,h2,h101,h102,h103,wrap_succ h' hs.1.objs]
           exact ⟨i6,next hrow⟩
          ·have hrow : rowOk s k = false := by
            have : (refsL (s.world.obj k)).all (fun r => !refBad s k r) = false := by
             rw [List.all_eq_false]
             exact ⟨x,(refs_mem _ _).2 hx,by simp [hb]⟩
            rw [rowOk,hW,this]; rfl
           simp only [go_sem,qC,qG,qW,i1,i3,h2]
           exact bad hrow
      ·have : k = s.world.objs.length := by simp at hq; omega
       subst this
       simp only [go_sem,qC,qG,qW,h1,e1,h2,e2,h101,h102,h103,hc2]
       rw [List.all_eq_true.2 fun i hi => hR i (by simpa using hi)]
   ·simp only [go_sem,qC,qG,qW,g1,g2,g3]
    simp at g3
    simp [lensOk,inR]; intros; omega
  ·simp only [go_sem,qC,qG,qW,g1,g2]
   simp at g2
   simp [lensOk]; intros; omega
 ·simp only [go_sem,qC,qG,qW,g1]
  simp at g1
  simp [lensOk]; intros; omega
theorem reap_Check_pc (p : BProg) (s : RState) (hp : p.few) (hs : s.few) (hsp : smallProg p = true) (hsm : smallWorld s.world = true) : PC L F.reap_Check [.agg [.fz (p.nodes.map BNode.enc),.fz (p.funs.map (.int .i64)),.int .i64 p.main,.fz (p.cons.map BCon.enc)],.agg [.fz (s.world.objs.map MObj.enc),.fz (s.world.tasks.map (.int .i64)),.fz (s.world.outs.map MOut.enc),.fz (s.world.ins.map (.int .i64)),.int .i64 s.world.used,.fz (s.ages.map (.int .i64)),.fz (s.marks.map (.int .i64)),.int .i64 s.cycle]] (.int .i64 (if stateOk p s then 0 else 2)) := by
 refine pc_of LF.reap_Check rfl rfl ?_
 simp only [go_sem,qC,qG,qW,C.reap_Check,(mean_Check_pc p s.world hp hs.1 hsp).ret]
 by_cases hg : given p s.world = true
 ·simp only [hg,if_true]
  simp only [go_sem,qC,qG,qW,(reap_right_pc s hs hsm (given_in hg)).ret]
  refine condK_split (fun h => ?_) (fun h => ?_)
  ·simp only [go_sem,qC,qG,qW]
   have : (lensOk s && rowsOk s) = false := by rw [Bool.not_eq_true'] at h; exact h
   rw [stateOk,hg,Bool.true_and,this]; rfl
  ·simp only [go_sem,qC,qG,qW]
   have : (lensOk s && rowsOk s) = true := by rw [Bool.not_eq_false'] at h; exact h
   rw [stateOk,hg,Bool.true_and,this]; rfl
 ·simp only [hg]
  simp only [go_sem,qC,qG,qW]
  simp only [Bool.not_eq_true] at hg
  rw [stateOk,hg]; rfl
theorem wp_cutE {L : Prog} {c : LCode} {st : St} {Q : Ex → St → Prop} (M : St → Prop) (h : Wp L c st fun e st' => e = .normal ∧ M st') (k : ∀ fr en cnt,M ⟨fr,en,cnt⟩ → Q .normal ⟨fr,en,cnt⟩) : Wp L c st Q :=
 Go.Abs.wp_mono c h fun e s hs => by obtain ⟨rfl,hs⟩ := hs; exact k _ _ _ hs
def ageN (ages : List Int) (r : Int) : Int := ages.getD r.toNat 0
def markB (young : Int → Bool) (w : MWorld) (ages : List Int) (c : Int) (i : Nat) : Int :=
 if isTask (w.obj i) = true then 1
 else if (!decide (c = 3) && decide (ageN ages i = 2)) = true then (if (refsL (w.obj i)).any (fun r => young (ageN ages r)) = true then 1 else 2)
 else 0
theorem ageN_get {l : List Int} {k : Nat} (h : k < l.length) : ageN l k = l[k] := by simp [ageN,List.getD_eq_getElem?_getD,h]
def lt2 (a : Int) : Bool := decide (a < 2)
def marksB (young : Int → Bool) (w : MWorld) (ages : List Int) (c : Int) : List Int := (List.range w.objs.length).map (markB young w ages c)
theorem flat_fz {xs cs : List Val} : (Val.agg (.fz xs :: cs)).flat = false := (rfl)
theorem apply_frz {en : En} {k : Key} : W.apply en (.frz k) = (match en k with
  | some e => en.set k (some e.freeze)
  | none => en) := (rfl)
theorem frz_blk {n : Nat} {cs : List Val} {f : Bool} : Ent.freeze (.blk n cs f) = .blk n cs true := (rfl)
theorem frz_box {cs : List Val} {f : Bool} : Ent.freeze (.box cs f) = .box cs true := (rfl)
def cloneV (size : Nat) : List Val → Val
 | [] => .cl []
 | x :: xs => .own size (x :: xs)
theorem bin_nilm : binVal .neq .map .nilm .nilm = some (.bool false) := (rfl)
theorem bin_es {b : Bool} : binVal .eql .slice (.es b) (.es true) = some (.bool b) := (rfl)
theorem bin_fzc {x : Val} {xs : List Val} : binVal .eql .slice (.fz (x :: xs)) (.es true) = some (.bool false) := (rfl)
section
variable {L : Prog} {fr : Nat → Val} {en : En} {cnt : Nat → Nat → Nat} {Q : St → Prop} {l : List LOper} {d size : Nat} {x y : Opd}
theorem w_append_es {b : Bool} (hx : St.get fr x = .cl []) (hy : St.get fr y = .es b) (k : WOps L l ⟨setFr fr d (.cl []),en,cnt⟩ Q) : WOps L (⟨some d,.append size x y,none⟩ :: l) ⟨fr,en,cnt⟩ Q := by
 rw [w_gen (by rfl)]
 simp only [Option.getD_some,evalW,eval,hx,hy,elemsOf,headOk,if_true,List.isEmpty_nil,wput_some,applyAll_nil]
 exact k
theorem w_append_new {z : Val} {zs : List Val} (hx : St.get fr x = .cl []) (hy : St.get fr y = .fz (z :: zs)) (h1 : headOk size (z :: zs) = true) (hl : (z :: zs).length ≤ 16777216)
  (k : WOps L l ⟨setFr fr d (.bl ⟨0,d,cnt 0 d⟩ 0 (z :: zs).length),en.set ⟨0,d,cnt 0 d⟩ (some (.blk size (z :: zs) false)),setCnt cnt 0 d (cnt 0 d + 1)⟩ Q) : WOps L (⟨some d,.append size x y,none⟩ :: l) ⟨fr,en,cnt⟩ Q := by
 rw [w_gen (by rfl)]
 have he : elemsOf en (.fz (z :: zs)) = some (z :: zs,[]) := elems_fz
 simp only [Option.getD_some,evalW,eval,hx,hy,he,h1,if_true,List.isEmpty_cons,Bool.false_eq_true,if_false]
 rw [if_pos ⟨by simpa using hl,rfl⟩]
 simp only [wput_bump,applyAll_cons,applyAll_nil,apply_ent,List.length_nil,Nat.zero_add,List.nil_append]
 exact k
end
theorem Clone_int_pc (xs : List Val) (h1 : headOk 1 xs = true) (hl : xs.length ≤ 16777216) : PC L F.slices_Clone_s_int_int [.fz xs] (cloneV 1 xs) := by
 cases xs with
 | nil =>
  refine pc_amb LF.slices_Clone_s_int_int rfl rfl (.inl rfl) (body_of ?_) (body_of ?_)
  ·simp only [go_sem,qC,qG,qW,C.slices_Clone_s_int_int,bin_es]
   rfl
  ·simp only [go_sem,qC,qG,qW,C.slices_Clone_s_int_int,bin_es]
   refine w_append_es (b := false) (by simp only [go_sem,qW]) (by simp only [go_sem,qW]) ?_
   simp only [go_sem,qC,qG,qW]
   rfl
 | cons x xs =>
  refine pc_of LF.slices_Clone_s_int_int rfl rfl ?_
  simp only [go_sem,qC,qG,qW,C.slices_Clone_s_int_int,bin_fzc]
  refine w_append_new (by simp only [go_sem,qW]) (by simp only [go_sem,qW]) h1 hl ?_
  simp only [go_sem,qC,qG,qW]
  rfl
theorem Clone_out_pc (xs : List Val) (h1 : headOk 2 xs = true) (hl : xs.length ≤ 16777216) : PC L F.slices_Clone_s_api_MeanOut_api_MeanOut [.fz xs] (cloneV 2 xs) := by
 cases xs with
 | nil =>
  refine pc_amb LF.slices_Clone_s_api_MeanOut_api_MeanOut rfl rfl (.inl rfl) (body_of ?_) (body_of ?_)
  ·simp only [go_sem,qC,qG,qW,C.slices_Clone_s_api_MeanOut_api_MeanOut,bin_es]
   rfl
  ·simp only [go_sem,qC,qG,qW,C.slices_Clone_s_api_MeanOut_api_MeanOut,bin_es]
   refine w_append_es (b := false) (by simp only [go_sem,qW]) (by simp only [go_sem,qW]) ?_
   simp only [go_sem,qC,qG,qW]
   rfl
 | cons x xs =>
  refine pc_of LF.slices_Clone_s_api_MeanOut_api_MeanOut rfl rfl ?_
  simp only [go_sem,qC,qG,qW,C.slices_Clone_s_api_MeanOut_api_MeanOut,bin_fzc]
  refine w_append_new (by simp only [go_sem,qW]) (by simp only [go_sem,qW]) h1 hl ?_
  simp only [go_sem,qC,qG,qW]
  rfl
theorem Clone_val_pc (xs : List Val) (h1 : headOk 2 xs = true) (hl : xs.length ≤ 16777216) : PC L F.slices_Clone_s_api_MeanVal_api_MeanVal [.fz xs] (cloneV 2 xs) := by
 cases xs with
 | nil =>
  refine pc_amb LF.slices_Clone_s_api_MeanVal_api_MeanVal rfl rfl (.inl rfl) (body_of ?_) (body_of ?_)
  ·simp only [go_sem,qC,qG,qW,C.slices_Clone_s_api_MeanVal_api_MeanVal,bin_es]
   rfl
  ·simp only [go_sem,qC,qG,qW,C.slices_Clone_s_api_MeanVal_api_MeanVal,bin_es]
   refine w_append_es (b := false) (by simp only [go_sem,qW]) (by simp only [go_sem,qW]) ?_
   simp only [go_sem,qC,qG,qW]
   rfl
 | cons x xs =>
  refine pc_of LF.slices_Clone_s_api_MeanVal_api_MeanVal rfl rfl ?_
  simp only [go_sem,qC,qG,qW,C.slices_Clone_s_api_MeanVal_api_MeanVal,bin_fzc]
  refine w_append_new (by simp only [go_sem,qW]) (by simp only [go_sem,qW]) h1 hl ?_
  simp only [go_sem,qC,qG,qW]
  rfl
theorem cloneV_ne {size : Nat} {xs : List Val} (h : xs ≠ []) : cloneV size xs = .own size xs := by cases xs <;> first | rfl | exact absurd rfl h
theorem headOk_vals (l : List MVal) : headOk 2 (l.map MVal.enc) = true := by cases l <;> rfl
theorem headOk_outs (l : List MOut) : headOk 2 (l.map MOut.enc) = true := by cases l <;> rfl
theorem headOk_ints (l : List Int) : headOk 1 (l.map (Val.int .i64)) = true := by cases l <;> rfl
theorem renumbered_c1_pc (l : List MVal) (hl : l.length ≤ 16777216) : PC L F.reap_renumbered_c1 [.fz (l.map MVal.enc),.fp [.nilm] 0] (.fz (l.map MVal.enc)) := by
 have hf : Few l.length := by unfold Few; omega
 have hc := Clone_val_pc (l.map MVal.enc) (headOk_vals l) (by simpa using hl)
 refine pc_of LF.reap_renumbered_c1 rfl rfl ?_
 by_cases h0 : l = []
 ·subst h0
  have hc0 := Clone_val_pc [] rfl (by simp)
  simp only [go_sem,qC,qG,qW,C.reap_renumbered_c1,List.map_nil,hc0.ret,show cloneV 2 [] = .cl [] from rfl]
  refine wp_for (0) (fun k st => ∃ fr en cnt,st = ⟨fr,en,cnt⟩ ∧ (fr 0 = .cl []) ∧ (fr 8 = .int .i64 0) ∧ (fr 9 = .int .i64 k)) 0 (Nat.zero_le _) ⟨_,_,_,rfl,(by first | (simp only [go_sem,qW]; (try rfl); done) | rfl | simp),(by first | (simp only [go_sem,qW]; (try rfl); done) | rfl | simp),(by first | (simp only [go_sem,qW]; (try rfl); done) | rfl | simp)⟩ ?_
  rintro k st hk ⟨fr,en,cnt,rfl,h0,h8,h9⟩
  simp only [go_sem,qC,qG,qW,h0,h8,h9]
  have : k = 0 := by omega
  subst this
  simp only [go_sem,qC,qG,qW,h0,h8,h9]
 ·have h0' : l.map MVal.enc ≠ [] := by simpa using h0
  rw [cloneV_ne h0'] at hc
  simp only [go_sem,qC,qG,qW,C.reap_renumbered_c1,hc.ret]
  refine wp_for (l.length) (fun k st => ∃ fr en cnt,st = ⟨fr,en,cnt⟩ ∧ (fr 0 = .bl ⟨0,6,0⟩ 0 l.length) ∧ (en ⟨0,6,0⟩ = some (.blk 2 (l.map MVal.enc) false)) ∧ (fr 1 = .fp [.nilm] 0) ∧ (fr 8 = .int .i64 l.length) ∧ (fr 9 = .int .i64 k)) 0 (Nat.zero_le _) ⟨_,_,_,rfl,(by first | (simp only [go_sem,h0,h8,h9]; (try rfl); done) | rfl | simp),(by first | (simp only [go_sem,h0,h8,h9]; (try rfl); done) | rfl | simp),(by first | (simp only [go_sem,h0,h8,h9]; (try rfl); done) | rfl | simp),(by first | (simp only [go_sem,h0,h8,h9]; (try rfl); done) | rfl | simp),(by first | (simp only [go_sem,h0,h8,h9]; (try rfl); done) | rfl | simp)⟩ ?_
  rintro k st hk ⟨fr,en,cnt,rfl,h0,e6,h1,h8,h9⟩
  simp only [go_sem,qC,qG,qW,h0,e6,h1,h8,h9]
  refine condK_split (fun hq => ?_) (fun hq => ?_)
  ·have h' : k < l.length := of_decide_eq_true hq
   have hx : (l.map MVal.enc)[k]? = some (MVal.enc l[k]) := by simp [h']
   have hc1 : (0 : Int) ≤ (k : Int) := by omega
   have hc2 : (k : Int) < (l.length : Int) := by omega
   simp only [go_sem,qC,qG,qW,h0,e6,h1,h8,h9,h',hx,hc1,hc2,true_and,and_true,eq_self,if_true,Nat.zero_add,Int.toNat_natCast]
   refine guardK_split (fun hg => ?_) (fun hg => ?_)
   ·simp only [go_sem,qC,qG,qW,hg,h0,e6,h1,h8,h9,h',hx,hc1,hc2,true_and,and_true,eq_self,if_true,Nat.zero_add,Int.toNat_natCast]
    try simp only [go_sem,qC,qG,qW,bin_nilm,h0,e6,h1,h8,h9]
    refine ⟨_,_,_,rfl,?_⟩
    simp only [go_sem,qW,h0,e6,h1,h8,h9,wrap_succ h' hf]
   ·simp only [go_sem,qC,qG,qW,hg,h0,e6,h1,h8,h9]
    refine ⟨_,_,_,rfl,?_⟩
    simp only [go_sem,qW,h0,e6,h1,h8,h9,wrap_succ h' hf]
  ·simp only [go_sem,qC,qG,qW,h0,e6,h1,h8,h9,Nat.le_refl,if_true]
   rw [List.take_of_length_le (by simp)]
theorem apart_fv {k k' : Key} : apartWR (.frz k) (.val k') = true := rfl
theorem apart_fc {k k' : Key} {o n : Nat} : apartWR (.frz k) (.cells k' o n) = true := rfl
theorem apart_ff {k k' : Key} : apartWW (.frz k) (.frz k') = true := rfl
theorem apart_fe {k k' : Key} {e : Option Ent} : apartWW (.frz k) (.ent k' e) = decide (k ≠ k') := rfl
theorem apart_fw {k k' : Key} {o : Nat} {vs : List Val} : apartWW (.frz k) (.cells k' o vs) = decide (k ≠ k') := rfl
theorem apart_fl {k k' : Key} : apartWR (.frz k) (.flag k') = decide (k ≠ k') := rfl
theorem apart_cfz {k k' : Key} {o : Nat} {vs : List Val} : apartWW (.cells k o vs) (.frz k') = decide (k ≠ k') := rfl
theorem flat_fz0 {xs : List Val} : (Val.fz xs).flat = false := (rfl)
attribute [go_sem] apart_fv apart_fc apart_ff apart_fe apart_fw apart_fl apart_cfz flat_fz0 flat_fz apply_frz frz_blk frz_box
theorem reap_renumbered_pc (o : MObj) (hs : smallObj o = true) : PC L F.reap_renumbered [.agg [.int .i64 o.form,.int .i64 o.n,.fz (o.vals.map MVal.enc),.fz (o.frames.map MFrame.enc)],.nilm] (.agg [.int .i64 o.form,.int .i64 o.n,.fz (o.vals.map MVal.enc),.fz (o.frames.map MFrame.enc)]) := by
 obtain ⟨b1,b2,b3⟩ := small_obj hs
 have hf : Few o.frames.length := by unfold Few; omega
 refine pc_of LF.reap_renumbered rfl rfl ?_
 simp only [go_sem,qC,qG,qW,C.reap_renumbered,box_any (v := .nilm) rfl rfl]
 refine wp_foot ?_
 simp only [go_sem,qC,qG,qW,List.all_cons,List.getElem?_cons_zero,List.getElem?_cons_succ,Bool.true_or,Bool.or_true,Bool.false_eq_true,if_false,(renumbered_c1_pc o.vals (by omega)).ret]
 refine wp_for o.frames.length (fun k st => ∃ fr en cnt v,st = ⟨fr,en,cnt⟩ ∧ fr 4 = .ptr ⟨0,4,0⟩ 0 ∧ en ⟨0,4,0⟩ = some (.box [.int .i64 0,.int .i64 0,.cl [],.cl []] false) ∧ en ⟨0,3,0⟩ = some (.box [.nilm] true) ∧ fr 5 = .fn F.reap_renumbered_c1 [] [.ptr ⟨0,3,0⟩ 0] ∧ fr 6 = .ptr ⟨0,6,0⟩ 0 ∧ en ⟨0,6,0⟩ = some (.box [.int .i64 o.form,.int .i64 o.n,.fz (o.vals.map MVal.enc),v] false) ∧ fr 20 = .fz (o.frames.map MFrame.enc) ∧ fr 21 = .int .i64 o.frames.length ∧ fr 22 = .int .i64 k ∧ Mine en v 3 ((o.frames.take k).map MFrame.enc) [40]) 0 (Nat.zero_le _) ⟨_,_,_,.cl [],rfl,by simp only [go_sem,qW],by simp only [go_sem,qW],by simp only [go_sem,qW],by simp only [go_sem,qW],by simp only [go_sem,qW],by simp only [go_sem,qW],by simp only [go_sem,qW],by simp only [go_sem,qW],by simp only [go_sem,qW],Mine.nil _ _⟩ ?_
 rintro k st hk ⟨fr,en,cnt,v,rfl,h4,e4,e3,h5,h6,e6,h20,h21,h22,hv⟩
 simp only [go_sem,qC,qG,qW,h4,e4,e3,h5,h6,e6,h20,h21,h22]
 refine condK_split (fun hq => ?_) (fun hq => ?_)
 ·have h' : k < o.frames.length := of_decide_eq_true hq
  have hb := b3 _ (List.getElem_mem h')
  simp only [go_sem,qC,qG,qW,h',h4,e4,e3,h5,h6,e6,h20,h21,h22]
  refine wp_foot ?_
  simp only [go_sem,qC,qG,qW,h',h4,e4,e3,h5,h6,e6,h20,h21,h22,List.all_cons,List.getElem?_cons_zero,List.getElem?_cons_succ,Bool.true_or,Bool.or_true,Bool.false_eq_true,if_false,(renumbered_c1_pc _ (show o.frames[k].env.length ≤ 16777216 by omega)).ret,(renumbered_c1_pc _ (show o.frames[k].vals.length ≤ 16777216 by omega)).ret]
  refine wf_append (D := [40]) (xs := (o.frames.take k).map MFrame.enc) (ys := [MFrame.enc o.frames[k]]) (rs := []) ?_ ?_ ?_ rfl ?_ ?_
  ·simp only [go_sem,qW]
   exact hv.keep fun t g ht => by simp at ht; subst ht; simp only [go_sem,qW]
  ·simp only [go_sem,qW]
  ·rfl
  ·simp; omega
  ·intro v' en' cnt' r hown hen hcnt _ _ _
   have k3 : en' ⟨0,3,0⟩ = some (.box [.nilm] true) := by rw [hen 0 3 0 (.inr ⟨by decide,by simp⟩)]; simp only [go_sem,qW,e3]
   have k4 : en' ⟨0,4,0⟩ = some (.box [.int .i64 0,.int .i64 0,.cl [],.cl []] false) := by rw [hen 0 4 0 (.inr ⟨by decide,by simp⟩)]; simp only [go_sem,qW,e4]
   have k6 : en' ⟨0,6,0⟩ = some (.box [.int .i64 o.form,.int .i64 o.n,.fz (o.vals.map MVal.enc),v] false) := by rw [hen 0 6 0 (.inr ⟨by decide,by simp⟩)]; simp only [go_sem,qW,e6]
   obtain ⟨s1,s2⟩ := hown.shape
   simp only [go_sem,qC,qG,qW,h4,k4,k3,h5,h6,k6,h20,h21,h22,s1,s2,List.all_cons,List.getElem?_cons_zero,List.getElem?_cons_succ,Bool.true_or,Bool.or_true,Bool.false_eq_true,if_false]
   refine ⟨_,_,_,v',rfl,?_⟩
   simp only [go_sem,qC,qG,qW,h4,k4,k3,h5,h6,k6,h20,h21,h22,wrap_succ h' hf]
   rw [take_step h',List.map_append]
   refine Mine.sub (D := [40,40]) (Mine.keep (en := en') hown ?_) (by simp)
   intro t g ht; simp at ht; subst ht; simp only [go_sem,qW]
 ·have : k = o.frames.length := by simp at hq; omega
  subst this
  rw [List.take_length] at hv
  simp only [go_sem,qC,qG,qW,h4,e4,e3,h5,h6,e6,h20,h21,h22]
  obtain ⟨r,ks,s1,s2,_⟩ := (hv.keep (en' := en.set ⟨0,4,0⟩ (some (.box [.int .i64 o.form,.int .i64 o.n,.fz (o.vals.map MVal.enc),v] false))) fun t g ht => by simp at ht; subst ht; simp only [go_sem,qW]).snap 6
  simp only [go_sem,qC,qG,qW,s1,s2]
theorem one_cl {xs : List Val} : (Val.cl xs).one = true := (rfl)
theorem cells_cl {xs : List Val} : (Val.cl xs).cells = [.cl xs] := (rfl)
theorem one_bl {k : Key} {a b : Nat} : (Val.bl k a b).one = true := (rfl)
theorem cells_bl {k : Key} {a b : Nat} : (Val.bl k a b).cells = [.bl k a b] := (rfl)
theorem flat_mo {a b : IntKind} {i j : Int} {xs : List Val} {cs : List Val} : (Val.agg (.int a i :: .int b j :: .fz xs :: cs)).flat = false := (rfl)
theorem mine_bl {en : En} {t g n size : Nat} {xs : List Val} {f : Bool} (h : en ⟨0,t,g⟩ = some (.blk size xs f)) (hx : n = xs.length) : Mine en (.bl ⟨0,t,g⟩ 0 n) size xs [t] := .inr ⟨t,g,f,by rw [hx],h,by simp⟩
theorem clone_cases (size : Nat) (xs : List Val) : (xs = [] ∧ cloneV size xs = .cl []) ∨ (xs ≠ [] ∧ cloneV size xs = .own size xs) := by
 cases xs with
 | nil => exact .inl ⟨rfl,rfl⟩
 | cons x xs => exact .inr ⟨by simp,rfl⟩
theorem take_map_len {α : Type} {f : α → Val} {l : List α} : (l.map f).take l.length = l.map f := List.take_of_length_le (by simp)
theorem smallW_len {w : MWorld} (h : smallWorld w = true) : w.objs.length ≤ 130 ∧ w.tasks.length ≤ 130 ∧ w.outs.length ≤ 110 ∧ w.ins.length ≤ 60 := by
 simp only [smallWorld,Bool.and_eq_true,decide_eq_true_eq] at h
 omega
theorem reap_copied_pc (w : MWorld) (hw : w.few) (hs : smallWorld w = true) : PC L F.reap_copied [.agg [.fz (w.objs.map MObj.enc),.fz (w.tasks.map (.int .i64)),.fz (w.outs.map MOut.enc),.fz (w.ins.map (.int .i64)),.int .i64 w.used]] (.agg [.fz (w.objs.map MObj.enc),.fz (w.tasks.map (.int .i64)),.fz (w.outs.map MOut.enc),.fz (w.ins.map (.int .i64)),.int .i64 w.used]) := by
 obtain ⟨b1,b2,b3,b4⟩ := smallW_len hs
 have c1 := Clone_int_pc (w.tasks.map (.int .i64)) (headOk_ints _) (by simp; omega)
 have c2 := Clone_out_pc (w.outs.map MOut.enc) (headOk_outs _) (by simp; omega)
 have c3 := Clone_int_pc (w.ins.map (.int .i64)) (headOk_ints _) (by simp; omega)
 refine pc_of LF.reap_copied rfl rfl ?_
 simp only [go_sem,qC,qG,qW,C.reap_copied]
 refine wp_cutE (fun st => st.fr 2 = .ptr ⟨0,2,0⟩ 0 ∧ st.en ⟨0,2,0⟩ = some (.box [.cl [],.cl [],.cl [],.cl [],.int .i64 0] false) ∧ st.fr 1 = .ptr ⟨0,1,0⟩ 0 ∧ st.en ⟨0,1,0⟩ = some (.box [.fz (w.objs.map MObj.enc),.fz (w.tasks.map (.int .i64)),.fz (w.outs.map MOut.enc),.fz (w.ins.map (.int .i64)),.int .i64 w.used] false) ∧ st.fr 3 = .ptr ⟨0,3,0⟩ 0 ∧
  ∃ vT vO vI,st.en ⟨0,3,0⟩ = some (.box [.cl [],vT,vO,vI,.int .i64 w.used] false) ∧ Mine st.en vT 1 (w.tasks.map (.int .i64)) [8] ∧ Mine st.en vO 2 (w.outs.map MOut.enc) [11] ∧ Mine st.en vI 1 (w.ins.map (.int .i64)) [14]) ?_ ?_
 ·refine wp_foot ?_
  rcases clone_cases 1 (w.tasks.map (Val.int .i64)) with ⟨t1,t2⟩ | ⟨t1,t2⟩ <;> rw [t2] at c1 <;>
  rcases clone_cases 2 (w.outs.map MOut.enc) with ⟨o1,o2⟩ | ⟨o1,o2⟩ <;> rw [o2] at c2 <;>
  rcases clone_cases 1 (w.ins.map (Val.int .i64)) with ⟨i1,i2⟩ | ⟨i1,i2⟩ <;> rw [i2] at c3
  all_goals simp only [go_sem,qC,qG,qW,List.all_cons,List.getElem?_cons_zero,List.getElem?_cons_succ,Bool.true_or,Bool.or_true,Bool.false_eq_true,if_false,Option.getD_some,c1.ret,c2.ret,c3.ret,List.length_map,Nat.le_refl,if_true,take_map_len,one_cl,cells_cl,one_bl,cells_bl]
  all_goals refine ⟨_,_,_,rfl,?_,?_,?_⟩
  all_goals first
   | exact .inl ⟨rfl,by assumption⟩
   | exact mine_bl (by simp only [go_sem,qW]; try rfl) (by simp only [List.length_map])
 ·rintro fr en cnt ⟨h2,e2,h1,e1,h3,vT,vO,vI,e3,mT,mO,mI⟩
  dsimp only at h2 e2 h1 e1 h3 e3 mT mO mI
  simp only [go_sem,qC,qG,qW,h2,e2,h1,e1,h3,e3]
  refine wp_for w.objs.length (fun k st => ∃ fr en cnt v,st = ⟨fr,en,cnt⟩ ∧ fr 2 = .ptr ⟨0,2,0⟩ 0 ∧ en ⟨0,2,0⟩ = some (.box [.cl [],.cl [],.cl [],.cl [],.int .i64 0] false) ∧ fr 3 = .ptr ⟨0,3,0⟩ 0 ∧ en ⟨0,3,0⟩ = some (.box [v,vT,vO,vI,.int .i64 w.used] false) ∧ fr 19 = .fz (w.objs.map MObj.enc) ∧ fr 20 = .int .i64 w.objs.length ∧ fr 21 = .int .i64 k ∧
   Mine en vT 1 (w.tasks.map (.int .i64)) [8] ∧ Mine en vO 2 (w.outs.map MOut.enc) [11] ∧ Mine en vI 1 (w.ins.map (.int .i64)) [14] ∧ Mine en v 4 ((w.objs.take k).map MObj.enc) [30]) 0 (Nat.zero_le _) ⟨_,_,_,.cl [],rfl,by simp only [go_sem,h2],by simp only [go_sem,e2],by simp only [go_sem,h3],by simp only [go_sem,e3],by simp only [go_sem,qW],by simp only [go_sem,qW],by simp only [go_sem,qW],mT,mO,mI,Mine.nil _ _⟩ ?_
  rintro k st hk ⟨fr,en,cnt,v,rfl,h2,e2,h3,e3,h19,h20,h21,mT,mO,mI,hv⟩
  simp only [go_sem,qC,qG,qW,h2,e2,h3,e3,h19,h20,h21]
  refine condK_split (fun hq => ?_) (fun hq => ?_)
  ·have h' : k < w.objs.length := of_decide_eq_true hq
   have hso := smallW_obj hs _ (List.getElem_mem h')
   simp only [go_sem,qC,qG,qW,h',h2,e2,h3,e3,h19,h20,h21]
   refine wp_foot ?_
   simp only [go_sem,qC,qG,qW,h',h2,e2,h3,e3,h19,h20,h21,List.all_cons,List.getElem?_cons_zero,List.getElem?_cons_succ,Bool.true_or,Bool.or_true,Bool.false_eq_true,if_false,flat_mo,(reap_renumbered_pc _ hso).ret]
   refine wf_append (D := [30]) (xs := (w.objs.take k).map MObj.enc) (ys := [MObj.enc w.objs[k]]) (rs := []) ?_ ?_ ?_ rfl ?_ ?_
   ·simp only [go_sem,qW]
    exact hv.keep fun t g ht => by simp at ht; subst ht; simp only [go_sem,qW]
   ·simp only [go_sem,qW]
   ·rfl
   ·simp; omega
   ·intro v' en' cnt' r hown hen hcnt _ _ _
    have k2 : en' ⟨0,2,0⟩ = some (.box [.cl [],.cl [],.cl [],.cl [],.int .i64 0] false) := by rw [hen 0 2 0 (.inr ⟨by decide,by simp⟩)]; simp only [go_sem,qW,e2]
    have k3 : en' ⟨0,3,0⟩ = some (.box [v,vT,vO,vI,.int .i64 w.used] false) := by rw [hen 0 3 0 (.inr ⟨by decide,by simp⟩)]; simp only [go_sem,qW,e3]
    obtain ⟨s1,s2⟩ := hown.shape
    simp only [go_sem,qC,qG,qW,h2,k2,h3,k3,h19,h20,h21,s1,s2,List.all_cons,List.getElem?_cons_zero,List.getElem?_cons_succ,Bool.true_or,Bool.or_true,Bool.false_eq_true,if_false]
    refine ⟨_,_,_,v',rfl,?_⟩
    simp only [go_sem,qC,qG,qW,h2,k2,h3,k3,h19,h20,h21,wrap_succ h' hw.objs]
    refine ⟨mT.keep ?_,mO.keep ?_,mI.keep ?_,?_⟩
    ·intro t g ht; simp at ht; subst ht
     rw [en_ne (by simp),hen 0 8 g (.inr ⟨by decide,by simp⟩)]; simp only [go_sem,qW]
    ·intro t g ht; simp at ht; subst ht
     rw [en_ne (by simp),hen 0 11 g (.inr ⟨by decide,by simp⟩)]; simp only [go_sem,qW]
    ·intro t g ht; simp at ht; subst ht
     rw [en_ne (by simp),hen 0 14 g (.inr ⟨by decide,by simp⟩)]; simp only [go_sem,qW]
    ·rw [take_step h',List.map_append]
     refine Mine.sub (D := [30,30]) (Mine.keep (en := en') hown ?_) (by simp)
     intro t g ht; simp at ht; subst ht; simp only [go_sem,qW]
  ·have : k = w.objs.length := by simp at hq; omega
   subst this
   rw [List.take_length] at hv
   simp only [go_sem,qC,qG,qW,h2,e2,h3,e3,h19,h20,h21,mT.shape.1,mT.shape.2,mO.shape.1,mO.shape.2,mI.shape.1,mI.shape.2,hv.shape.1,hv.shape.2]
   obtain ⟨r1,ks1,s1,s1',_⟩ := (hv.keep (en' := en.set ⟨0,2,0⟩ (some (.box [v,vT,vO,vI,.int .i64 w.used] false))) fun t g ht => by simp at ht; subst ht; simp only [go_sem,qW]).snap 6
   obtain ⟨r2,ks2,s2,s2',_⟩ := (mT.keep (en' := en.set ⟨0,2,0⟩ (some (.box [v,vT,vO,vI,.int .i64 w.used] false))) fun t g ht => by simp at ht; subst ht; simp only [go_sem,qW]).snap 6
   obtain ⟨r3,ks3,s3,s3',_⟩ := (mO.keep (en' := en.set ⟨0,2,0⟩ (some (.box [v,vT,vO,vI,.int .i64 w.used] false))) fun t g ht => by simp at ht; subst ht; simp only [go_sem,qW]).snap 6
   obtain ⟨r4,ks4,s4,s4',_⟩ := (mI.keep (en' := en.set ⟨0,2,0⟩ (some (.box [v,vT,vO,vI,.int .i64 w.used] false))) fun t g ht => by simp at ht; subst ht; simp only [go_sem,qW]).snap 6
   simp only [go_sem,qC,qG,qW,s1,s2,s3,s4,s1',s2',s3',s4']
def marksTo (m : Nat → Int) (n k : Nat) : List Int := (List.range n).map fun i => if i < k then m i else 0
theorem marksTo_zero (m : Nat → Int) (n : Nat) : (marksTo m n 0).map (Val.int .i64) = List.replicate n (.int .i64 0) := by
 simp [marksTo,List.map_const']
theorem marksTo_len (m : Nat → Int) (n k : Nat) : (marksTo m n k).length = n := by simp [marksTo]
theorem marksTo_get {m : Nat → Int} {n k : Nat} (h : k < n) : ((marksTo m n k).map (Val.int .i64))[k]? = some (.int .i64 0) := by simp [marksTo,h]
theorem marksTo_set {m : Nat → Int} {n k : Nat} : ((marksTo m n k).map (Val.int .i64)).set k (.int .i64 (m k)) = (marksTo m n (k + 1)).map (.int .i64) := by
 apply List.ext_getElem
 ·simp [marksTo]
 ·intro i h1 h2
  simp only [List.getElem_set,List.getElem_map,marksTo,List.getElem_range]
  by_cases h : k = i
  ·subst h; simp
  ·rw [if_neg h]
   by_cases hi : i < k
   ·rw [if_pos hi,if_pos (by omega)]
   ·rw [if_neg hi,if_neg (by omega)]
theorem marksTo_skip {m : Nat → Int} {n k : Nat} (h0 : m k = 0) : marksTo m n (k + 1) = marksTo m n k := by
 unfold marksTo
 refine List.map_congr_left fun i _ => ?_
 by_cases h : i = k
 ·subst h; simp [h0]
 ·by_cases hi : i < k
  ·rw [if_pos hi,if_pos (by omega)]
  ·rw [if_neg hi,if_neg (by omega)]
theorem marksTo_full (m : Nat → Int) (n : Nat) : marksTo m n n = (List.range n).map m := by
 unfold marksTo
 refine List.map_congr_left fun i hi => ?_
 rw [if_pos (by simpa using hi)]
theorem mine_fz {en : En} {v : Val} {size : Nat} {xs : List Val} {D : List Nat} (h : Mine en v size xs D) (hx : xs ≠ []) (n : Nat) : ∃ ks,snapD (n + 1) en v = some (.fz xs,ks) := by
 rcases h with ⟨_,h⟩ | ⟨t,g,f,rfl,h2,_⟩
 ·exact absurd h hx
 ·exact ⟨[⟨0,t,g⟩],by simp [snapD,h2]⟩
section
variable {α : Type} {f g : Nat → α} {n k : Nat}
end
theorem MFrame.eq_iff {a b : MFrame} : decide (a = b) = (decide (a.node = b.node) && decide (a.env = b.env) && decide (a.vals = b.vals)) := by
 cases a; cases b; simp [Bool.and_assoc]
theorem MObj.eq_iff {a b : MObj} : decide (a = b) = (decide (a.form = b.form) && decide (a.n = b.n) && decide (a.vals = b.vals) && decide (a.frames = b.frames)) := by
 cases a; cases b; simp [Bool.and_assoc]
def MineO (en : En) (v : Val) (size : Nat) (xs : List Val) (t : Nat) : Prop := (v = .cl [] ∧ xs = []) ∨ ∃ g,v = .bl ⟨0,t,g⟩ 0 xs.length ∧ en ⟨0,t,g⟩ = some (.blk size xs false)
theorem MineO.mine {en : En} {v : Val} {size : Nat} {xs : List Val} {t : Nat} (h : MineO en v size xs t) : Mine en v size xs [t] := by
 rcases h with h | ⟨g,h1,h2⟩
 ·exact .inl h
 ·exact .inr ⟨t,g,false,h1,h2,by simp⟩
theorem mineO_bl {en : En} {t g n size : Nat} {xs : List Val} (h : en ⟨0,t,g⟩ = some (.blk size xs false)) (hx : n = xs.length) : MineO en (.bl ⟨0,t,g⟩ 0 n) size xs t := .inr ⟨g,by rw [hx],h⟩
theorem apart_own {ws : List W} {d : Nat} {D : List Nat} (h : ∀ w ∈ ws,w.key.n = 0 ∧ (w.key.t = d ∨ w.key.t ∈ D) ∧ ∃ e,w = .ent w.key e) {t' g' : Nat} (ht : t' ≠ d ∧ t' ∉ D) (o n : Nat) : (ws.all fun w => apartWR w (.cells ⟨0,t',g'⟩ o n)) = true := by
 rw [List.all_eq_true]
 intro w hw
 obtain ⟨h1,h2,e,h3⟩ := h w hw
 rw [h3,apart_ew]
 refine decide_eq_true ?_
 intro he
 rw [he] at h2
 rcases h2 with h2 | h2
 ·exact ht.1 h2
 ·exact ht.2 h2
theorem all_tt {α : Type} {l : List α} : (l.all fun _ => true) = true := by simp
end Go.Proofs.YthpmfghgoabnhaaGreat
namespace Go.Proofs.YthpmfghgoabnhaaGreat
open Go.Abs Go.Proofs
def movedV (keep : List Int) (v : MVal) : MVal := ⟨v.kind,if isRef v = true then (keep.idxOf v.n : Int) else v.n⟩
def movedL (keep : List Int) (l : List MVal) : List MVal := l.map (movedV keep)
def movedF (keep : List Int) (f : MFrame) : MFrame := ⟨f.node,movedL keep f.env,movedL keep f.vals⟩
def movedO (keep : List Int) (o : MObj) : MObj := ⟨o.form,o.n,movedL keep o.vals,o.frames.map (movedF keep)⟩
def compactW (w : MWorld) (keep : List Int) : MWorld := ⟨keep.map fun n => movedO keep (w.obj n),w.tasks.map fun t => (keep.idxOf t : Int),w.outs,w.ins,w.used⟩
theorem idx_step {l : List Int} {n : Int} {k : Nat} (h : k < l.length) : (l.drop k).idxOf n = if l[k] = n then 0 else (l.drop (k + 1)).idxOf n + 1 := by
 rw [List.drop_eq_getElem_cons h,List.idxOf_cons]
 by_cases hx : l[k] = n
 ·simp [hx]
 ·have hb : (l[k] == n) = false := by simpa using hx
  rw [hb,if_neg hx]; rfl
theorem moved_take {keep : List Int} {l : List MVal} {k : Nat} (h : k < l.length) : (l.take (k + 1)).map (movedV keep) = (l.take k).map (movedV keep) ++ [movedV keep l[k]] := by rw [take_step h,List.map_append]; rfl
theorem aloneO_step {w : MWorld} {keep : List Int} {k : Nat} (h : k < keep.length) : ((keep.take (k + 1)).map fun n => movedO keep (w.obj n)) = ((keep.take k).map fun n => movedO keep (w.obj n)) ++ [movedO keep (w.obj keep[k])] := by rw [take_step h,List.map_append]; rfl
theorem small_frames {o : MObj} (h : smallObj o = true) : o.frames.length ≤ 50 ∧ o.vals.length ≤ 40 ∧ ∀ f ∈ o.frames,f.env.length ≤ 40 ∧ f.vals.length ≤ 40 := by
 obtain ⟨b1,b2,b3⟩ := small_obj h
 exact ⟨by omega,by omega,fun f hf => by have := b3 f hf; omega⟩
theorem obj_mem {w : MWorld} {i : Int} (h : inR i 0 ((w.objs.length : Int) - 1) = true) : w.obj i ∈ w.objs := by
 simp only [inR,decide_eq_true_eq] at h
 obtain ⟨j,rfl⟩ := Int.eq_ofNat_of_zero_le h.1
 have hj : j < w.objs.length := by omega
 rw [objAt_get hj]; exact List.getElem_mem _
theorem movedF_enc (keep : List Int) (f : MFrame) : (movedF keep f).enc = .agg [.int .i64 f.node,.fz ((movedL keep f.env).map MVal.enc),.fz ((movedL keep f.vals).map MVal.enc)] := rfl
theorem movedO_enc (keep : List Int) (o : MObj) : (movedO keep o).enc = .agg [.int .i64 o.form,.int .i64 o.n,.fz ((movedL keep o.vals).map MVal.enc),.fz ((o.frames.map (movedF keep)).map MFrame.enc)] := rfl
end Go.Proofs.YthpmfghgoabnhaaGreat
