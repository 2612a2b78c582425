/- Contracts: what is formed, by the program. -/
import Derived.Test.YthpmfghgoabnhaaGreatW5
set_option linter.all false
namespace Go.Proofs.YthpmfghgoabnhaaGreat
open Go.Abs Go.Proofs
theorem idx_BCon (l : List BCon) (h : Val) (p : BCon → Bool) (hl : Few l.length) (hc : AsksT L (fun x : BCon => .agg [.str x.name, .int .i64 x.args]) h p l) :
    PC L F.slices_IndexFunc_s_api_BindCon_api_BindCon [.fz (l.map BCon.enc), h] (.int .i64 (idxOf p l 0)) := by
  refine pc_of LF.slices_IndexFunc_s_api_BindCon_api_BindCon rfl rfl ?_
  simp only [go_sem, qC, qG, qW, C.slices_IndexFunc_s_api_BindCon_api_BindCon]
  refine wp_for (l.length) (fun k st => ∃ fr en cnt, st = ⟨fr, en, cnt⟩ ∧ (fr 0 = .fz (l.map BCon.enc)) ∧ (fr 1 = h) ∧ (fr 7 = .int .i64 l.length) ∧ (fr 8 = .int .i64 k) ∧ (idxOf p (l.drop k) k = idxOf p l 0)) 0 (Nat.zero_le _) ⟨_, _, _, rfl, (by first | (simp only [go_sem, qW]; (try rfl); done) | rfl | simp), (by first | (simp only [go_sem, qW]; (try rfl); done) | rfl | simp), (by first | (simp only [go_sem, qW]; (try rfl); done) | rfl | simp), (by first | (simp only [go_sem, qW]; (try rfl); done) | rfl | simp), (by first | (simp only [go_sem, qW]; (try rfl); done) | rfl | simp)⟩ ?_
  rintro k st hk ⟨fr, en, cnt, rfl, h0, h1, h7, h8, hI⟩
  simp only [go_sem, qC, qG, qW, h0, h1, h7, h8]
  refine condK_split (fun hq => ?_) (fun hq => ?_)
  · have h' : k < l.length := of_decide_eq_true hq
    rw [List.drop_eq_getElem_cons h', idxOf] at hI
    simp only [go_sem, qC, qG, qW, h', h0, h1, h7, h8]
    refine hc.call l[k] (List.getElem_mem _) _ _ ?_
    simp only [go_sem, qC, qG, qW, h0, h1, h7, h8]
    refine condK_split (fun hb => ?_) (fun hb => ?_)
    · simp only [go_sem, qC, qG, qW, h0, h1, h7, h8]
      rw [hb, if_pos rfl] at hI
      rw [← hI]
    · simp only [go_sem, qC, qG, qW, h', h0, h1, h7, h8]
      rw [hb] at hI
      simp at hI
      refine ⟨_, _, _, rfl, ?_⟩
      simp only [go_sem, qW, h0, h1, h7, h8, wrap_succ h' hl]
      exact hI
  · have : k = l.length := by simp at hq; omega
    subst this
    simp only [go_sem, qC, qG, qW, h0, h1, h7, h8]
    rw [← hI]; simp [idxOf]
theorem cont_BCon (l : List BCon) (h : Val) (p : BCon → Bool) (hl : Few l.length) (hc : AsksT L (fun x : BCon => .agg [.str x.name, .int .i64 x.args]) h p l) :
    PC L F.slices_ContainsFunc_s_api_BindCon_api_BindCon [.fz (l.map BCon.enc), h] (.bool (l.any p)) := by
  refine pc_of LF.slices_ContainsFunc_s_api_BindCon_api_BindCon rfl rfl ?_
  simp only [go_sem, qC, qG, qW, C.slices_ContainsFunc_s_api_BindCon_api_BindCon, hc.snap, hc.wk, (idx_BCon l h p hl hc).ret]
  rw [← idxOf_any p l 0]
theorem bind_every_api_BindCon_c1_pc (l : List BCon) (h : Val) (p : BCon → Bool) (hc : AsksT L (fun x : BCon => .agg [.str x.name, .int .i64 x.args]) h p l) (x : BCon) (hx : x ∈ l) :
    PC L F.bind_every_api_BindCon_c1 [.agg [.str x.name, .int .i64 x.args], .fp [h] 0] (.bool (!p x)) := by
  refine pc_of LF.bind_every_api_BindCon_c1 rfl rfl ?_
  simp only [go_sem, qC, qG, qW, C.bind_every_api_BindCon_c1]
  refine hc.call x hx _ _ ?_
  simp only [go_sem, qC, qG, qW]
theorem bind_every_api_BindCon_pc (l : List BCon) (h : Val) (p : BCon → Bool) (hl : Few l.length) (hc : AsksT L (fun x : BCon => .agg [.str x.name, .int .i64 x.args]) h p l) :
    PC L F.bind_every_api_BindCon [.fz (l.map BCon.enc), h] (.bool (l.all p)) := by
  have hd : AsksT L (fun x : BCon => .agg [.str x.name, .int .i64 x.args]) (.fn F.bind_every_api_BindCon_c1 [] [.fp [h] 0]) (fun x => !p x) l := by
    refine ⟨fun n en hn => ?_, rfl, rfl, rfl, fun x hx en K hK => ?_⟩
    · obtain ⟨m, rfl⟩ : ∃ m, n = m + 4 := ⟨n - 4, by omega⟩
      simp only [go_sem, qW]
    · simp only [go_sem, qW, (bind_every_api_BindCon_c1_pc l h p hc x hx).ret]
      exact hK
  refine pc_of LF.bind_every_api_BindCon rfl rfl ?_
  simp only [go_sem, qC, qG, qW, C.bind_every_api_BindCon, box_any hc.one hc.cells, hc.snap, hc.wk, (cont_BCon l _ _ hl hd).ret]
  rw [← List.not_all_eq_any_not, Bool.not_not]
theorem idx_BNode (l : List BNode) (h : Val) (p : BNode → Bool) (hl : Few l.length) (hc : AsksT L (fun x : BNode => .agg [.int .i64 x.op, .int .i64 x.n, .fz (x.kids.map (.int .i64)), .fz (x.pats.map Pat.enc)]) h p l) :
    PC L F.slices_IndexFunc_s_api_BindNode_api_BindNode [.fz (l.map BNode.enc), h] (.int .i64 (idxOf p l 0)) := by
  refine pc_of LF.slices_IndexFunc_s_api_BindNode_api_BindNode rfl rfl ?_
  simp only [go_sem, qC, qG, qW, C.slices_IndexFunc_s_api_BindNode_api_BindNode]
  refine wp_for (l.length) (fun k st => ∃ fr en cnt, st = ⟨fr, en, cnt⟩ ∧ (fr 0 = .fz (l.map BNode.enc)) ∧ (fr 1 = h) ∧ (fr 7 = .int .i64 l.length) ∧ (fr 8 = .int .i64 k) ∧ (idxOf p (l.drop k) k = idxOf p l 0)) 0 (Nat.zero_le _) ⟨_, _, _, rfl, (by first | (simp only [go_sem, qW]; (try rfl); done) | rfl | simp), (by first | (simp only [go_sem, qW]; (try rfl); done) | rfl | simp), (by first | (simp only [go_sem, qW]; (try rfl); done) | rfl | simp), (by first | (simp only [go_sem, qW]; (try rfl); done) | rfl | simp), (by first | (simp only [go_sem, qW]; (try rfl); done) | rfl | simp)⟩ ?_
  rintro k st hk ⟨fr, en, cnt, rfl, h0, h1, h7, h8, hI⟩
  simp only [go_sem, qC, qG, qW, h0, h1, h7, h8]
  refine condK_split (fun hq => ?_) (fun hq => ?_)
  · have h' : k < l.length := of_decide_eq_true hq
    rw [List.drop_eq_getElem_cons h', idxOf] at hI
    simp only [go_sem, qC, qG, qW, h', h0, h1, h7, h8]
    refine hc.call l[k] (List.getElem_mem _) _ _ ?_
    simp only [go_sem, qC, qG, qW, h0, h1, h7, h8]
    refine condK_split (fun hb => ?_) (fun hb => ?_)
    · simp only [go_sem, qC, qG, qW, h0, h1, h7, h8]
      rw [hb, if_pos rfl] at hI
      rw [← hI]
    · simp only [go_sem, qC, qG, qW, h', h0, h1, h7, h8]
      rw [hb] at hI
      simp at hI
      refine ⟨_, _, _, rfl, ?_⟩
      simp only [go_sem, qW, h0, h1, h7, h8, wrap_succ h' hl]
      exact hI
  · have : k = l.length := by simp at hq; omega
    subst this
    simp only [go_sem, qC, qG, qW, h0, h1, h7, h8]
    rw [← hI]; simp [idxOf]
theorem cont_BNode (l : List BNode) (h : Val) (p : BNode → Bool) (hl : Few l.length) (hc : AsksT L (fun x : BNode => .agg [.int .i64 x.op, .int .i64 x.n, .fz (x.kids.map (.int .i64)), .fz (x.pats.map Pat.enc)]) h p l) :
    PC L F.slices_ContainsFunc_s_api_BindNode_api_BindNode [.fz (l.map BNode.enc), h] (.bool (l.any p)) := by
  refine pc_of LF.slices_ContainsFunc_s_api_BindNode_api_BindNode rfl rfl ?_
  simp only [go_sem, qC, qG, qW, C.slices_ContainsFunc_s_api_BindNode_api_BindNode, hc.snap, hc.wk, (idx_BNode l h p hl hc).ret]
  rw [← idxOf_any p l 0]
theorem bind_every_api_BindNode_c1_pc (l : List BNode) (h : Val) (p : BNode → Bool) (hc : AsksT L (fun x : BNode => .agg [.int .i64 x.op, .int .i64 x.n, .fz (x.kids.map (.int .i64)), .fz (x.pats.map Pat.enc)]) h p l) (x : BNode) (hx : x ∈ l) :
    PC L F.bind_every_api_BindNode_c1 [.agg [.int .i64 x.op, .int .i64 x.n, .fz (x.kids.map (.int .i64)), .fz (x.pats.map Pat.enc)], .fp [h] 0] (.bool (!p x)) := by
  refine pc_of LF.bind_every_api_BindNode_c1 rfl rfl ?_
  simp only [go_sem, qC, qG, qW, C.bind_every_api_BindNode_c1]
  refine hc.call x hx _ _ ?_
  simp only [go_sem, qC, qG, qW]
theorem bind_every_api_BindNode_pc (l : List BNode) (h : Val) (p : BNode → Bool) (hl : Few l.length) (hc : AsksT L (fun x : BNode => .agg [.int .i64 x.op, .int .i64 x.n, .fz (x.kids.map (.int .i64)), .fz (x.pats.map Pat.enc)]) h p l) :
    PC L F.bind_every_api_BindNode [.fz (l.map BNode.enc), h] (.bool (l.all p)) := by
  have hd : AsksT L (fun x : BNode => .agg [.int .i64 x.op, .int .i64 x.n, .fz (x.kids.map (.int .i64)), .fz (x.pats.map Pat.enc)]) (.fn F.bind_every_api_BindNode_c1 [] [.fp [h] 0]) (fun x => !p x) l := by
    refine ⟨fun n en hn => ?_, rfl, rfl, rfl, fun x hx en K hK => ?_⟩
    · obtain ⟨m, rfl⟩ : ∃ m, n = m + 4 := ⟨n - 4, by omega⟩
      simp only [go_sem, qW]
    · simp only [go_sem, qW, (bind_every_api_BindNode_c1_pc l h p hc x hx).ret]
      exact hK
  refine pc_of LF.bind_every_api_BindNode rfl rfl ?_
  simp only [go_sem, qC, qG, qW, C.bind_every_api_BindNode, box_any hc.one hc.cells, hc.snap, hc.wk, (cont_BNode l _ _ hl hd).ret]
  rw [← List.not_all_eq_any_not, Bool.not_not]
theorem idx_Pat (l : List Pat) (h : Val) (p : Pat → Bool) (hl : Few l.length) (hc : AsksT L (fun x : Pat => .agg [.int .i64 x.form, .int .i64 x.n, .str x.text, .fz (x.parts.map Pat.enc)]) h p l) :
    PC L F.slices_IndexFunc_s_api_TermPat_api_TermPat [.fz (l.map Pat.enc), h] (.int .i64 (idxOf p l 0)) := by
  refine pc_of LF.slices_IndexFunc_s_api_TermPat_api_TermPat rfl rfl ?_
  simp only [go_sem, qC, qG, qW, C.slices_IndexFunc_s_api_TermPat_api_TermPat]
  refine wp_for (l.length) (fun k st => ∃ fr en cnt, st = ⟨fr, en, cnt⟩ ∧ (fr 0 = .fz (l.map Pat.enc)) ∧ (fr 1 = h) ∧ (fr 7 = .int .i64 l.length) ∧ (fr 8 = .int .i64 k) ∧ (idxOf p (l.drop k) k = idxOf p l 0)) 0 (Nat.zero_le _) ⟨_, _, _, rfl, (by first | (simp only [go_sem, qW]; (try rfl); done) | rfl | simp), (by first | (simp only [go_sem, qW]; (try rfl); done) | rfl | simp), (by first | (simp only [go_sem, qW]; (try rfl); done) | rfl | simp), (by first | (simp only [go_sem, qW]; (try rfl); done) | rfl | simp), (by first | (simp only [go_sem, qW]; (try rfl); done) | rfl | simp)⟩ ?_
  rintro k st hk ⟨fr, en, cnt, rfl, h0, h1, h7, h8, hI⟩
  simp only [go_sem, qC, qG, qW, h0, h1, h7, h8]
  refine condK_split (fun hq => ?_) (fun hq => ?_)
  · have h' : k < l.length := of_decide_eq_true hq
    rw [List.drop_eq_getElem_cons h', idxOf] at hI
    simp only [go_sem, qC, qG, qW, h', h0, h1, h7, h8]
    refine hc.call l[k] (List.getElem_mem _) _ _ ?_
    simp only [go_sem, qC, qG, qW, h0, h1, h7, h8]
    refine condK_split (fun hb => ?_) (fun hb => ?_)
    · simp only [go_sem, qC, qG, qW, h0, h1, h7, h8]
      rw [hb, if_pos rfl] at hI
      rw [← hI]
    · simp only [go_sem, qC, qG, qW, h', h0, h1, h7, h8]
      rw [hb] at hI
      simp at hI
      refine ⟨_, _, _, rfl, ?_⟩
      simp only [go_sem, qW, h0, h1, h7, h8, wrap_succ h' hl]
      exact hI
  · have : k = l.length := by simp at hq; omega
    subst this
    simp only [go_sem, qC, qG, qW, h0, h1, h7, h8]
    rw [← hI]; simp [idxOf]
theorem cont_Pat (l : List Pat) (h : Val) (p : Pat → Bool) (hl : Few l.length) (hc : AsksT L (fun x : Pat => .agg [.int .i64 x.form, .int .i64 x.n, .str x.text, .fz (x.parts.map Pat.enc)]) h p l) :
    PC L F.slices_ContainsFunc_s_api_TermPat_api_TermPat [.fz (l.map Pat.enc), h] (.bool (l.any p)) := by
  refine pc_of LF.slices_ContainsFunc_s_api_TermPat_api_TermPat rfl rfl ?_
  simp only [go_sem, qC, qG, qW, C.slices_ContainsFunc_s_api_TermPat_api_TermPat, hc.snap, hc.wk, (idx_Pat l h p hl hc).ret]
  rw [← idxOf_any p l 0]
theorem bind_every_api_TermPat_c1_pc (l : List Pat) (h : Val) (p : Pat → Bool) (hc : AsksT L (fun x : Pat => .agg [.int .i64 x.form, .int .i64 x.n, .str x.text, .fz (x.parts.map Pat.enc)]) h p l) (x : Pat) (hx : x ∈ l) :
    PC L F.bind_every_api_TermPat_c1 [.agg [.int .i64 x.form, .int .i64 x.n, .str x.text, .fz (x.parts.map Pat.enc)], .fp [h] 0] (.bool (!p x)) := by
  refine pc_of LF.bind_every_api_TermPat_c1 rfl rfl ?_
  simp only [go_sem, qC, qG, qW, C.bind_every_api_TermPat_c1]
  refine hc.call x hx _ _ ?_
  simp only [go_sem, qC, qG, qW]
theorem bind_every_api_TermPat_pc (l : List Pat) (h : Val) (p : Pat → Bool) (hl : Few l.length) (hc : AsksT L (fun x : Pat => .agg [.int .i64 x.form, .int .i64 x.n, .str x.text, .fz (x.parts.map Pat.enc)]) h p l) :
    PC L F.bind_every_api_TermPat [.fz (l.map Pat.enc), h] (.bool (l.all p)) := by
  have hd : AsksT L (fun x : Pat => .agg [.int .i64 x.form, .int .i64 x.n, .str x.text, .fz (x.parts.map Pat.enc)]) (.fn F.bind_every_api_TermPat_c1 [] [.fp [h] 0]) (fun x => !p x) l := by
    refine ⟨fun n en hn => ?_, rfl, rfl, rfl, fun x hx en K hK => ?_⟩
    · obtain ⟨m, rfl⟩ : ∃ m, n = m + 4 := ⟨n - 4, by omega⟩
      simp only [go_sem, qW]
    · simp only [go_sem, qW, (bind_every_api_TermPat_c1_pc l h p hc x hx).ret]
      exact hK
  refine pc_of LF.bind_every_api_TermPat rfl rfl ?_
  simp only [go_sem, qC, qG, qW, C.bind_every_api_TermPat, box_any hc.one hc.cells, hc.snap, hc.wk, (cont_Pat l _ _ hl hd).ret]
  rw [← List.not_all_eq_any_not, Bool.not_not]
theorem idx_int (l : List Int) (h : Val) (p : Int → Bool) (hl : Few l.length) (hc : AsksT L (fun x : Int => .int .i64 x) h p l) :
    PC L F.slices_IndexFunc_s_int_int [.fz (l.map (.int .i64)), h] (.int .i64 (idxOf p l 0)) := by
  refine pc_of LF.slices_IndexFunc_s_int_int rfl rfl ?_
  simp only [go_sem, qC, qG, qW, C.slices_IndexFunc_s_int_int]
  refine wp_for (l.length) (fun k st => ∃ fr en cnt, st = ⟨fr, en, cnt⟩ ∧ (fr 0 = .fz (l.map (.int .i64))) ∧ (fr 1 = h) ∧ (fr 7 = .int .i64 l.length) ∧ (fr 8 = .int .i64 k) ∧ (idxOf p (l.drop k) k = idxOf p l 0)) 0 (Nat.zero_le _) ⟨_, _, _, rfl, (by first | (simp only [go_sem, qW]; (try rfl); done) | rfl | simp), (by first | (simp only [go_sem, qW]; (try rfl); done) | rfl | simp), (by first | (simp only [go_sem, qW]; (try rfl); done) | rfl | simp), (by first | (simp only [go_sem, qW]; (try rfl); done) | rfl | simp), (by first | (simp only [go_sem, qW]; (try rfl); done) | rfl | simp)⟩ ?_
  rintro k st hk ⟨fr, en, cnt, rfl, h0, h1, h7, h8, hI⟩
  simp only [go_sem, qC, qG, qW, h0, h1, h7, h8]
  refine condK_split (fun hq => ?_) (fun hq => ?_)
  · have h' : k < l.length := of_decide_eq_true hq
    rw [List.drop_eq_getElem_cons h', idxOf] at hI
    simp only [go_sem, qC, qG, qW, h', h0, h1, h7, h8]
    refine hc.call l[k] (List.getElem_mem _) _ _ ?_
    simp only [go_sem, qC, qG, qW, h0, h1, h7, h8]
    refine condK_split (fun hb => ?_) (fun hb => ?_)
    · simp only [go_sem, qC, qG, qW, h0, h1, h7, h8]
      rw [hb, if_pos rfl] at hI
      rw [← hI]
    · simp only [go_sem, qC, qG, qW, h', h0, h1, h7, h8]
      rw [hb] at hI
      simp at hI
      refine ⟨_, _, _, rfl, ?_⟩
      simp only [go_sem, qW, h0, h1, h7, h8, wrap_succ h' hl]
      exact hI
  · have : k = l.length := by simp at hq; omega
    subst this
    simp only [go_sem, qC, qG, qW, h0, h1, h7, h8]
    rw [← hI]; simp [idxOf]
theorem cont_int (l : List Int) (h : Val) (p : Int → Bool) (hl : Few l.length) (hc : AsksT L (fun x : Int => .int .i64 x) h p l) :
    PC L F.slices_ContainsFunc_s_int_int [.fz (l.map (.int .i64)), h] (.bool (l.any p)) := by
  refine pc_of LF.slices_ContainsFunc_s_int_int rfl rfl ?_
  simp only [go_sem, qC, qG, qW, C.slices_ContainsFunc_s_int_int, hc.snap, hc.wk, (idx_int l h p hl hc).ret]
  rw [← idxOf_any p l 0]
theorem bind_every_int_c1_pc (l : List Int) (h : Val) (p : Int → Bool) (hc : AsksT L (fun x : Int => .int .i64 x) h p l) (x : Int) (hx : x ∈ l) :
    PC L F.bind_every_int_c1 [.int .i64 x, .fp [h] 0] (.bool (!p x)) := by
  refine pc_of LF.bind_every_int_c1 rfl rfl ?_
  simp only [go_sem, qC, qG, qW, C.bind_every_int_c1]
  refine hc.call x hx _ _ ?_
  simp only [go_sem, qC, qG, qW]
theorem bind_every_int_pc (l : List Int) (h : Val) (p : Int → Bool) (hl : Few l.length) (hc : AsksT L (fun x : Int => .int .i64 x) h p l) :
    PC L F.bind_every_int [.fz (l.map (.int .i64)), h] (.bool (l.all p)) := by
  have hd : AsksT L (fun x : Int => .int .i64 x) (.fn F.bind_every_int_c1 [] [.fp [h] 0]) (fun x => !p x) l := by
    refine ⟨fun n en hn => ?_, rfl, rfl, rfl, fun x hx en K hK => ?_⟩
    · obtain ⟨m, rfl⟩ : ∃ m, n = m + 4 := ⟨n - 4, by omega⟩
      simp only [go_sem, qW]
    · simp only [go_sem, qW, (bind_every_int_c1_pc l h p hc x hx).ret]
      exact hK
  refine pc_of LF.bind_every_int rfl rfl ?_
  simp only [go_sem, qC, qG, qW, C.bind_every_int, box_any hc.one hc.cells, hc.snap, hc.wk, (cont_int l _ _ hl hd).ret]
  rw [← List.not_all_eq_any_not, Bool.not_not]
theorem bind_in_pc (n lo hi : Int) : PC L F.bind_in [.int .i64 n, .int .i64 lo, .int .i64 hi] (.bool (inR n lo hi)) := by
  refine pc_of LF.bind_in rfl rfl ?_
  simp only [go_sem, qW, C.bind_in]
  refine guard_split (fun h => ?_) (fun h => ?_) <;> simp only [go_sem, qW, h] <;> simp at h <;> simp [h, inR]
  omega
theorem bind_integer_pc (n : Int) : PC L F.bind_integer [.int .i64 n] (.bool (inR n (-1000000000) 1000000000)) := by
  refine pc_of LF.bind_integer rfl rfl ?_
  simp only [go_sem, qC, qG, qW, C.bind_integer, (bind_in_pc _ _ _).ret]
theorem term_small_pc (s : ByteArray) : PC L F.term_small [.str s] (.bool (smallL (octs s))) := by
  refine pc_of LF.term_small rfl rfl ?_
  simp only [go_sem, qC, qG, qW, C.term_small]
  refine wp_for s.size (fun k st => ∃ fr en cnt, st = ⟨fr, en, cnt⟩ ∧ fr 6 = .it ⟨0, 6, 0⟩ ∧ en ⟨0, 6, 0⟩ = some (.iter s k) ∧ ((octs s).drop k).all isSmall = (octs s).all isSmall) 0 (Nat.zero_le _) ⟨_, _, _, rfl, by simp only [go_sem, qW], by simp only [go_sem, qW], rfl⟩ ?_
  rintro k st hk ⟨fr, en, cnt, rfl, h6, e6, hI⟩
  have hsz := octs_len s
  by_cases h' : k < s.size
  · have h'' : k < (octs s).length := by omega
    obtain ⟨d1, d2⟩ := decode_small h''
    rw [all_step h''] at hI
    simp only [go_sem, qC, qG, qW, h6, e6, h']
    cases hb : isSmall (octs s)[k] with
    | true =>
      have hd := d1 hb
      have hb2 := hb
      simp only [isSmall, Bool.and_eq_true, decide_eq_true_eq] at hb2
      have c1 : decide ((((octs s)[k].toNat : Nat) : Int) < 97) = false := by simp; omega
      have c2 : decide ((122 : Int) < (((octs s)[k].toNat : Nat) : Int)) = false := by simp; omega
      simp only [go_sem, qC, qG, qW, hd, h6, e6, c1, c2]
      refine ⟨_, _, _, rfl, ?_⟩
      simp only [go_sem, qC, qG, qW, hd, h6, e6]
      rw [← hI, hb]; simp
    | false =>
      have hd := d2 hb
      rw [hb] at hI
      generalize (Utf8.decode s k).1 = r at hd ⊢
      refine guardK_split (fun hc => ?_) (fun hc => ?_)
      · simp at hc
        have c1 : decide ((r : Int) < 97) = false := by simp; omega
        have c2 : decide ((122 : Int) < (r : Int)) = true := by simp; omega
        simp only [go_sem, qC, qG, qW, c1, c2]
        rw [smallL, ← hI]; rfl
      · simp only [go_sem, qC, qG, qW, hc, Bool.not_false]
        rw [smallL, ← hI]; rfl
  · have : k = s.size := by omega
    subst this
    simp only [go_sem, qC, qG, qW, h6, e6, Nat.lt_irrefl]
    rw [smallL, ← hI, List.drop_eq_nil_of_le (by omega)]; rfl
theorem empty_str (s : ByteArray) : (s.toList == (⟨#[]⟩ : ByteArray).toList) = decide (s.size = 0) := by
  rw [Go.ByteArray.toList_eq, Go.ByteArray.toList_eq]
  have : s.size = s.data.toList.length := by rw [Array.length_toList]; rfl
  rw [this]
  cases s.data.toList <;> rfl
theorem term_Great_pc (s : ByteArray) : PC L F.term_Great [.str s] (.bool (greatL (octs s))) := by
  refine pc_of LF.term_Great rfl rfl ?_
  simp only [go_sem, qC, qG, qW, C.term_Great, empty_str]
  refine guardK_split (fun h => ?_) (fun h => ?_)
  · have h' : 1 ≤ s.size := by
      have : ¬ s.size = 0 := by intro h0; rw [h0] at h; simp at h
      omega
    have h0 : 0 < (octs s).length := by rw [octs_len]; omega
    have hix := fun (k : IntKind) => ixs_oct (k := k) h0
    simp only [Int.natCast_zero] at hix
    rw [great_list (octs_len s) h0]
    simp only [go_sem, qC, qG, qW, h]
    refine guardK_split (fun h1 => ?_) (fun h1 => ?_) <;> simp only [go_sem, qC, qG, qW, h1, hix]
    refine guardK_split (fun h2 => ?_) (fun h2 => ?_) <;> simp only [go_sem, qC, qG, qW, h1, h2, hix]
    refine guardK_split (fun h3 => ?_) (fun h3 => ?_) <;> simp only [go_sem, qC, qG, qW, h1, h2, h3, slice_str1 h', (term_small_pc _).ret, octs_tail]
    all_goals simp only [decide_eq_true_eq, decide_eq_false_iff_not, Bool.not_true] at *
    all_goals simp [*]
  · have : s.size = 0 := by
      by_cases h0 : s.size = 0
      · exact h0
      · simp only [h0, decide_false] at h; simp at h
    have e : octs s = [] := by rw [← List.length_eq_zero_iff, octs_len, this]
    simp only [go_sem, qC, qG, qW, h, Bool.not_true]
    rw [e]; rfl
theorem bind_con_pc (c : BCon) : PC L F.bind_con [.agg [.str c.name, .int .i64 c.args]] (.bool (conOk c)) := by
  refine pc_of LF.bind_con rfl rfl ?_
  simp only [go_sem, qC, qG, qW, C.bind_con, (term_Great_pc _).ret]
  refine guardK_split (fun h => ?_) (fun h => ?_) <;> simp only [go_sem, qC, qG, qW, h, (bind_in_pc _ _ _).ret] <;> simp [conOk, h]
theorem bind_program_formed_c1_pc (c : BCon) : PC L F.bind_program_formed_c1 [.agg [.str c.name, .int .i64 c.args]] (.str c.name) := by
  refine pc_of LF.bind_program_formed_c1 rfl rfl ?_
  simp only [go_sem, qC, qG, qW, C.bind_program_formed_c1]
theorem bind_program_formed_c2_pc (n : Int) : PC L F.bind_program_formed_c2 [.int .i64 n] (.bool (decide (n = 1))) := by
  refine pc_of LF.bind_program_formed_c2 rfl rfl ?_
  simp only [go_sem, qC, qG, qW, C.bind_program_formed_c2]
theorem bind_size_pc : ∀ q : Pat, q.few → ∀ most : Int, 0 ≤ most → most ≤ 1000 → PC L F.bind_size [.agg [.int .i64 q.form, .int .i64 q.n, .str q.text, .fz (q.parts.map Pat.enc)], .int .i64 most] (.int .i64 (psize q most)) := by
  refine Pat.ind fun q ih hq most h1 h2 => ?_
  obtain ⟨hl, _, hps⟩ := Pat.few_parts hq
  rw [psize_eq]
  refine pc_of LF.bind_size rfl rfl ?_
  simp only [go_sem, qC, qG, qW, C.bind_size]
  refine wp_for q.parts.length (fun k st => ∃ fr en cnt a, st = ⟨fr, en, cnt⟩ ∧ fr 1 = .int .i64 most ∧ fr 5 = .int .i64 a ∧ fr 9 = .fz (q.parts.map Pat.enc) ∧ fr 10 = .int .i64 q.parts.length ∧ fr 11 = .int .i64 k ∧ 1 ≤ a ∧ a ≤ most + 1 ∧ psizes (q.parts.drop k) most a = psizes q.parts most 1) 0 (Nat.zero_le _) ⟨_, _, _, 1, rfl, by simp only [go_sem, qW], by simp only [go_sem, qW], by simp only [go_sem, qW], by simp only [go_sem, qW], by simp only [go_sem, qW], by omega, by omega, rfl⟩ ?_
  rintro k st hk ⟨fr, en, cnt, a, rfl, h1', h5, h9, h10, h11, ha, hb, hI⟩
  simp only [go_sem, qC, qG, qW, h1', h5, h9, h10, h11]
  refine condK_split (fun hc => ?_) (fun hc => ?_)
  · have h' : k < q.parts.length := of_decide_eq_true hc
    rw [List.drop_eq_getElem_cons h', psizes] at hI
    have hm : q.parts[k] ∈ q.parts := List.getElem_mem _
    simp only [go_sem, qC, qG, qW, h', h1', h5, h9, h10, h11]
    refine condK_split (fun hd => ?_) (fun hd => ?_) <;> simp only [decide_eq_true_eq, decide_eq_false_iff_not] at hd
    · simp only [go_sem, qC, qG, qW, h5]
      rw [if_pos hd] at hI
      rw [hI]
    · rw [if_neg hd] at hI
      have e1 : IntKind.i64.wrap (most - a) = most - a := wrap_in (by omega)
      have hz := psize_le q.parts[k] (most - a) (by omega)
      have e2 : IntKind.i64.wrap (a + psize q.parts[k] (most - a)) = a + psize q.parts[k] (most - a) := wrap_in (by omega)
      simp only [go_sem, qC, qG, qW, h', h1', h5, h9, h10, h11, e1, e2, (ih _ hm (hps _ hm) (most - a) (by omega) (by omega)).ret]
      refine ⟨_, _, _, a + psize q.parts[k] (most - a), rfl, ?_⟩
      simp only [go_sem, qC, qG, qW, h', h1', h5, h9, h10, h11, wrap_succ h' hl]
      exact ⟨by omega, by omega, hI⟩
  · have : k = q.parts.length := by simp at hc; omega
    subst this
    simp only [go_sem, qC, qG, qW, h5]
    rw [← hI]; simp [psizes]
theorem bind_program_pat_pc (p : BProg) (hc : Few p.cons.length) : ∀ q : Pat, q.few → PC L F.bind_program_pat [.agg [.fz (p.nodes.map BNode.enc), .fz (p.funs.map (.int .i64)), .int .i64 p.main, .fz (p.cons.map BCon.enc)], .agg [.int .i64 q.form, .int .i64 q.n, .str q.text, .fz (q.parts.map Pat.enc)]] (.bool (patOk p.cons q)) := by
  refine Pat.ind fun q ih hq => ?_
  obtain ⟨hl, _, hps⟩ := Pat.few_parts hq
  have e := wrap_pred hc
  have ask : AsksT L (fun x : Pat => .agg [.int .i64 x.form, .int .i64 x.n, .str x.text, .fz (x.parts.map Pat.enc)]) (.fn F.bind_program_pat [.agg [.fz (p.nodes.map BNode.enc), .fz (p.funs.map (.int .i64)), .int .i64 p.main, .fz (p.cons.map BCon.enc)]] []) (patOk p.cons) q.parts := by
    refine ⟨fun n en hn => ?_, rfl, rfl, rfl, fun x hx en K hK => ?_⟩
    · obtain ⟨m, rfl⟩ : ∃ m, n = m + 4 := ⟨n - 4, by omega⟩
      simp only [go_sem, qW]
    · simp only [go_sem, qW, (ih x hx (hps x hx)).ret]
      exact hK
  rw [patOk_eq]
  refine pc_of LF.bind_program_pat rfl rfl ?_
  simp only [go_sem, qC, qG, qW, C.bind_program_pat]
  refine guardK_split (fun h => ?_) (fun h => ?_)
  · simp only [go_sem, qC, qG, qW, h, Bool.not_false, (bind_every_api_TermPat_pc q.parts _ _ hl ask).ret]
    have ht : noText q.text = true := by simp only [noText]; simpa using h
    refine condK_split (fun h2 => ?_) (fun h2 => ?_)
    · simp only [go_sem, qC, qG, qW]
      simp at h2
      simp [h2]
    · have h3 : q.parts.all (patOk p.cons) = true := by simpa using h2
      rw [h3]
      simp only [go_sem, qC, qG, qW, e]
      repeat' ((first | with_reducible refine condK_split (fun h => ?_) (fun h => ?_) | with_reducible refine guardK_split (fun h => ?_) (fun h => ?_)) <;> (try simp only [decide_eq_true_eq, decide_eq_false_iff_not, Bool.not_true, Bool.not_false] at h) <;> try simp only [go_sem, qC, qG, qW, *, (bind_in_pc _ _ _).ret, (bind_integer_pc _).ret, ia_con])
      all_goals try simp [patHead, patHead0, *]
      all_goals try (intros; simp_all; done)
  · simp only [go_sem, qC, qG, qW, h, Bool.not_false]
    have ht : noText q.text = false := by simp only [noText]; simpa using h
    simp [patHead, ht]
end Go.Proofs.YthpmfghgoabnhaaGreat
