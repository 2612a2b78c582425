/- The loop over what an object refers to. -/
import Derived.Test.YthpmfghgoabnhaaGreatW12
set_option linter.all false
namespace Go.Proofs.YthpmfghgoabnhaaGreat
open Go.Abs Go.Proofs
def isRef (v : MVal) : Bool := decide (v.kind = 5)
def refVals (l : List MVal) : List Int := (l.filter isRef).map MVal.n
theorem refVals_t {x : MVal} {l : List MVal} (h : isRef x = true) : refVals (x :: l) = x.n :: refVals l := by simp [refVals, h]
theorem refVals_f {x : MVal} {l : List MVal} (h : isRef x = false) : refVals (x :: l) = refVals l := by simp [refVals, h]
def frameRefs (f : MFrame) : List Int := refVals f.env ++ refVals f.vals
def refsOf (o : MObj) : List Int := refVals o.vals ++ o.frames.flatMap frameRefs
theorem reap_refs_pc (o : MObj) : PC L F.reap_refs [.agg [.int .i64 o.form, .int .i64 o.n, .fz (o.vals.map MVal.enc), .fz (o.frames.map MFrame.enc)]] (.fn F.reap_refs_c1 [] [.fp [.int .i64 o.form, .int .i64 o.n, .fz (o.vals.map MVal.enc), .fz (o.frames.map MFrame.enc)] 0]) := by
  refine pc_of LF.reap_refs rfl rfl ?_
  simp only [go_sem, qC, qG, qW, C.reap_refs]
def T4 : List Nat := [2, 3, 5, 6]
def Outside (c0 : Nat → Nat) (en en' : En) : Prop := ∀ n t g, (n ≠ 0 ∨ t ∉ T4 ∨ g < c0 t) → en' ⟨n, t, g⟩ = en ⟨n, t, g⟩
def Inside (c0 : Nat → Nat) (en en' : En) : Prop := ∀ t g, t ∈ T4 → c0 t ≤ g → en' ⟨0, t, g⟩ = en ⟨0, t, g⟩
structure Rounds (k : Key) (c0 : Nat → Nat) (I : List Int → En → (Nat → Nat → Nat) → Prop) (F : En → (Nat → Nat → Nat) → Prop) : Prop where
  stable : ∀ r en cnt en' cnt', I r en cnt → Outside c0 en en' → (∀ n t, t ∉ T4 → cnt' n t = cnt n t) → (∀ t ∈ T4, c0 t ≤ cnt' 0 t) → I r en' cnt'
  round : ∀ x rest en cnt, I (x :: rest) en cnt → WIn L (.yld k) [.int .i64 x] en cnt fun v en' cnt' => Inside c0 en en' ∧ (∀ t ∈ T4, cnt' 0 t = cnt 0 t) ∧ ((v = .bool true ∧ I rest en' cnt') ∨ (v = .bool false ∧ F en' cnt'))
theorem slice_cl1 {xs : List Val} {x : Val} {en : En} (hx : headOk 1 (x :: xs) = true) : opSlice false 1 en (.cl (x :: xs)) (some (.int .i64 1)) none none = some { v := .cl xs } := by
  have h1 : bound (some (.int .i64 1)) 0 (xs.length + 1) = some 1 := by
    simp only [bound]; rw [if_pos ⟨by omega, by omega⟩]; rfl
  simp [opSlice, bound_no, h1, hx]
section
variable {k : Key} {c0 : Nat → Nat} {I : List Int → En → (Nat → Nat → Nat) → Prop} {G : En → (Nat → Nat → Nat) → Prop} {a b : Nat}
structure Mid (k : Key) (c0 : Nat → Nat) (a b : Nat) (en : En) (cnt : Nat → Nat → Nat) : Prop where
  e2 : en ⟨0, 2, a⟩ = some (.box [.yld k] false)
  e3 : en ⟨0, 3, b⟩ = some (.box [.fn F.reap_refs_c1_c1 [] [.ptr ⟨0, 2, a⟩ 0, .ptr ⟨0, 3, b⟩ 0]] false)
  cnt : ∀ t ∈ T4, c0 t ≤ cnt 0 t
theorem lists_win (hr : Rounds k c0 I G) (ha : c0 2 ≤ a) (hb : c0 3 ≤ b) : ∀ (ls : List (List MVal)) (rest : List Int) (en : En) (cnt : Nat → Nat → Nat), (∀ l ∈ ls, Few l.length) → Mid k c0 a b en cnt → I (ls.flatMap refVals ++ rest) en cnt →
    WIn L (.fn F.reap_refs_c1_c1 [] [.ptr ⟨0, 2, a⟩ 0, .ptr ⟨0, 3, b⟩ 0]) [.cl (ls.map fun l => .fz (l.map MVal.enc))] en cnt fun v en' cnt' =>
      (v = .bool true ∧ Mid k c0 a b en' cnt' ∧ I rest en' cnt') ∨ (v = .bool false ∧ G en' cnt')
  | [], rest, en, cnt, hf, hm, hI => by
    refine win_of LF.reap_refs_c1_c1 rfl rfl ?_
    simp only [go_sem, qC, qG, qW, C.reap_refs_c1_c1]
    exact .inl ⟨hm, by simpa using hI⟩
  | l :: ls, rest, en, cnt, hf, hm, hI => by
    have hl := hf l (by simp)
    refine win_of LF.reap_refs_c1_c1 rfl rfl ?_
    simp only [go_sem, qC, qG, qW, C.reap_refs_c1_c1]
    have hz : decide ((ls.length : Int) + 1 = 0) = false := by simp; omega
    refine condK_split (fun h0 => ?_) (fun h0 => ?_)
    · exfalso; simp at h0; omega
    · simp only [go_sem, qC, qG, qW]
      refine wp_for l.length (fun j st => ∃ fr en cnt, st = ⟨fr, en, cnt⟩ ∧ fr 0 = .cl (.fz (l.map MVal.enc) :: ls.map fun l => .fz (l.map MVal.enc)) ∧ fr 1 = .ptr ⟨0, 2, a⟩ 0 ∧ fr 2 = .ptr ⟨0, 3, b⟩ 0 ∧ fr 12 = .fz (l.map MVal.enc) ∧ fr 13 = .int .i64 l.length ∧ fr 14 = .int .i64 j ∧
        Mid k c0 a b en cnt ∧ I (refVals (l.drop j) ++ (ls.flatMap refVals ++ rest)) en cnt) 0 (Nat.zero_le _) ⟨_, _, _, rfl, by simp only [go_sem, qW], by simp only [go_sem, qW], by simp only [go_sem, qW], by simp only [go_sem, qW], by simp only [go_sem, qW], by simp only [go_sem, qW], hm, by simpa using hI⟩ ?_
      rintro j st hj ⟨fr, en, cnt, rfl, f0, f1, f2, f12, f13, f14, hm, hI⟩
      simp only [go_sem, qC, qG, qW, f12, f13, f14]
      refine condK_split (fun hq => ?_) (fun hq => ?_)
      · have h' : j < l.length := of_decide_eq_true hq
        rw [List.drop_eq_getElem_cons h'] at hI
        have hout : ∀ e : Option Ent, ∀ e' : Option Ent, Outside c0 en ((en.set ⟨0, 6, cnt 0 6⟩ e).set ⟨0, 6, cnt 0 6⟩ e') := by
          intro e e' n t g h
          have hne : (⟨n, t, g⟩ : Key) ≠ ⟨0, 6, cnt 0 6⟩ := by
            intro he; injection he with h1 h2 h3
            have := hm.cnt 6 (by decide)
            rcases h with h | h | h
            · exact h h1
            · exact h (by rw [h2]; decide)
            · subst h2; omega
          rw [en_ne hne, en_ne hne]
        simp only [go_sem, qC, qG, qW, h', f0, f1, f2, f12, f13, f14]
        have st1 : ∀ e e' : Option Ent, Mid k c0 a b ((en.set ⟨0, 6, cnt 0 6⟩ e).set ⟨0, 6, cnt 0 6⟩ e') (setCnt cnt 0 6 (cnt 0 6 + 1)) := by
          intro e e'
          refine ⟨by simp only [go_sem, hm.e2], by simp only [go_sem, hm.e3], fun t ht => ?_⟩
          have := hm.cnt t ht
          simp only [setCnt]; split
          · rename_i h; obtain ⟨_, rfl⟩ := h; omega
          · exact this
        have i1 : ∀ r (e e' : Option Ent), I r en cnt → I r ((en.set ⟨0, 6, cnt 0 6⟩ e).set ⟨0, 6, cnt 0 6⟩ e') (setCnt cnt 0 6 (cnt 0 6 + 1)) := by
          intro r e e' h
          refine hr.stable r _ _ _ _ h (hout e e') (fun n t ht => ?_) (st1 e e').cnt
          simp only [setCnt]; split
          · rename_i h; obtain ⟨_, rfl⟩ := h; exact absurd (by decide) ht
          · rfl
        refine guardK_split (fun hk => ?_) (fun hk => ?_)
        · have hx : isRef l[j] = true := hk
          rw [refVals_t hx, List.cons_append] at hI
          simp only [go_sem, qC, qG, qW, hk, f1, hm.e2]
          refine (hr.round _ _ _ _ (i1 _ _ _ hI)).mono ?_
          rintro v en' cnt' ⟨hin, hc, hv⟩
          have hm' : Mid k c0 a b en' cnt' := by
            have m1 := st1 (some (.box [.int .i64 0, .int .i64 0] false)) (some (.box [.int .i64 l[j].kind, .int .i64 l[j].n] false))
            exact ⟨by rw [hin 2 a (by decide) ha]; exact m1.e2, by rw [hin 3 b (by decide) hb]; exact m1.e3, fun t ht => by rw [hc t ht]; exact m1.cnt t ht⟩
          rcases hv with ⟨rfl, hI2⟩ | ⟨rfl, hG⟩
          · simp only [go_sem, qC, qG, qW, hk, h', f0, f1, f2, f12, f13, f14]
            refine ⟨_, _, _, rfl, ?_⟩
            simp only [go_sem, qC, qG, qW, f0, f1, f2, f12, f13, f14, wrap_succ h' hl]
            exact ⟨hm', hI2⟩
          · simp only [go_sem, qC, qG, qW, hk]
            exact .inr hG
        · have hx : isRef l[j] = false := by simpa [isRef] using hk
          rw [refVals_f hx] at hI
          simp only [go_sem, qC, qG, qW, hk, Bool.not_true, h', f0, f1, f2, f12, f13, f14]
          refine ⟨_, _, _, rfl, ?_⟩
          simp only [go_sem, qC, qG, qW, f0, f1, f2, f12, f13, f14, wrap_succ h' hl]
          exact ⟨st1 _ _, i1 _ _ _ hI⟩
      · have : j = l.length := by simp at hq; omega
        subst this
        rw [List.drop_length] at hI
        simp only [go_sem, qC, qG, qW, f0, f2, hm.e3, slice_cl1 (x := .fz (l.map MVal.enc)) rfl]
        refine (lists_win hr ha hb ls rest en cnt (fun x hx => hf x (by simp [hx])) hm (by simpa [refVals] using hI)).mono ?_
        rintro v en' cnt' h
        try simp only [go_sem, qC, qG, qW]
        exact h
end
theorem one_fn {f : Nat} {x y : List Val} : Val.one (.fn f x y) = true := (rfl)
theorem cells_fn {f : Nat} {x y : List Val} : Val.cells (.fn f x y) = [.fn f x y] := (rfl)
theorem ofZero_one {v : Val} : ofZero 1 [v] false = v := (rfl)
theorem out_ne {c0 : Nat → Nat} {n t g t' g' : Nat} (h : n ≠ 0 ∨ t ∉ T4 ∨ g < c0 t) (ht : t' ∈ T4) (hg : c0 t' ≤ g') : (⟨n, t, g⟩ : Key) ≠ ⟨0, t', g'⟩ := by
  intro he; injection he with h1 h2 h3
  rcases h with h | h | h
  · exact h h1
  · exact h (h2 ▸ ht)
  · subst h2; omega
theorem Outside.trans {c0 : Nat → Nat} {x y z : En} (h : Outside c0 x y) (h' : Outside c0 y z) : Outside c0 x z := fun n t g k => (h' n t g k).trans (h n t g k)
theorem Mid.put {k : Key} {c0 : Nat → Nat} {a b : Nat} {en : En} {cnt : Nat → Nat → Nat} (hm : Mid k c0 a b en cnt) (e e' : Option Ent) : Mid k c0 a b ((en.set ⟨0, 5, cnt 0 5⟩ e).set ⟨0, 5, cnt 0 5⟩ e') (setCnt cnt 0 5 (cnt 0 5 + 1)) := by
  refine ⟨by simp only [go_sem, hm.e2], by simp only [go_sem, hm.e3], fun t ht => ?_⟩
  have := hm.cnt t ht
  simp only [setCnt]; split
  · rename_i h; obtain ⟨_, rfl⟩ := h; omega
  · exact this
theorem Rounds.put {k : Key} {c0 : Nat → Nat} {a b : Nat} {I : List Int → En → (Nat → Nat → Nat) → Prop} {G : En → (Nat → Nat → Nat) → Prop} (hr : Rounds k c0 I G) {en : En} {cnt : Nat → Nat → Nat} (hm : Mid k c0 a b en cnt) {r : List Int} (h : I r en cnt) (e e' : Option Ent) : I r ((en.set ⟨0, 5, cnt 0 5⟩ e).set ⟨0, 5, cnt 0 5⟩ e') (setCnt cnt 0 5 (cnt 0 5 + 1)) := by
  refine hr.stable r _ _ _ _ h (fun n t g h => ?_) (fun n t ht => ?_) (hm.put e e').cnt
  · rw [en_ne (out_ne h (by decide) (hm.cnt 5 (by decide))), en_ne (out_ne h (by decide) (hm.cnt 5 (by decide)))]
  · simp only [setCnt]; split
    · rename_i h; obtain ⟨_, rfl⟩ := h; exact absurd (by decide) ht
    · rfl
theorem refs_win (o : MObj) (ho : o.few) {k : Key} {en : En} {cnt : Nat → Nat → Nat} {I : List Int → En → (Nat → Nat → Nat) → Prop} {G : En → (Nat → Nat → Nat) → Prop} (hr : Rounds k (cnt 0) I G) (hI : I (refsOf o) en cnt) :
    WIn L (.fn F.reap_refs_c1 [] [.fp [.int .i64 o.form, .int .i64 o.n, .fz (o.vals.map MVal.enc), .fz (o.frames.map MFrame.enc)] 0]) [.yld k] en cnt fun _ en' cnt' => I [] en' cnt' ∨ G en' cnt' := by
  obtain ⟨c0, hc0⟩ : ∃ c0, c0 = cnt 0 := ⟨_, rfl⟩
  rw [← hc0] at hr
  obtain ⟨b, hbd⟩ : ∃ b, b = cnt 0 3 := ⟨_, rfl⟩
  obtain ⟨a, had⟩ : ∃ a, a = cnt 0 2 := ⟨_, rfl⟩
  have ha : c0 2 ≤ a := by rw [hc0, had]; exact Nat.le_refl _
  have hb : c0 3 ≤ b := by rw [hc0, hbd]; exact Nat.le_refl _
  have hI0 : I ([o.vals].flatMap refVals ++ o.frames.flatMap frameRefs) en cnt := by
    have : [o.vals].flatMap refVals ++ o.frames.flatMap frameRefs = refsOf o := by simp [refsOf]
    rw [this]; exact hI
  refine win_of LF.reap_refs_c1 rfl rfl ?_
  simp only [go_sem, qC, qG, qW, C.reap_refs_c1, box_any (v := .yld k) rfl rfl, one_fn, cells_fn, ofZero_one, ← hbd, ← had]
  have hcc : ∀ t ∈ T4, c0 t ≤ setCnt (setCnt cnt 0 2 (a + 1)) 0 3 (b + 1) 0 t := by
    intro t ht
    simp only [T4, List.mem_cons, List.not_mem_nil, or_false] at ht
    rw [hc0]
    rcases ht with rfl | rfl | rfl | rfl <;> simp [setCnt] <;> omega
  refine (lists_win hr (a := a) (b := b) ha hb [o.vals] (o.frames.flatMap frameRefs) _ _ (fun l hl => by simp at hl; subst hl; exact ho.1) ⟨by simp only [go_sem, qW], by simp only [go_sem, qW], hcc⟩ (hr.stable _ _ _ _ _ hI0 (fun n t g h => ?_) (fun n t ht => ?_) hcc)).mono ?_
  · rw [en_ne (out_ne h (by decide) hb), en_ne (out_ne h (by decide) hb), en_ne (out_ne h (by decide) ha)]
  · simp only [setCnt]
    simp only [T4, List.mem_cons, List.not_mem_nil, or_false, not_or] at ht
    rw [if_neg (by omega), if_neg (by omega)]
  · rintro v en' cnt' (⟨rfl, hm, hI'⟩ | ⟨rfl, hG⟩)
    · simp only [go_sem, qC, qG, qW, Bool.not_true]
      refine wp_for o.frames.length (fun j st => ∃ fr en cnt, st = ⟨fr, en, cnt⟩ ∧ fr 3 = .ptr ⟨0, 3, b⟩ 0 ∧ fr 14 = .fz (o.frames.map MFrame.enc) ∧ fr 15 = .int .i64 o.frames.length ∧ fr 16 = .int .i64 j ∧
        Mid k c0 a b en cnt ∧ I ((o.frames.drop j).flatMap frameRefs) en cnt) 0 (Nat.zero_le _) ⟨_, _, _, rfl, by simp only [go_sem, qW], by simp only [go_sem, qW], by simp only [go_sem, qW], by simp only [go_sem, qW], hm, by simpa using hI'⟩ ?_
      rintro j st hj ⟨fr, en, cnt, rfl, f3, f14, f15, f16, hm, hI⟩
      simp only [go_sem, qC, qG, qW, f14, f15, f16]
      refine condK_split (fun hq => ?_) (fun hq => ?_)
      · have h' : j < o.frames.length := of_decide_eq_true hq
        rw [List.drop_eq_getElem_cons h'] at hI
        have hf := ho.2.2 _ (List.getElem_mem h')
        have hI1 : I ([o.frames[j].env, o.frames[j].vals].flatMap refVals ++ (o.frames.drop (j + 1)).flatMap frameRefs) en cnt := by
          have : [o.frames[j].env, o.frames[j].vals].flatMap refVals ++ (o.frames.drop (j + 1)).flatMap frameRefs = (o.frames[j] :: o.frames.drop (j + 1)).flatMap frameRefs := by simp only [List.flatMap_cons, List.flatMap_nil, List.append_nil, List.append_assoc, frameRefs]
          rw [this]; exact hI
        have h3 := (hm.put (some (.box [.int .i64 0, .cl [], .cl []] false)) (some (.box [.int .i64 o.frames[j].node, .fz (o.frames[j].env.map MVal.enc), .fz (o.frames[j].vals.map MVal.enc)] false))).e3
        simp only [go_sem, qC, qG, qW, h', f3, f14, f15, f16, hm.e3]
        refine (lists_win hr (a := a) (b := b) ha hb [o.frames[j].env, o.frames[j].vals] ((o.frames.drop (j + 1)).flatMap frameRefs) _ _ (fun l hl => ?_) (hm.put _ _) (hr.put hm hI1 _ _)).mono ?_
        · simp only [List.mem_cons, List.not_mem_nil, or_false] at hl
          rcases hl with rfl | rfl
          · exact hf.1
          · exact hf.2
        rintro v en' cnt' (⟨rfl, hm, hI'⟩ | ⟨rfl, hG⟩)
        · simp only [go_sem, qC, qG, qW, Bool.not_true, h', f3, f14, f15, f16]
          refine ⟨_, _, _, rfl, ?_⟩
          simp only [go_sem, qC, qG, qW, f3, f14, f15, f16, wrap_succ h' ho.2.1]
          exact ⟨hm, hI'⟩
        · simp only [go_sem, qC, qG, qW]
          exact .inr hG
      · have : j = o.frames.length := by simp at hq; omega
        subst this
        rw [List.drop_length] at hI
        simp only [go_sem, qC, qG, qW]
        exact .inl (by simpa using hI)
    · simp only [go_sem, qC, qG, qW]
      exact .inr hG
end Go.Proofs.YthpmfghgoabnhaaGreat
