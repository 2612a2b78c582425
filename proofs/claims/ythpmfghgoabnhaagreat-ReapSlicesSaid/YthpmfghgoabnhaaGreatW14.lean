/- Objects to which objects refer, each once. -/
import Derived.Test.YthpmfghgoabnhaaGreatW13
import Derived.Test.YthpmfghgoabnhaaGreatW8
set_option linter.all false
namespace Go.Proofs.YthpmfghgoabnhaaGreat
open Go.Abs Go.Proofs
def someStep (out : List Int) (v : MVal) : List Int := if (isRef v && !out.any (fun x => decide (x = v.n))) = true then out ++ [v.n] else out
def someL (out : List Int) (l : List MVal) : List Int := l.foldl someStep out
def refsL (o : MObj) : List Int := o.frames.foldl (fun out f => someL (someL out f.env) f.vals) (someL [] o.vals)
theorem someStep_len (out : List Int) (v : MVal) : (someStep out v).length ≤ out.length + 1 := by unfold someStep; split <;> simp
theorem someL_len : ∀ (l : List MVal) (out : List Int), (someL out l).length ≤ out.length + l.length
  | [], out => by simp [someL]
  | v :: l, out => by
    have h1 := someL_len l (someStep out v)
    have h2 := someStep_len out v
    simp only [someL, List.foldl_cons, List.length_cons] at h1 ⊢
    omega
theorem someL_step {l : List MVal} {out : List Int} {k : Nat} (h : k < l.length) : someL out (l.take (k + 1)) = someStep (someL out (l.take k)) l[k] := by
  rw [take_step h]; simp only [someL, List.foldl_append, List.foldl_cons, List.foldl_nil]
theorem some_win (out : List Int) (l : List MVal) {v : Val} {en : En} {cnt : Nat → Nat → Nat} {D : List Nat} (hD : 35 ∈ D) (hm : Mine en v 1 (out.map (.int .i64)) D) (hb : out.length + l.length ≤ 16777216) :
    WIn L (.fn F.R18_some [] []) [v, .fz (l.map MVal.enc)] en cnt fun r en' cnt' =>
      Mine en' r 1 ((someL out l).map (.int .i64)) D ∧ (∀ n t g, n ≠ 0 ∨ (t ∉ D ∧ t ≠ 34) → en' ⟨n, t, g⟩ = en ⟨n, t, g⟩) := by
  have hf : Few l.length := by unfold Few; omega
  obtain ⟨en0, hen0⟩ : ∃ e, e = en := ⟨_, rfl⟩
  refine win_of LF.R18_some rfl rfl ?_
  simp only [go_sem, qC, qG, qW, C.R18_some]
  refine wp_for l.length (fun k st => ∃ fr en cnt, st = ⟨fr, en, cnt⟩ ∧ fr 1 = .fz (l.map MVal.enc) ∧ fr 5 = .int .i64 k ∧ Mine en (fr 0) 1 ((someL out (l.take k)).map (.int .i64)) D ∧ (∀ n t g, n ≠ 0 ∨ (t ∉ D ∧ t ≠ 34) → en ⟨n, t, g⟩ = en0 ⟨n, t, g⟩)) 0 (Nat.zero_le _) ⟨_, _, _, rfl, by simp only [go_sem, qW], by simp only [go_sem, qW], by simp only [go_sem, qW]; simpa [someL] using hm, fun n t g h => by rw [hen0]⟩ ?_
  rintro k st hk ⟨fr, en, cnt, rfl, h1, h5, h0, hI⟩
  simp only [go_sem, qC, qG, qW, h1, h5]
  refine condK_split (fun h => ?_) (fun h => ?_)
  · have h' : k < l.length := of_decide_eq_true h
    have hlen := someL_len (l.take k) out
    rw [List.length_take] at hlen
    have hs := someL_step (out := out) h'
    obtain ⟨r, ks, s1, s2, s3⟩ := mine_ret h0
    simp only [go_sem, qC, qG, qW, h', h1, h5]
    refine guardK_split (fun hg => ?_) (fun hg => ?_)
    · have hx : isRef l[k] = true := hg
      have hd := R18_listed_pc (someL out (l.take k)) l[k].n (by unfold Few; omega)
      simp only [go_sem, qC, qG, qW, hg, h', h1, h5, s1, s3, hd.ret]
      refine condK_split (fun h2 => ?_) (fun h2 => ?_)
      · have hs2 : someL out (l.take (k + 1)) = someL out (l.take k) ++ [l[k].n] := by rw [hs, someStep, if_pos (by rw [hx]; simpa using h2)]
        simp only [go_sem, qC, qG, qW, h', h1, h5]
        refine w_append (D := D) (xs := (someL out (l.take k)).map (.int .i64)) (ys := [.int .i64 l[k].n]) (rs := []) ?_ ?_ ?_ ?_ ?_
        · simp only [go_sem, qW]
          exact h0
        · simp only [go_sem, qW]
        · rfl
        · simp; omega
        · intro v' en' cnt' hown hen hcnt
          simp only [go_sem, qC, qG, qW, h', h1, h5]
          refine ⟨_, _, _, rfl, ?_⟩
          simp only [go_sem, qC, qG, qW, h', h1, h5, wrap_succ h' hf]
          refine ⟨?_, fun n t g h => ?_⟩
          · rw [hs2, List.map_append]
            exact Mine.sub hown (by intro t ht; rcases List.mem_cons.1 ht with rfl | ht <;> assumption)
          · rw [hen n t g (by rcases h with h | h; exact .inl h; exact .inr ⟨fun e => h.1 (e ▸ hD), h.1⟩)]
            exact hI n t g h
      · have hs2 : someL out (l.take (k + 1)) = someL out (l.take k) := by rw [hs, someStep, if_neg (by rw [hx]; simpa using h2)]
        simp only [go_sem, qC, qG, qW, h', h1, h5]
        refine ⟨_, _, _, rfl, ?_⟩
        simp only [go_sem, qC, qG, qW, h', h1, h5, wrap_succ h' hf]
        exact ⟨by rw [hs2]; exact h0, hI⟩
    · have hx : isRef l[k] = false := hg
      have hs2 : someL out (l.take (k + 1)) = someL out (l.take k) := by rw [hs, someStep, if_neg (by rw [hx]; simp)]
      simp only [go_sem, qC, qG, qW, hg, h', h1, h5]
      refine ⟨_, _, _, rfl, ?_⟩
      simp only [go_sem, qC, qG, qW, h', h1, h5, wrap_succ h' hf]
      exact ⟨by rw [hs2]; exact h0, hI⟩
  · have : k = l.length := by simp at h; omega
    subst this
    rw [List.take_length] at h0
    simp only [go_sem, qC, qG, qW]
    exact ⟨h0, fun n t g h => by rw [← hen0]; exact hI n t g h⟩
theorem sameL_map {α : Type} {g : Val → Val → Bool} {f : α → Val} : ∀ (l : List α), (∀ x ∈ l, g (f x) (f x) = true) → sameL g (l.map f) (l.map f) = true
  | [], _ => rfl
  | x :: l, h => by simp only [List.map_cons, sameL, Bool.and_eq_true]; exact ⟨h x (by simp), sameL_map l fun y hy => h y (by simp [hy])⟩
theorem sameV_int {n : Nat} {k : IntKind} {i : Int} : sameV (n + 1) (.int k i) (.int k i) = true := by simp [sameV]
theorem sameV_val {n : Nat} (v : MVal) : sameV (n + 2) (MVal.enc v) (MVal.enc v) = true := by simp [sameV, MVal.enc, sameL]
theorem sameV_vals {n : Nat} (l : List MVal) : sameV (n + 3) (.fz (l.map MVal.enc)) (.fz (l.map MVal.enc)) = true := sameL_map l fun v _ => sameV_val v
theorem sameV_frame {n : Nat} (f : MFrame) : sameV (n + 4) (MFrame.enc f) (MFrame.enc f) = true := by
  show sameL (sameV (n + 3)) [_, _, _] [_, _, _] = true
  simp only [sameL, sameV_vals, sameV_int, Bool.and_self]
theorem sameV_frames {n : Nat} (l : List MFrame) : sameV (n + 5) (.fz (l.map MFrame.enc)) (.fz (l.map MFrame.enc)) = true := sameL_map l fun v _ => sameV_frame v
theorem sameE_obj (o : MObj) (f : Bool) : sameE (some (.box [.int .i64 o.form, .int .i64 o.n, .fz (o.vals.map MVal.enc), .fz (o.frames.map MFrame.enc)] f)) (some (.box [.int .i64 o.form, .int .i64 o.n, .fz (o.vals.map MVal.enc), .fz (o.frames.map MFrame.enc)] f)) = true := by
  simp only [sameE, sameL, sameV_vals, sameV_int, sameV_frames, Bool.and_self, decide_true]
theorem apart_m {v v' : Val} {m : En × (Nat → Nat → Nat)} {u u' : Key → Bool} {rs : List R} : apartRes { v, mem := some m, unch := u } { v := v', rs := rs, unch := u' } = rs.all (fun r => u r.key) := by simp [apartRes, Res.still]
def framesL (o : MObj) (k : Nat) : List Int := (o.frames.take k).foldl (fun out f => someL (someL out f.env) f.vals) (someL [] o.vals)
theorem framesL_step {o : MObj} {k : Nat} (h : k < o.frames.length) : framesL o (k + 1) = someL (someL (framesL o k) o.frames[k].env) o.frames[k].vals := by
  unfold framesL; rw [take_step h]; simp only [List.foldl_append, List.foldl_cons, List.foldl_nil]
theorem framesL_full (o : MObj) : framesL o o.frames.length = refsL o := by unfold framesL refsL; rw [List.take_length]
theorem small_obj {o : MObj} (hs : smallObj o = true) : o.vals.length ≤ 40 ∧ o.frames.length ≤ 50 ∧ ∀ f ∈ o.frames, f.env.length ≤ 40 ∧ f.vals.length ≤ 40 := by
  simp only [smallObj, Bool.and_eq_true, decide_eq_true_eq, List.all_eq_true] at hs
  refine ⟨by omega, by omega, fun f hf => ?_⟩
  have := hs.2 f hf
  omega
theorem small_few {o : MObj} (hs : smallObj o = true) : o.few := by
  obtain ⟨h1, h2, h3⟩ := small_obj hs
  refine ⟨by unfold Few; omega, by unfold Few; omega, fun f hf => ?_⟩
  have := h3 f hf
  exact ⟨by unfold Few; omega, by unfold Few; omega⟩
theorem framesL_len {o : MObj} (hs : smallObj o = true) : ∀ (k : Nat), k ≤ o.frames.length → (framesL o k).length ≤ 40 + 80 * k
  | 0, _ => by
    have h1 := someL_len o.vals []
    have h2 := (small_obj hs).1
    have e : framesL o 0 = someL [] o.vals := by simp [framesL]
    rw [e]; simp only [List.length_nil] at h1; omega
  | k + 1, h => by
    have h1 := framesL_len hs k (by omega)
    rw [framesL_step (by omega)]
    have h2 := someL_len o.frames[k].vals (someL (framesL o k) o.frames[k].env)
    have h3 := someL_len o.frames[k].env (framesL o k)
    have h4 := (small_obj hs).2.2 _ (List.getElem_mem (show k < o.frames.length by omega))
    omega
theorem refsL_len {o : MObj} (hs : smallObj o = true) : (refsL o).length ≤ 4040 := by
  rw [← framesL_full]
  have := framesL_len hs o.frames.length (Nat.le_refl _)
  have := (small_obj hs).2.1
  omega
theorem R18_Refs_pc (o : MObj) (hs : smallObj o = true) : PC L F.R18_Refs [.agg [.int .i64 o.form, .int .i64 o.n, .fz (o.vals.map MVal.enc), .fz (o.frames.map MFrame.enc)]] (.fz ((refsL o).map (.int .i64))) := by
  obtain ⟨b1, b2, b3⟩ := small_obj hs
  have hf : Few o.frames.length := by unfold Few; omega
  refine pc_of LF.R18_Refs rfl rfl ?_
  simp only [go_sem, qC, qG, qW, C.R18_Refs]
  refine (some_win [] o.vals (D := [35]) (by simp) (Mine.nil _ _) (by simp; omega)).mono ?_
  rintro v en' cnt' ⟨hm, hfr⟩
  have e1 : en' ⟨0, 1, 0⟩ = some (.box [.int .i64 o.form, .int .i64 o.n, .fz (o.vals.map MVal.enc), .fz (o.frames.map MFrame.enc)] false) := by rw [hfr _ _ _ (.inr ⟨by simp, by simp⟩)]; simp only [go_sem, qW]
  refine wp_for o.frames.length (fun k st => ∃ fr en cnt, st = ⟨fr, en, cnt⟩ ∧ fr 1 = .ptr ⟨0, 1, 0⟩ 0 ∧ en ⟨0, 1, 0⟩ = some (.box [.int .i64 o.form, .int .i64 o.n, .fz (o.vals.map MVal.enc), .fz (o.frames.map MFrame.enc)] false) ∧ fr 4 = .int .i64 k ∧ Mine en (fr 3) 1 ((framesL o k).map (.int .i64)) [35]) 0 (Nat.zero_le _) ⟨_, _, _, rfl, by simp only [go_sem, qW], by simp only [go_sem, e1], by simp only [go_sem, qW], by simp only [go_sem, qW]; simpa [framesL] using hm⟩ ?_
  rintro k st hk ⟨fr, en, cnt, rfl, h1, e1, h4, h3⟩
  simp only [go_sem, qC, qG, qW, h1, e1, h4]
  refine condK_split (fun hq => ?_) (fun hq => ?_)
  · have h' : k < o.frames.length := of_decide_eq_true hq
    have h4' := b3 _ (List.getElem_mem h')
    have hl := framesL_len hs k hk
    have hl2 := someL_len o.frames[k].env (framesL o k)
    simp only [go_sem, qC, qG, qW, h', h1, e1, h4]
    refine wp_foot ?_
    simp only [go_sem, qC, qG, qW, h', h1, e1, h4, List.all_cons, List.getElem?_cons_zero, List.getElem?_cons_succ, Bool.true_or, Bool.or_true]
    refine (some_win (framesL o k) o.frames[k].env (D := [35]) (by simp) h3 (by omega)).mono ?_
    rintro v1 en1 cnt1 ⟨hm1, hfr1⟩
    have e1' := (hfr1 0 1 0 (.inr ⟨by simp, by simp⟩)).trans e1
    simp only [go_sem, qC, qG, qW, h', h1, e1', h4, List.all_cons, List.getElem?_cons_zero, List.getElem?_cons_succ, Bool.true_or, Bool.or_true]
    refine (some_win (someL (framesL o k) o.frames[k].env) o.frames[k].vals (D := [35]) (by simp) hm1 (by omega)).mono ?_
    rintro v2 en2 cnt2 ⟨hm2, hfr2⟩
    have e1'' := (hfr2 0 1 0 (.inr ⟨by simp, by simp⟩)).trans e1'
    simp only [go_sem, qC, qG, qW, h', h1, e1, e1', h4, List.all_cons, List.getElem?_cons_zero, List.getElem?_cons_succ, Bool.true_or, Bool.or_true, apart_m, sameE_obj, List.all_nil]
    refine ⟨rfl, _, _, _, rfl, ?_⟩
    simp only [go_sem, qC, qG, qW, h', h1, e1'', h4, wrap_succ h' hf]
    rw [framesL_step h']
    exact hm2
  · have : k = o.frames.length := by simp at hq; omega
    subst this
    rw [framesL_full] at h3
    simp only [go_sem, qC, qG, qW]
    obtain ⟨r, ks, s1, s2, s3⟩ := mine_ret h3
    simp only [go_sem, qC, qG, qW, s1, s2]
end Go.Proofs.YthpmfghgoabnhaaGreat
