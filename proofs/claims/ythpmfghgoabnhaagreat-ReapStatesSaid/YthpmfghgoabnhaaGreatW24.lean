/- First states, and which states are as defined: for all programs, worlds and states. -/
import Derived.Test.YthpmfghgoabnhaaGreatW22
import Derived.Test.YthpmfghgoabnhaaGreatW23
set_option linter.unusedVariables false
set_option linter.unusedSimpArgs false
namespace Go.Proofs.YthpmfghgoabnhaaGreat
open Go.Abs Go.Proofs
open Go.ChangeShapes Go.WideShapes Go.ChangeAt Go.RowKit

theorem own : ownKnob Tryz.prog.godebug = none := by kernel_rfl
theorem laidOut : laidOutB Tryz.prog = true := by kernel_rfl
def plainT (t : TypeId) : Bool := [3, 9, 22, 23, 24, 26, 27, 28, 30, 48, 72, 73, 75, 101, 102, 103, 105, 114, 125, 127, 128, 130, 132, 134].contains t
theorem slicesFine : closedOk Tryz.prog plainT = true := by kernel_rfl
theorem mixed : Tryz.prog.follows .mixedOrders = true := by kernel_rfl
set_option maxRecDepth 100000
/-- An argument that is a record. -/
theorem open_rec {H : Type} {enc : TypeId × Value → H} {W : World} {sp : Nat → Bool} {t : TypeId} {v : Value} {d : DataW H} {ps : List MemPlace} (ht : t < Tryz.prog.types.size) (hs : plainT t = true) (hv : ∃ cs, v = .agg cs) (h : DataW.Trod enc Tryz.prog W 0 sp true t v d ps) :
    ∃ n vs, Fits Tryz.prog (n + 9) t vs ∧ VR (There W) Gh.none W (.agg vs) v := by
  obtain ⟨fuel, h⟩ := h
  obtain ⟨x, rfl⟩ := hv
  obtain ⟨vs, h1, h2⟩ := open_data laidOut plainT slicesFine fuel t x.toList _ ht hs h
  exact ⟨fuel, vs, fits_more 9 h1, agg_of_reads h2⟩
theorem states_lifted (hk : PC L F.W18_known [] (.bool true)) (os : Os) (started : os.Started) (H : Type) (enc : TypeId × Value → H) :
    ReturnsInHanded {} Tryz.checked os F.W18_ReapStates .any (Rows.reapStatesSpec.pre6 enc Tryz.prog Tryz.f4 Rows.reapStatesRow.domain false) (Rows.reapStatesSpec.post enc Tryz.prog Tryz.f4 false true false false) := by
  refine returnsInHanded_of_change (C := Tryz.checked) own started (by kernel_rfl) Tryz.func4
    (ChangeSpec.witness6 (enc := enc) (C := Tryz.checked) false ⟨#[], #[.agg #[.slice none 0 0, .slice none 0 0, .int .i64 0, .slice none 0 0], .agg #[.slice none 0 0, .slice none 0 0, .slice none 0 0, .slice none 0 0, .int .i64 0], .agg #[.slice none 0 0, .slice none 0 0, .slice none 0 0, .slice none 0 0, .int .i64 0, .slice none 0 0, .slice none 0 0, .int .i64 0]], []⟩ 8 (by kernel_rfl) (by kernel_rfl) (by kernel_rfl) (by kernel_rfl)) ?_
  intro W base args ds gs before hval0 hW hcnd _
  have hval : ∀ (j : Nat) t v, Tryz.f4.params[j]? = some t → args[j]? = some v → Value.okWide Tryz.prog W .any base t v := hval0
  have hW' := hW
  obtain ⟨p, q, hA0, hV, rfl, hfz, hnd⟩ := hW
  have hA : DataW.TrodAll enc Tryz.prog W 0 (fun _ => true) true Tryz.f4.params.toList args.toList ds p := hA0
  rw [Tryz.params4] at hA hval
  obtain ⟨v0, v1, v2, d0, d1, d2, p0, p1, p2, rfl, rfl, rfl, h0, h1, h2⟩ := trodAll_three hA
  obtain ⟨rfl, rfl⟩ := trodVars_none hV
  have a0 := hval 0 26 v0 rfl rfl
  have a1 := hval 1 30 v1 rfl rfl
  have a2 := hval 2 48 v2 rfl rfl
  simp only [Value.okWide, Tryz.underlying26, Tryz.underlying30, Tryz.underlying48] at a0 a1 a2
  obtain ⟨n0, x0, f0, r0⟩ := open_rec (of_decide_eq_true (by kernel_rfl)) (by decide) (a0.imp fun _ h => h.1) h0
  obtain ⟨n1, x1, f1, r1⟩ := open_rec (of_decide_eq_true (by kernel_rfl)) (by decide) (a1.imp fun _ h => h.1) h1
  obtain ⟨n2, x2, f2, r2⟩ := open_rec (of_decide_eq_true (by kernel_rfl)) (by decide) (a2.imp fun _ h => h.1) h2
  obtain ⟨pr, rfl, fpr⟩ := fits_BProg (n := n0 + 3) f0
  obtain ⟨w, rfl, fw⟩ := fits_MWorld (n := n1 + 1) f1
  obtain ⟨s, rfl, fs⟩ := fits_RState (n := n2) f2
  clear hA0 hval0
  obtain ⟨n, hn⟩ := W18_ReapStates_pc hk pr w s fpr fw fs
  refine (calls_true mixed L_ok (hn n (Nat.le_refl _)) (S := There W) (w := W) (vals := #[v0, v1, v2]) (fun _ _ h => h) rfl (fun i hi => ?_)).mono fun e W' ⟨he, hb⟩ => ?_
  · match i, hi with
    | 0, _ => exact r0
    | 1, _ => exact r1
    | 2, _ => exact r2
  · subst he
    exact ⟨_, rfl, law_post (bt := 4) hW' rfl (by kernel_rfl) Tryz.underlying4 rfl laidOut (fun t ht => by
      rw [Tryz.params4] at ht
      simp only [List.mem_cons, List.not_mem_nil, or_false] at ht
      rcases ht with rfl | rfl | rfl <;> exact ⟨by kernel_rfl, of_decide_eq_true (by kernel_rfl)⟩) hb⟩
end Go.Proofs.YthpmfghgoabnhaaGreat
