/- States after slices: for all programs, states and numbers. -/
import Derived.Test.YthpmfghgoabnhaaGreatG1
import Derived.Test.YthpmfghgoabnhaaGreatW48
set_option linter.all false
namespace Go.Proofs.YthpmfghgoabnhaaGreat
open Go.Abs Go.Proofs
open Go.ChangeShapes Go.WideShapes Go.ChangeAt Go.RowKit
set_option maxRecDepth 100000
theorem slices_lifted (hk : PC L F.W18_known [] (.bool true)) (os : Os) (started : os.Started) (H : Type) (enc : TypeId × Value → H) :
    ReturnsInHanded {} Tryz.checked os F.W18_ReapSlices .any (Rows.reapSlicesSpec.pre6 enc Tryz.prog Tryz.f6 Rows.reapSlicesRow.domain false) (Rows.reapSlicesSpec.post enc Tryz.prog Tryz.f6 false true false false) := by
  refine returnsInHanded_of_change (C := Tryz.checked) own started (by kernel_rfl) Tryz.func6
    (ChangeSpec.witness6 (enc := enc) (C := Tryz.checked) false ⟨#[], #[.agg #[.slice none 0 0, .slice none 0 0, .int .i64 0, .slice none 0 0], .agg #[.slice none 0 0, .slice none 0 0, .slice none 0 0, .slice none 0 0, .int .i64 0, .slice none 0 0, .slice none 0 0, .int .i64 0], .int .i64 0], []⟩ 8 (by kernel_rfl) (by kernel_rfl) (by kernel_rfl) (by kernel_rfl)) ?_
  intro W base args ds gs before hval0 hW hcnd _
  have hval : ∀ (j : Nat) t v, Tryz.f6.params[j]? = some t → args[j]? = some v → Value.okWide Tryz.prog W .any base t v := hval0
  have hW' := hW
  obtain ⟨p, q, hA0, hV, rfl, hfz, hnd⟩ := hW
  have hA : DataW.TrodAll enc Tryz.prog W 0 (fun _ => true) true Tryz.f6.params.toList args.toList ds p := hA0
  rw [Tryz.params6] at hA hval
  obtain ⟨v0, v1, v2, d0, d1, d2, p0, p1, p2, rfl, rfl, rfl, h0, h1, h2⟩ := trodAll_three hA
  obtain ⟨rfl, rfl⟩ := trodVars_none hV
  have a0 := hval 0 26 v0 rfl rfl
  have a1 := hval 1 48 v1 rfl rfl
  simp only [Value.okWide, Tryz.underlying26, Tryz.underlying48] at a0 a1
  obtain ⟨n0, x0, f0, r0⟩ := open_rec (of_decide_eq_true (by kernel_rfl)) (by decide) (a0.imp fun _ h => h.1) h0
  obtain ⟨n1, x1, f1, r1⟩ := open_rec (of_decide_eq_true (by kernel_rfl)) (by decide) (a1.imp fun _ h => h.1) h1
  obtain ⟨c, rfl, rfl, rfl, wc⟩ := open_int Tryz.underlying3 (hval 2 3 v2 rfl rfl) h2
  obtain ⟨pr, rfl, fpr⟩ := fits_BProg (n := n0 + 3) f0
  obtain ⟨s, rfl, fs⟩ := fits_RState (n := n1) f1
  clear hA0 hval0
  obtain ⟨n, hn⟩ := W18_ReapSlices_pc hk pr s c fpr fs
  refine (calls_true mixed L_ok (hn n (Nat.le_refl _)) (S := There W) (w := W) (vals := #[v0, v1, .int .i64 c]) (fun _ _ h => h) rfl (fun i hi => ?_)).mono fun e W' ⟨he, hb⟩ => ?_
  · match i, hi with
    | 0, _ => exact r0
    | 1, _ => exact r1
    | 2, _ => exact .int _ _
  · subst he
    exact ⟨_, rfl, law_post (bt := 4) hW' rfl (by kernel_rfl) Tryz.underlying4 rfl laidOut (fun t ht => by
      rw [Tryz.params6] at ht
      simp only [List.mem_cons, List.not_mem_nil, or_false] at ht
      rcases ht with rfl | rfl | rfl <;> exact ⟨by kernel_rfl, of_decide_eq_true (by kernel_rfl)⟩) hb⟩
end Go.Proofs.YthpmfghgoabnhaaGreat
