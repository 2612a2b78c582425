/- In how many slices a cycle surely ends, or the errors, is as stated: for all numbers. -/
import Derived.Test.YthpmfghgoabnhaaGreatWi
import Derived.Test.YthpmfghgoabnhaaGreatKn
namespace Go.Proofs.YthpmfghgoabnhaaGreat
open Go.Abs Go.Proofs
open Go.ChangeShapes Go.WideShapes Go.ChangeAt Go.RowKit

theorem ReapWithins_pc (a b c : Int) : PC L F.W18_ReapWithins [.int .i64 a, .int .i64 b, .int .i64 c] (.bool true) := by
  refine pc_of LF.W18_ReapWithins rfl rfl ?_
  simp only [C.W18_ReapWithins, go_sem, Nat.reduceEqDiff, Nat.reduceAdd, (reap_Within_pc _ _ _).ret, (R18_Within_pc _ _ _).ret, known_pc.ret, decide_true]

theorem own : ownKnob Tryz.prog.godebug = none := by kernel_rfl
theorem laidOut : laidOutB Tryz.prog = true := by kernel_rfl
theorem mixed : Tryz.prog.follows .mixedOrders = true := by kernel_rfl

set_option maxRecDepth 100000 in
theorem withins_lifted (os : Os) (started : os.Started) (H : Type) (enc : TypeId × Value → H) :
    ReturnsInHanded {} Tryz.checked os F.W18_ReapWithins .any (Rows.reapWithinsSpec.pre6 enc Tryz.prog Tryz.f7 Rows.reapWithinsRow.domain false) (Rows.reapWithinsSpec.post enc Tryz.prog Tryz.f7 false true false false) := by
  refine returnsInHanded_of_change (C := Tryz.checked) own started (by kernel_rfl) Tryz.func7
    (ChangeSpec.witness6 (enc := enc) (C := Tryz.checked) false ⟨#[], #[.int .i64 0, .int .i64 0, .int .i64 0], []⟩ 8 (by kernel_rfl) (by kernel_rfl) (by kernel_rfl) (by kernel_rfl)) ?_
  intro W base args ds gs before hval0 hW hcnd _
  have hval : ∀ (j : Nat) t v, Tryz.f7.params[j]? = some t → args[j]? = some v → Value.okWide Tryz.prog W .any base t v := hval0
  have hW' := hW
  obtain ⟨p, q, hA0, hV, rfl, hfz, hnd⟩ := hW
  have hA : DataW.TrodAll enc Tryz.prog W 0 (fun _ => true) true Tryz.f7.params.toList args.toList ds p := hA0
  rw [Tryz.params7] at hA hval
  obtain ⟨v0, v1, v2, d0, d1, d2, p0, p1, p2, rfl, rfl, rfl, h0, h1, h2⟩ := trodAll_three hA
  obtain ⟨rfl, rfl⟩ := trodVars_none hV
  obtain ⟨a, rfl, rfl, rfl, wa⟩ := open_int Tryz.underlying3 (hval 0 3 v0 rfl rfl) h0
  obtain ⟨b, rfl, rfl, rfl, wb⟩ := open_int Tryz.underlying3 (hval 1 3 v1 rfl rfl) h1
  obtain ⟨c, rfl, rfl, rfl, wc⟩ := open_int Tryz.underlying3 (hval 2 3 v2 rfl rfl) h2
  clear hA0 hval0
  obtain ⟨n, hn⟩ := ReapWithins_pc a b c
  refine (calls_true mixed L_ok (hn n (Nat.le_refl _)) (S := fun _ _ => False) (w := W) (vals := #[.int .i64 a, .int .i64 b, .int .i64 c]) (fun _ _ h => h.elim) rfl (fun i hi => ?_)).mono fun e W' ⟨he, hb⟩ => ?_
  · match i, hi with
    | 0, _ => exact .int _ _
    | 1, _ => exact .int _ _
    | 2, _ => exact .int _ _
  · subst he
    exact ⟨_, rfl, law_post (bt := 4) hW' rfl (by kernel_rfl) Tryz.underlying4 rfl laidOut (fun t ht => by
      rw [Tryz.params7] at ht
      simp only [List.mem_cons, List.not_mem_nil, or_false] at ht
      rcases ht with rfl | rfl | rfl <;> exact ⟨by kernel_rfl, of_decide_eq_true (by kernel_rfl)⟩) hb⟩

theorem withins_holds : Rows.ReapWithinsSaid :=
  OpenClaim.holds_of_wide 7 Tryz.f7 rfl rfl rfl rfl rfl rfl rfl ⟨rfl, rfl, rfl, rfl, rfl⟩ rfl rfl rfl rfl rfl (by kernel_rfl) Tryz.func7 (by kernel_rfl)
    (of_decide_eq_true (by kernel_rfl)) (by unfold Func.isWrapper; first | (rw [if_pos (by decide +kernel)]; kernel_rfl) | (rw [if_neg (by decide +kernel)]; exact ⟨rfl, rfl⟩))
    (fun os started H enc _ => withins_lifted os started H enc)
#print axioms withins_holds
end Go.Proofs.YthpmfghgoabnhaaGreat
