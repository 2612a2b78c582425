/- The examples of chapter 23: the law returns true, whatever the state of the machine that it begins in. -/
import Derived.Test.YtmnchlhngpdffaaGreatM5
import Derived.Test.YtmnchlhngpdffaaGreatEY
import Derived.Test.YtmnchlhngpdffaaGreatCg
import Derived.Test.YtmnchlhngpdffaaGreatRows
import Derived.Test.YtmnchlhngpdffaaGreatHxD
set_option linter.all false
namespace Go.Proofs.YtmnchlhngpdffaaGreat
open Go.Abs Go.Proofs
open Go.ChangeShapes Go.WideShapes Go.ChangeAt Go.RowKit
theorem own : ownKnob Tryz.prog.godebug = none := by kernel_rfl
theorem laidOut : laidOutB Tryz.prog = true := by kernel_rfl
theorem mixed : Tryz.prog.follows .mixedOrders = true := by kernel_rfl
set_option maxRecDepth 100000 in
theorem known_lifted (os : Os) (started : os.Started) (H : Type) (enc : TypeId × Value → H) :
  ReturnsInHanded {} Tryz.checked os F.W23_PastKnown .any (Rows.pastKnownSpec.pre6 enc Tryz.prog Tryz.f7 Rows.pastKnownRow.domain false) (Rows.pastKnownSpec.post enc Tryz.prog Tryz.f7 false true false false) := by
 refine returnsInHanded_of_change (C := Tryz.checked) own started (by kernel_rfl) Tryz.func7
  (ChangeSpec.witness6 (enc := enc) (C := Tryz.checked) false ⟨#[],#[],[]⟩ 8 (by kernel_rfl) (by kernel_rfl) (by kernel_rfl) (by kernel_rfl)) ?_
 intro W base args ds gs before hval0 hW hcnd _
 have hW' := hW
 obtain ⟨p,q,hA0,hV,rfl,hfz,hnd⟩ := hW
 have hA : DataW.TrodAll enc Tryz.prog W 0 (fun _ => true) true Tryz.f7.params.toList args.toList ds p := hA0
 rw [Tryz.params7] at hA
 obtain ⟨rfl,rfl,rfl⟩ := trodAll_none hA
 obtain ⟨rfl,rfl⟩ := trodVars_none hV
 obtain ⟨n,hn⟩ := past_known_pc
 refine (calls_true mixed L_ok (hn n (Nat.le_refl _)) (S := fun _ _ => False) (w := W) (vals := #[]) (fun _ _ h => h.elim) (fun v x ⟨g,cs,h,_⟩ => by cases h) rfl (fun i hi => by simp at hi)).mono fun e W' ⟨he,hb⟩ => ?_
 subst he
 exact ⟨_,rfl,law_post (bt := 4) hW' rfl (by kernel_rfl) Tryz.underlying4 rfl laidOut (fun t ht => by rw [Tryz.params7] at ht; simp at ht) hb⟩
theorem past_known_holds : Rows.PastKnownSaid :=
 OpenClaim.holds_of_wide F.W23_PastKnown Tryz.f7 rfl rfl rfl rfl rfl rfl rfl ⟨rfl,rfl,rfl,rfl,rfl⟩ rfl rfl rfl rfl rfl (by kernel_rfl) Tryz.func7 known_closed
  (of_decide_eq_true (by kernel_rfl)) (by unfold Func.isWrapper; first | (rw [if_pos (by decide +kernel)]; kernel_rfl) | (rw [if_neg (by decide +kernel)]; exact ⟨rfl,rfl⟩))
  (fun os started H enc _ => known_lifted os started H enc)
#print axioms past_known_holds
end Go.Proofs.YtmnchlhngpdffaaGreat
