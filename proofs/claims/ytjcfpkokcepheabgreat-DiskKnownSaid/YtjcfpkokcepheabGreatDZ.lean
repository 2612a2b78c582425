/- The examples of chapter 16: the law returns true, whatever the state of the machine that it begins in. -/
import Derived.Test.YtjcfpkokcepheabGreatDJ
import Derived.Test.YtjcfpkokcepheabGreatCg
import Derived.Test.YtjcfpkokcepheabGreatRows
import Derived.Test.YtjcfpkokcepheabGreatHxC
import Derived.Test.YtjcfpkokcepheabGreatHxD
set_option linter.all false
namespace Go.Proofs.YtjcfpkokcepheabGreat
open Go.Abs Go.Proofs
open Go.ChangeShapes Go.WideShapes Go.ChangeAt Go.RowKit
theorem tame : tameB Tryz.prog (fun g => (Nat.blt 2 g && Nat.blt g 128)) = true := by kernel_rfl
theorem known_closed : joinedFacts Tryz.prog 3 Tryz.f3 Rows.diskKnownSpec Rows.diskKnownRow = true := by
 obtain ⟨i1,i2⟩ := closure_tame tame (f := 3) rfl
 obtain ⟨u1,u2⟩ := unf_of (closure_step (closure_step (closure_all _ 3).1 Tryz.func3 (by kernel_rfl)) Tryz.func4 (by kernel_rfl)) Tryz.func25 (by kernel_rfl)
 unfold joinedFacts OpenClaim.veiledFits Program.veiledOwn Program.readableRec Program.loopsFrom Program.mapsRec Program.ifacesRec Program.veiledRec Program.wideKeysFrom
 simp only [book_q,i1,i2,u1,u2]
 kernel_rfl
theorem own : ownKnob Tryz.prog.godebug = none := by kernel_rfl
theorem laidOut : laidOutB Tryz.prog = true := by kernel_rfl
theorem mixed : Tryz.prog.follows .mixedOrders = true := by kernel_rfl
set_option maxRecDepth 100000 in
theorem known_lifted (os : Os) (started : os.Started) (H : Type) (enc : TypeId × Value → H) :
  ReturnsInHanded {} Tryz.checked os F.W16_DiskKnown .any (Rows.diskKnownSpec.pre6 enc Tryz.prog Tryz.f3 Rows.diskKnownRow.domain false) (Rows.diskKnownSpec.post enc Tryz.prog Tryz.f3 false true false false) := by
 refine returnsInHanded_of_change (C := Tryz.checked) own started (by kernel_rfl) Tryz.func3
  (ChangeSpec.witness6 (enc := enc) (C := Tryz.checked) false ⟨#[],#[],[]⟩ 8 (by kernel_rfl) (by kernel_rfl) (by kernel_rfl) (by kernel_rfl)) ?_
 intro W base args ds gs before hval0 hW hcnd _
 have hW' := hW
 obtain ⟨p,q,hA0,hV,rfl,hfz,hnd⟩ := hW
 have hA : DataW.TrodAll enc Tryz.prog W 0 (fun _ => true) true Tryz.f3.params.toList args.toList ds p := hA0
 rw [Tryz.params3] at hA
 obtain ⟨rfl,rfl,rfl⟩ := trodAll_none hA
 obtain ⟨rfl,rfl⟩ := trodVars_none hV
 obtain ⟨n,hn⟩ := known_pc
 refine (calls_true mixed L_ok (hn n (Nat.le_refl _)) (S := fun _ _ => False) (w := W) (vals := #[]) (fun _ _ h => h.elim) (fun v x ⟨g,cs,h,_⟩ => by cases h) rfl (fun i hi => by simp at hi)).mono fun e W' ⟨he,hb⟩ => ?_
 subst he
 exact ⟨_,rfl,law_post (bt := 4) hW' rfl (by kernel_rfl) Tryz.underlying4 rfl laidOut (fun t ht => by rw [Tryz.params3] at ht; simp at ht) hb⟩
theorem disk_known_holds : Rows.DiskKnownSaid :=
 OpenClaim.holds_of_wide F.W16_DiskKnown Tryz.f3 rfl rfl rfl rfl rfl rfl rfl ⟨rfl,rfl,rfl,rfl,rfl⟩ rfl rfl rfl rfl rfl (by kernel_rfl) Tryz.func3 known_closed
  (of_decide_eq_true (by kernel_rfl)) (by unfold Func.isWrapper; first | (rw [if_pos (by decide +kernel)]; kernel_rfl) | (rw [if_neg (by decide +kernel)]; exact ⟨rfl,rfl⟩))
  (fun os started H enc _ => known_lifted os started H enc)
#print axioms disk_known_holds
end Go.Proofs.YtjcfpkokcepheabGreat
