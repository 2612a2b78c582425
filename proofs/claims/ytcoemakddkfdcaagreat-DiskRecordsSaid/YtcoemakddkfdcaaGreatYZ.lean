/- The bytes of a record, and the record of bytes, are as stated, and those that are written are read: for all records and texts. -/
import Derived.Test.YtcoemakddkfdcaaGreatDF
import Derived.Test.YtcoemakddkfdcaaGreatM7
import Derived.Test.YtcoemakddkfdcaaGreatCg
import Derived.Test.YtcoemakddkfdcaaGreatHxC
set_option linter.all false
namespace Go.Proofs.YtcoemakddkfdcaaGreat
open Go.Abs Go.Proofs
open Go.ChangeShapes Go.WideShapes Go.ChangeAt Go.RowKit
set_option maxRecDepth 100000
theorem tame : tameB Tryz.prog (fun g => (Nat.blt 2 g && Nat.blt g 118)) = true := by kernel_rfl
theorem records_closed : joinedFacts Tryz.prog 3 Tryz.f3 Rows.diskRecordsSpec Rows.diskRecordsRow = true := by
 obtain ⟨i1,i2⟩ := closure_tame tame (f := 3) rfl
 obtain ⟨u1,u2⟩ := unf_of (closure_step (closure_step (closure_step (closure_all _ 3).1 Tryz.func3 (by kernel_rfl)) Tryz.func4 (by kernel_rfl)) Tryz.func14 (by kernel_rfl)) Tryz.func48 (by kernel_rfl)
 unfold joinedFacts OpenClaim.veiledFits Program.veiledOwn Program.readableRec Program.loopsFrom Program.mapsRec Program.ifacesRec Program.veiledRec Program.wideKeysFrom
 simp only [book_q,i1,i2,u1,u2]
 kernel_rfl
theorem records_lifted (os : Os) (started : os.Started) (H : Type) (enc : TypeId × Value → H) :
  ReturnsInHanded {} Tryz.checked os F.W16_DiskRecords .any (Rows.diskRecordsSpec.pre6 enc Tryz.prog Tryz.f3 Rows.diskRecordsRow.domain false) (Rows.diskRecordsSpec.post enc Tryz.prog Tryz.f3 false true false false) := by
 refine returnsInHanded_of_change (C := Tryz.checked) own started (by kernel_rfl) Tryz.func3
  (ChangeSpec.witness6 (enc := enc) (C := Tryz.checked) false ⟨#[],#[.agg #[.int (.i64) 0,.int (.i64) 0,.int (.i64) 0,.int (.i64) 0,.bool false,.string ⟨#[]⟩],.string ⟨#[]⟩],[]⟩ 8 (by kernel_rfl) (by kernel_rfl) (by kernel_rfl) (by kernel_rfl)) ?_
 intro W base args ds gs before hval0 hW hcnd _
 have hval : ∀ (j : Nat) t v,Tryz.f3.params[j]? = some t → args[j]? = some v → Value.okWide Tryz.prog W .any base t v := hval0
 have hW' := hW
 obtain ⟨p,q,hA0,hV,rfl,hfz,hnd⟩ := hW
 have hA : DataW.TrodAll enc Tryz.prog W 0 (fun _ => true) true Tryz.f3.params.toList args.toList ds p := hA0
 rw [Tryz.params3] at hA hval
 obtain ⟨v0,v1,d0,d1,p0,p1,rfl,rfl,rfl,h0,h1⟩ := trodAll_two hA
 obtain ⟨rfl,rfl⟩ := trodVars_none hV
 have a0 := hval 0 23 v0 rfl rfl
 obtain ⟨s,rfl⟩ := open_text (hval 1 9 v1 rfl rfl)
 simp only [Value.okWide,Tryz.underlying23] at a0
 obtain ⟨n0,x0,f0,r0⟩ := open_rec (of_decide_eq_true (by kernel_rfl)) (by decide) (a0.imp fun _ h => h.1) h0
 obtain ⟨r,rfl⟩ := fits_DRec (n := n0) f0
 clear hA0 hval0
 obtain ⟨n,hn⟩ := W16_DiskRecords_pc known_pc r s
 refine (calls_true mixed L_ok (hn n (Nat.le_refl _)) (S := There W) (w := W) (vals := #[v0,.string s]) (fun _ _ h => h) (fun v x ⟨g,cs,h,_⟩ => by cases h) rfl (fun i hi => ?_)).mono fun e W' ⟨he,hb⟩ => ?_
 ·match i,hi with
  | 0,_ => exact r0
  | 1,_ => exact .str s
 ·subst he
  exact ⟨_,rfl,law_post (bt := 4) hW' rfl (by kernel_rfl) Tryz.underlying4 rfl laidOut (fun t ht => by
   rw [Tryz.params3] at ht
   simp only [List.mem_cons,List.not_mem_nil,or_false] at ht
   rcases ht with rfl | rfl <;> exact ⟨by kernel_rfl,of_decide_eq_true (by kernel_rfl)⟩) hb⟩
theorem records_holds : Rows.DiskRecordsSaid :=
 OpenClaim.holds_of_wide F.W16_DiskRecords Tryz.f3 rfl rfl rfl rfl rfl rfl rfl ⟨rfl,rfl,rfl,rfl,rfl⟩ rfl rfl rfl rfl rfl (by kernel_rfl) Tryz.func3 records_closed
  (of_decide_eq_true (by kernel_rfl)) (by unfold Func.isWrapper; first | (rw [if_pos (by decide +kernel)]; kernel_rfl) | (rw [if_neg (by decide +kernel)]; exact ⟨rfl,rfl⟩))
  (fun os started H enc _ => records_lifted os started H enc)
#print axioms records_holds
end Go.Proofs.YtcoemakddkfdcaaGreat
