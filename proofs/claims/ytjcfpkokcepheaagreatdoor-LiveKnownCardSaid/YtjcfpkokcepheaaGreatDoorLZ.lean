/- The examples of chapter 12: the law returns true, whatever the state of the machine that it begins in, if the table of math/bits holds what the program's text lays in it; the card ties that table to the text. -/
import Derived.Test.YtjcfpkokcepheaaGreatDoorUA
import Derived.Test.YtjcfpkokcepheaaGreatDoorCg
import Derived.Test.YtjcfpkokcepheaaGreatDoorRows
import Derived.Test.YtjcfpkokcepheaaGreatDoorCards
import Derived.Test.YtjcfpkokcepheaaGreatDoorTie
import Derived.Test.YtjcfpkokcepheaaGreatDoorHxC
import Derived.Test.YtjcfpkokcepheaaGreatDoorHxD
import Derived.SevenTiedAt
import Derived.LaidLaws
import Derived.LaidHandle
import Derived.Lib.LaidTab
set_option linter.all false
namespace Go.Proofs.YtjcfpkokcepheaaGreatDoor
open Go.Abs Go.Proofs
open Go.ChangeShapes Go.WideShapes Go.ChangeAt Go.RowKit
theorem tame : tameV Tryz.prog 0 (fun g => (Nat.blt 2 g && Nat.blt g 133) || (Nat.blt 147 g && Nat.blt g 151)) = true := by kernel_rfl
theorem known_closed : joinedFacts Tryz.prog 3 Tryz.f3 Rows.liveKnownSpec Rows.liveKnownRow = true := by
 obtain ⟨i1,i2⟩ := closure_tameV tame (f := 3) rfl (closure_step (closure_step (closure_step (closure_all _ 3).1 Tryz.func3 (by kernel_rfl)) Tryz.func17 (by kernel_rfl)) Tryz.func29 (by kernel_rfl)) Tryz.func60 (by kernel_rfl) (name := "math/bits.deBruijn64tab") (by kernel_rfl)
 obtain ⟨u1,u2⟩ := unf_of (closure_step (closure_all _ 3).1 Tryz.func3 (by kernel_rfl)) Tryz.func6 (by kernel_rfl)
 unfold joinedFacts OpenClaim.veiledFits Program.veiledOwn Program.readableRec Program.loopsFrom Program.mapsRec Program.ifacesRec Program.veiledRec Program.wideKeysFrom
 simp only [book_q,i1,i2,u1,u2]
 kernel_rfl
theorem own : ownKnob Tryz.prog.godebug = none := by kernel_rfl
theorem laidOut : laidOutB Tryz.prog = true := by kernel_rfl
theorem mixed : Tryz.prog.follows .mixedOrders = true := by kernel_rfl
def tabZ : List Int := [0,1,56,2,57,49,28,3,61,58,42,50,38,29,17,4,62,47,59,36,45,43,51,22,53,39,33,30,24,18,12,5,63,55,48,27,60,41,37,16,46,35,44,21,52,32,23,11,54,26,40,15,34,20,31,10,25,14,19,9,13,8,7,6]
theorem gT : Tryz.prog.globalNamed "math/bits.deBruijn64tab" = some 0 := by kernel_rfl
theorem tab_of {W : World} (h : laidMetH Tryz.prog Rows.liveKnownRow.laid W) : Lib.TabIs Tryz.prog W "math/bits.deBruijn64tab" .u8 tabZ := by
 have h' : laidMet Tryz.prog (("math/bits.deBruijn64tab",Lib.tabData .u8 tabZ) :: []) W := h
 exact Lib.tabIs_of_head (t := 177) (e := 5) (n := 64) gT (by kernel_rfl) (by kernel_rfl) (by kernel_rfl) (by kernel_rfl) (by kernel_rfl) h'
theorem glob_ok {W : World} (h : Lib.TabIs Tryz.prog W "math/bits.deBruijn64tab" .u8 tabZ) : GlobOk (fun b _ => b = 0) W := by
 rintro v x ⟨g,cs,hg,rfl,rfl⟩
 have hg' : (if g = 0 then some Tab else none) = some cs := hg
 split at hg'
 case isFalse => cases hg'
 rename_i e
 subst e
 obtain rfl := Option.some.inj hg'
 have hl : Tab.length = 64 := by kernel_rfl
 refine .fp Tab 0 0 0 (fun j => .int .u8 (tabZ.getD j 0)) (fun j hj => ?_) (fun _ _ => rfl) (fun _ _ => rfl) (fun j hj => ?_)
 ·rw [hl] at hj
  simpa only [Nat.zero_add] using h.cell gT j hj
 ·have e : Tab = tabZ.map (.int .u8) := rfl
  have hz : j < tabZ.length := by rw [hl] at hj; exact hj
  have e2 : Tab.getD j .dead = .int .u8 (tabZ.getD j 0) := by
   rw [e,List.getD_eq_getElem?_getD,List.getD_eq_getElem?_getD,List.getElem?_map,List.getElem?_eq_getElem hz]; rfl
  rw [e2]
  exact .int _ _
theorem glob_in {W : World} (h : Lib.TabIs Tryz.prog W "math/bits.deBruijn64tab" .u8 tabZ) : ∀ b o : Nat,b = 0 → b < W.heap.size := by
 rintro b _ rfl
 have h0 := h.cell gT 0 (by decide)
 refine Nat.lt_of_not_le fun hn => ?_
 have : W.heap[0]? = none := Array.getElem?_eq_none hn
 simp [World.cell?,this] at h0
noncomputable def laidWorld (os : Os) : World :=
 { World.holding Tryz.prog os ⟨#[],#[],[]⟩ with heap := (World.holding Tryz.prog os ⟨#[],#[],[]⟩).heap.modify 0 fun
   | .cells _ t frozen => .cells (tabZ.map fun z => Value.int .u8 z).toArray t frozen
   | o => o }
theorem laid_met (os : Os) (args : Array Value) : laidMetH Tryz.prog Rows.liveKnownRow.laid ((laidWorld os).forCall (fun _ _ => 0) ⟨#[],args,[]⟩).memory :=
 show laidMet Tryz.prog Rows.liveKnownRow.laid _ from laidMet_of_run' 8 (by kernel_rfl) (by kernel_rfl)
set_option maxRecDepth 100000 in
theorem known_lifted (os : Os) (started : os.Started) (H : Type) (enc : TypeId × Value → H) :
  ReturnsInHanded {} Tryz.checked os F.W12_LiveKnown .any (fun w args => (Rows.liveKnownSpec.pre enc Tryz.prog Tryz.f3 Rows.liveKnownRow.domain false w args ∧ laidMetH Tryz.prog Rows.liveKnownRow.laid w) ∧ sizedMet enc Tryz.prog Tryz.f3 (OpenSpec.ofChange Rows.liveKnownSpec) false w args) (Rows.liveKnownSpec.post enc Tryz.prog Tryz.f3 false true false false) := by
 refine returnsInHanded_of_change_and (C := Tryz.checked) (X := fun w _ => laidMetH Tryz.prog Rows.liveKnownRow.laid w) (fun _ _ _ hh h => h.of_heap hh) own started (by kernel_rfl) Tryz.func3
  (ChangeSpec.witness_at (enc := enc) (C := Tryz.checked) (os := os) (X := fun w _ => laidMetH Tryz.prog Rows.liveKnownRow.laid w) false (laidWorld os) #[] 8 rfl (by kernel_rfl) (by kernel_rfl) (by kernel_rfl) (by kernel_rfl) (by kernel_rfl) (laid_met os _)) ?_
 intro W base args ds gs before hval0 hW _ _ hL _
 have hW' := hW
 obtain ⟨p,q,hA0,hV,rfl,hfz,hnd⟩ := hW
 have hA : DataW.TrodAll enc Tryz.prog W 0 (fun _ => true) true Tryz.f3.params.toList args.toList ds p := hA0
 rw [Tryz.params3] at hA
 obtain ⟨rfl,rfl,rfl⟩ := trodAll_none hA
 obtain ⟨rfl,rfl⟩ := trodVars_none hV
 obtain ⟨n,hn⟩ := known_pc
 have ht := tab_of hL
 refine (calls_true mixed L_ok (hn n (Nat.le_refl _)) (S := fun b _ => b = 0) (w := W) (vals := #[]) (glob_in ht) (glob_ok ht) rfl (fun i hi => by simp at hi)).mono fun e W' ⟨he,hb⟩ => ?_
 subst he
 exact ⟨_,rfl,law_post (bt := 4) hW' rfl (by kernel_rfl) Tryz.underlying4 rfl laidOut (fun t ht => by rw [Tryz.params3] at ht; simp at ht) hb⟩
theorem live_known_row : Rows.LiveKnownSaid :=
 OpenClaim.holds_of_wide F.W12_LiveKnown Tryz.f3 rfl rfl rfl rfl rfl rfl rfl ⟨rfl,rfl,rfl,rfl,rfl⟩ rfl rfl rfl rfl rfl (by kernel_rfl) Tryz.func3 known_closed
  (of_decide_eq_true (by kernel_rfl)) (by unfold Func.isWrapper; first | (rw [if_pos (by decide +kernel)]; kernel_rfl) | (rw [if_neg (by decide +kernel)]; exact ⟨rfl,rfl⟩))
  (fun os started H enc _ => known_lifted os started H enc)
theorem live_known_holds : Rows.LiveKnownCardSaid :=
 Claim7.holds_tied_plain_at .later [] [.data] true (true,"d1ec6118e360e130484d52e55cc694bb6f752a03d8cb3321f5a210faa4e74395") true
  live_known_row (fun _ h => by cases h) (by kernel_rfl) (fun _ h => by cases h) liveKnown_row_tie rfl ⟨rfl,rfl⟩ (by kernel_rfl) rfl
  (fun f fn hf hfn => by
   obtain rfl : f = 3 := Option.some.inj ((show Tryz.prog.funcNamed "hearth/hearthlaw12.LiveKnown" = some 3 by kernel_rfl).symm.trans hf) |>.symm
   obtain rfl : fn = Tryz.f3 := (Option.some.inj (Tryz.func3.symm.trans hfn)).symm
   exact ⟨by kernel_rfl,fun j t ht => by rw [Tryz.params3] at ht; simp at ht⟩)
  (by kernel_rfl)
#print axioms live_known_holds
end Go.Proofs.YtjcfpkokcepheaaGreatDoor
