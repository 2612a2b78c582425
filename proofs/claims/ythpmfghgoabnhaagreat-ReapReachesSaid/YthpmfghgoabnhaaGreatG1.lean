/- What the laws are handed: for all of them. -/
import Derived.Test.YthpmfghgoabnhaaGreatW23
set_option linter.all false
namespace Go.Proofs.YthpmfghgoabnhaaGreat
open Go.Abs Go.Proofs
open Go.ChangeShapes Go.WideShapes Go.ChangeAt Go.RowKit
theorem own : ownKnob Tryz.prog.godebug = none := by kernel_rfl
theorem laidOut : laidOutB Tryz.prog = true := by kernel_rfl
def plainT (t : TypeId) : Bool := [3, 9, 22, 23, 24, 26, 27, 28, 30, 48, 72, 73, 75, 101, 102, 103, 105, 114, 125, 127, 128, 130, 132, 134].contains t
theorem slicesFine : closedOk Tryz.prog plainT = true := by kernel_rfl
theorem mixed : Tryz.prog.follows .mixedOrders = true := by kernel_rfl
set_option maxRecDepth 100000
theorem open_rec {H : Type} {enc : TypeId × Value → H} {W : World} {sp : Nat → Bool} {t : TypeId} {v : Value} {d : DataW H} {ps : List MemPlace} (ht : t < Tryz.prog.types.size) (hs : plainT t = true) (hv : ∃ cs, v = .agg cs) (h : DataW.Trod enc Tryz.prog W 0 sp true t v d ps) :
    ∃ n vs, Fits Tryz.prog (n + 9) t vs ∧ VR (There W) Gh.none W (.agg vs) v := by
  obtain ⟨fuel, h⟩ := h
  obtain ⟨x, rfl⟩ := hv
  obtain ⟨vs, h1, h2⟩ := open_data laidOut plainT slicesFine fuel t x.toList _ ht hs h
  exact ⟨fuel, vs, fits_more 9 h1, agg_of_reads h2⟩
theorem slice_of {W : World} {base : Nat} {v : Value} (h : Value.okWide Tryz.prog W .any base 23 v) : ∃ a n c, v = .slice a n c := by
  unfold Value.okWide at h
  rw [Tryz.underlying23] at h
  cases v with
  | slice a n c => exact ⟨a, n, c, rfl⟩
  | _ => exact h.elim
theorem open_ints {H : Type} {enc : TypeId × Value → H} {W : World} {sp : Nat → Bool} {v : Value} {d : DataW H} {ps : List MemPlace} (hv : ∃ a n c, v = .slice a n c) (h : DataW.Trod enc Tryz.prog W 0 sp true 23 v d ps) :
    ∃ l : List Int, Few l.length ∧ VR (There W) Gh.none W (.fz (l.map (.int .i64))) v := by
  obtain ⟨fuel, h⟩ := h
  obtain ⟨a, n, c, rfl⟩ := hv
  obtain ⟨vs, h1, h2⟩ := open_data laidOut plainT slicesFine fuel 23 [.slice a n c] _ (of_decide_eq_true (by kernel_rfl)) (by decide) h
  obtain ⟨l, rfl, hl⟩ := fits_ints (fits_more 2 h1)
  exact ⟨l, hl, by simpa using (h2.2 0 (by simp)).2⟩
end Go.Proofs.YthpmfghgoabnhaaGreat
