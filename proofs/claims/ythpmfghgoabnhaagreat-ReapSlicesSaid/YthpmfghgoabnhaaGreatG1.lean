/- What the laws are handed: for all of them. -/
import Derived.Test.YthpmfghgoabnhaaGreatW23
set_option linter.all false
namespace Go.Proofs.YthpmfghgoabnhaaGreat
open Go.Abs Go.Proofs
open Go.ChangeShapes Go.WideShapes Go.ChangeAt Go.RowKit
theorem own : ownKnob Tryz.prog.godebug = none := by kernel_rfl
theorem laidOut : laidOutB Tryz.prog = true := by kernel_rfl
def plainT (t : TypeId) : Bool := [3, 9, 22, 23, 24, 26, 27, 28, 30, 48, 72, 73, 75, 101, 102, 103, 105, 114, 125, 127, 128, 130, 132, 134].contains t
theorem slicesFine : closedOk Tryz.prog plainT = true := by kernel_rfl
theorem mixed : Tryz.prog.follows .mixedOrders = true := by kernel_rfl
set_option maxRecDepth 100000
theorem open_rec {H : Type} {enc : TypeId × Value → H} {W : World} {sp : Nat → Bool} {t : TypeId} {v : Value} {d : DataW H} {ps : List MemPlace} (ht : t < Tryz.prog.types.size) (hs : plainT t = true) (hv : ∃ cs, v = .agg cs) (h : DataW.Trod enc Tryz.prog W 0 sp true t v d ps) :
    ∃ n vs, Fits Tryz.prog (n + 9) t vs ∧ VR (There W) Gh.none W (.agg vs) v := by
  obtain ⟨fuel, h⟩ := h
  obtain ⟨x, rfl⟩ := hv
  obtain ⟨vs, h1, h2⟩ := open_data laidOut plainT slicesFine fuel t x.toList _ ht hs h
  exact ⟨fuel, vs, fits_more 9 h1, agg_of_reads h2⟩
end Go.Proofs.YthpmfghgoabnhaaGreat
