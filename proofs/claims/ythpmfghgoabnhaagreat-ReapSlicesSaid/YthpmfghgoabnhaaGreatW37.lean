/- Which objects are reached: the document's answer. -/
import Derived.Test.YthpmfghgoabnhaaGreatW36
set_option linter.all false
namespace Go.Proofs.YthpmfghgoabnhaaGreat
open Go.Abs Go.Proofs
inductive ReachP (w : MWorld) : Nat → Prop
  | task {i : Nat} (h : i < w.objs.length) (t : isTask (w.obj i) = true) : ReachP w i
  | ref {i : Nat} {x : Int} (h : ReachP w i) (hx : x ∈ refsOf (w.obj i)) : ReachP w x.toNat
def atB (out : List Bool) (i : Nat) : Bool := out.getD i false
structure Going (w : MWorld) (out : List Bool) : Prop where
  len : out.length = w.objs.length
  sound : ∀ i, atB out i = true → ReachP w i
  tasks : ∀ i, i < w.objs.length → isTask (w.obj i) = true → atB out i = true
def InRange (w : MWorld) : Prop := ∀ o ∈ w.objs, ∀ x ∈ refsOf o, inR x 0 ((w.objs.length : Int) - 1) = true
end Go.Proofs.YthpmfghgoabnhaaGreat
