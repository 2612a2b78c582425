/-
  NARROWER THAN 'FOR EVERY INPUT', by the rows' own cells (each row's printed sentence says how): PastPlays: loops · PastWrote: loops · PastDid: loops · PastSteps: loops · PastFutures: loops.
  DERIVED. THE GIVEN ROWS OF THIS SEAT. 5 by the template 'for every input the law returns true; each argument reads behind the call as it read before'; 0 by the template 'total and deterministic' (their statements: YtmafmhjndjmalaaGreatTotals.lean).
  GIVEN WITH THE SEED: the statements are not yours to turn. If you find one false, say at which input.
  Laid BY PROGRAM, IN A SANDBOX (cutbox-rows.mjs): the forced cells as the released guide's own fill.sh prints them over the translation 14e9bd2c1de4e1aa… (all of the seat's roots in one cut). By AI agents, Wed Nov 11 2026. No macro, syntax, notation, axiom, sorry.
-/
import Derived.Test.YtmafmhjndjmalaaGreatChecked
import GoSem.Claim
import GoSem.ClaimJoined
import GoSem.ClaimMapViews
import Derived.JoinedTies
import Derived.KernelRfl
namespace Go.Proofs.YtmafmhjndjmalaaGreat
/- THE CELL 'sum', in the pinned program and in every row, IS THE sha256 OF THE DUMP (.gsa) THAT YtmafmhjndjmalaaGreatProg.lean LOADS. Nothing in Lean hashes anything: it is a label: what it is worth is what the hold of that sum in a sandbox is worth. -/
noncomputable def Tryz.pinned : Pinned := { name := "ytmafmhjndjmalaagreat", sum := "14e9bd2c1de4e1aa935d14a8d5139b5f9bda075bfe95bbc03ec17ebf2939f909", checked := Tryz.checked }
namespace Rows
def none {H : Type} : Left H := { results := [], args := [] }

/-- 'hearthlaw23.PastPlays': WHATEVER THE INPUT: true; the input reads as it did. -/
def pastPlaysSpec : ChangeSpec := { name := "pastPlays", fn := fun _ => fun
  | [d1, d2, d3, d4, d5] => { results := [.lit (.bool true)], args := [d1, d2, d3, d4, d5] }
  | _ => none }
def pastPlaysRow : OpenClaim := { program := "ytmafmhjndjmalaagreat", sum := "14e9bd2c1de4e1aa935d14a8d5139b5f9bda075bfe95bbc03ec17ebf2939f909", func := "hearth/hearthlaw23.PastPlays", spec := "pastPlays", unfollowed := true, recurses := true, loops := true, apart := false }
def PastPlaysSaid : Prop := pastPlaysRow.holds Tryz.pinned (OpenSpec.ofChange pastPlaysSpec)

/-- ITS FALSE NEIGHBOUR: 'it returns false'. Refute it at one input. -/
def pastPlaysWrong : ChangeSpec := { name := "pastPlays", fn := fun _ => fun
  | [d1, d2, d3, d4, d5] => { results := [.lit (.bool false)], args := [d1, d2, d3, d4, d5] }
  | _ => none }
def PastPlaysWrongFalsely : Prop := pastPlaysRow.holds Tryz.pinned (OpenSpec.ofChange pastPlaysWrong)

/-- 'hearthlaw23.PastWrote': WHATEVER THE INPUT: true; the input reads as it did. -/
def pastWroteSpec : ChangeSpec := { name := "pastWrote", fn := fun _ => fun
  | [d1, d2, d3, d4, d5, d6] => { results := [.lit (.bool true)], args := [d1, d2, d3, d4, d5, d6] }
  | _ => none }
def pastWroteRow : OpenClaim := { program := "ytmafmhjndjmalaagreat", sum := "14e9bd2c1de4e1aa935d14a8d5139b5f9bda075bfe95bbc03ec17ebf2939f909", func := "hearth/hearthlaw23.PastWrote", spec := "pastWrote", unfollowed := true, recurses := true, loops := true, apart := false }
def PastWroteSaid : Prop := pastWroteRow.holds Tryz.pinned (OpenSpec.ofChange pastWroteSpec)

/-- ITS FALSE NEIGHBOUR: 'it returns false'. Refute it at one input. -/
def pastWroteWrong : ChangeSpec := { name := "pastWrote", fn := fun _ => fun
  | [d1, d2, d3, d4, d5, d6] => { results := [.lit (.bool false)], args := [d1, d2, d3, d4, d5, d6] }
  | _ => none }
def PastWroteWrongFalsely : Prop := pastWroteRow.holds Tryz.pinned (OpenSpec.ofChange pastWroteWrong)

/-- 'hearthlaw23.PastDid': WHATEVER THE INPUT: true; the input reads as it did. -/
def pastDidSpec : ChangeSpec := { name := "pastDid", fn := fun _ => fun
  | [d1, d2, d3, d4, d5, d6] => { results := [.lit (.bool true)], args := [d1, d2, d3, d4, d5, d6] }
  | _ => none }
def pastDidRow : OpenClaim := { program := "ytmafmhjndjmalaagreat", sum := "14e9bd2c1de4e1aa935d14a8d5139b5f9bda075bfe95bbc03ec17ebf2939f909", func := "hearth/hearthlaw23.PastDid", spec := "pastDid", unfollowed := true, recurses := true, loops := true, apart := false }
def PastDidSaid : Prop := pastDidRow.holds Tryz.pinned (OpenSpec.ofChange pastDidSpec)

/-- ITS FALSE NEIGHBOUR: 'it returns false'. Refute it at one input. -/
def pastDidWrong : ChangeSpec := { name := "pastDid", fn := fun _ => fun
  | [d1, d2, d3, d4, d5, d6] => { results := [.lit (.bool false)], args := [d1, d2, d3, d4, d5, d6] }
  | _ => none }
def PastDidWrongFalsely : Prop := pastDidRow.holds Tryz.pinned (OpenSpec.ofChange pastDidWrong)

/-- 'hearthlaw23.PastSteps': WHATEVER THE INPUT: true; the input reads as it did. -/
def pastStepsSpec : ChangeSpec := { name := "pastSteps", fn := fun _ => fun
  | [d1, d2, d3, d4, d5] => { results := [.lit (.bool true)], args := [d1, d2, d3, d4, d5] }
  | _ => none }
def pastStepsRow : OpenClaim := { program := "ytmafmhjndjmalaagreat", sum := "14e9bd2c1de4e1aa935d14a8d5139b5f9bda075bfe95bbc03ec17ebf2939f909", func := "hearth/hearthlaw23.PastSteps", spec := "pastSteps", unfollowed := true, recurses := true, loops := true, apart := false }
def PastStepsSaid : Prop := pastStepsRow.holds Tryz.pinned (OpenSpec.ofChange pastStepsSpec)

/-- ITS FALSE NEIGHBOUR: 'it returns false'. Refute it at one input. -/
def pastStepsWrong : ChangeSpec := { name := "pastSteps", fn := fun _ => fun
  | [d1, d2, d3, d4, d5] => { results := [.lit (.bool false)], args := [d1, d2, d3, d4, d5] }
  | _ => none }
def PastStepsWrongFalsely : Prop := pastStepsRow.holds Tryz.pinned (OpenSpec.ofChange pastStepsWrong)

/-- 'hearthlaw23.PastFutures': WHATEVER THE INPUT: true; the input reads as it did. -/
def pastFuturesSpec : ChangeSpec := { name := "pastFutures", fn := fun _ => fun
  | [d1, d2, d3, d4, d5, d6] => { results := [.lit (.bool true)], args := [d1, d2, d3, d4, d5, d6] }
  | _ => none }
def pastFuturesRow : OpenClaim := { program := "ytmafmhjndjmalaagreat", sum := "14e9bd2c1de4e1aa935d14a8d5139b5f9bda075bfe95bbc03ec17ebf2939f909", func := "hearth/hearthlaw23.PastFutures", spec := "pastFutures", unfollowed := true, recurses := true, loops := true, apart := false }
def PastFuturesSaid : Prop := pastFuturesRow.holds Tryz.pinned (OpenSpec.ofChange pastFuturesSpec)

/-- ITS FALSE NEIGHBOUR: 'it returns false'. Refute it at one input. -/
def pastFuturesWrong : ChangeSpec := { name := "pastFutures", fn := fun _ => fun
  | [d1, d2, d3, d4, d5, d6] => { results := [.lit (.bool false)], args := [d1, d2, d3, d4, d5, d6] }
  | _ => none }
def PastFuturesWrongFalsely : Prop := pastFuturesRow.holds Tryz.pinned (OpenSpec.ofChange pastFuturesWrong)

/- THE SECOND FORM. 'bulk': how many values and letters a reading holds, each counted each time it is reached (what is shared counts as often as it is met; a slice's spare places count too). A statement '..UptoSaid' is the law's where the arguments, and the package variables that the reading takes, are together of bulk at most 1048576: NARROWER than '..Said'. Prove '..Said' where nothing that the law and all that it calls make is longer than what came in: it says more and counts as full. Else prove '..UptoSaid'. A law counts once. -/
mutual
def uptoBulk {H : Type} : DataW H → Nat
  | .lit (.string bytes) => bytes.length + 1
  | .lit _ => 1
  | .nil => 1
  | .ptr d => uptoBulk d + 1
  | .slice elems spare => uptoBulkAll elems + uptoBulkAll spare + 1
  | .agg parts => uptoBulkAll parts + 1
  | .iface _ d => uptoBulk d + 1
  | .map entries => uptoBulkEntries entries + 1
  | .held _ => 1
def uptoBulkAll {H : Type} : List (DataW H) → Nat
  | [] => 0
  | d :: r => uptoBulk d + uptoBulkAll r
def uptoBulkEntries {H : Type} : List (Lit × DataW H) → Nat
  | [] => 0
  | x :: r => uptoBulkEntry x + uptoBulkEntries r
def uptoBulkEntry {H : Type} : Lit × DataW H → Nat
  | (.string bytes, d) => bytes.length + uptoBulk d + 1
  | (_, d) => uptoBulk d + 1
 end
def uptoSmall : (H : Type) → List (DataW H) → Bool := fun _ ds => decide (uptoBulkAll ds ≤ 1048576)
def OpenSpec.upto (s : _root_.Go.ChangeSpec) : _root_.Go.OpenSpec := { _root_.Go.OpenSpec.ofChange s with cond := some uptoSmall }

/-- 'hearthlaw23.PastPlays', WHERE WHAT IT READS IS OF BULK AT MOST 1048576: true; the input reads as it did. -/
def pastPlaysUptoRow : OpenClaim := { program := "ytmafmhjndjmalaagreat", sum := "14e9bd2c1de4e1aa935d14a8d5139b5f9bda075bfe95bbc03ec17ebf2939f909", func := "hearth/hearthlaw23.PastPlays", spec := "pastPlays", unfollowed := true, recurses := true, loops := true, apart := false, narrowed := true }
def PastPlaysUptoSaid : Prop := pastPlaysUptoRow.holds Tryz.pinned (OpenSpec.upto pastPlaysSpec)

/-- 'hearthlaw23.PastWrote', WHERE WHAT IT READS IS OF BULK AT MOST 1048576: true; the input reads as it did. -/
def pastWroteUptoRow : OpenClaim := { program := "ytmafmhjndjmalaagreat", sum := "14e9bd2c1de4e1aa935d14a8d5139b5f9bda075bfe95bbc03ec17ebf2939f909", func := "hearth/hearthlaw23.PastWrote", spec := "pastWrote", unfollowed := true, recurses := true, loops := true, apart := false, narrowed := true }
def PastWroteUptoSaid : Prop := pastWroteUptoRow.holds Tryz.pinned (OpenSpec.upto pastWroteSpec)

/-- 'hearthlaw23.PastDid', WHERE WHAT IT READS IS OF BULK AT MOST 1048576: true; the input reads as it did. -/
def pastDidUptoRow : OpenClaim := { program := "ytmafmhjndjmalaagreat", sum := "14e9bd2c1de4e1aa935d14a8d5139b5f9bda075bfe95bbc03ec17ebf2939f909", func := "hearth/hearthlaw23.PastDid", spec := "pastDid", unfollowed := true, recurses := true, loops := true, apart := false, narrowed := true }
def PastDidUptoSaid : Prop := pastDidUptoRow.holds Tryz.pinned (OpenSpec.upto pastDidSpec)

/-- 'hearthlaw23.PastSteps', WHERE WHAT IT READS IS OF BULK AT MOST 1048576: true; the input reads as it did. -/
def pastStepsUptoRow : OpenClaim := { program := "ytmafmhjndjmalaagreat", sum := "14e9bd2c1de4e1aa935d14a8d5139b5f9bda075bfe95bbc03ec17ebf2939f909", func := "hearth/hearthlaw23.PastSteps", spec := "pastSteps", unfollowed := true, recurses := true, loops := true, apart := false, narrowed := true }
def PastStepsUptoSaid : Prop := pastStepsUptoRow.holds Tryz.pinned (OpenSpec.upto pastStepsSpec)

/-- 'hearthlaw23.PastFutures', WHERE WHAT IT READS IS OF BULK AT MOST 1048576: true; the input reads as it did. -/
def pastFuturesUptoRow : OpenClaim := { program := "ytmafmhjndjmalaagreat", sum := "14e9bd2c1de4e1aa935d14a8d5139b5f9bda075bfe95bbc03ec17ebf2939f909", func := "hearth/hearthlaw23.PastFutures", spec := "pastFutures", unfollowed := true, recurses := true, loops := true, apart := false, narrowed := true }
def PastFuturesUptoSaid : Prop := pastFuturesUptoRow.holds Tryz.pinned (OpenSpec.upto pastFuturesSpec)

end Rows
end Go.Proofs.YtmafmhjndjmalaaGreat
