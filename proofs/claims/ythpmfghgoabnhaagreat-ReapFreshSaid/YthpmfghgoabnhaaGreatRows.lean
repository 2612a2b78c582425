/-
  NARROWER THAN 'FOR EVERY INPUT', by the rows' own cells (each row's printed sentence says how): ReapReaches: loops · ReapStates: loops · ReapTurns: loops · ReapSlices: loops · ReapEnds: loops · ReapRests: loops · ReapGoes: loops · ReapChanges: loops · ReapFresh: loops · ReapRuns: loops · ReapKeeps: loops.
  DERIVED. THE GIVEN ROWS OF THIS SEAT. 13 by the template 'for every input the law returns true; each argument reads behind the call as it read before'; 0 by the template 'total and deterministic' (their statements: YthpmfghgoabnhaaGreatTotals.lean).
  GIVEN WITH THE SEED: the statements are not yours to turn. If you find one false, say at which input.
  Laid BY PROGRAM, IN A SANDBOX (cutbox-rows.mjs): the forced cells as the released guide's own fill.sh prints them over the translation 143a46f5961b0b05… (all of the seat's roots in one cut). By AI agents, Wed Nov 11 2026. No macro, syntax, notation, axiom, sorry.
-/
import Derived.Test.YthpmfghgoabnhaaGreatChecked
import GoSem.Claim
import GoSem.ClaimJoined
import GoSem.ClaimMapViews
import Derived.JoinedTies
import Derived.KernelRfl
namespace Go.Proofs.YthpmfghgoabnhaaGreat
/- THE CELL 'sum', in the pinned program and in every row, IS THE sha256 OF THE DUMP (.gsa) THAT YthpmfghgoabnhaaGreatProg.lean LOADS. Nothing in Lean hashes anything: it is a label: what it is worth is what the hold of that sum in a sandbox is worth. -/
noncomputable def Tryz.pinned : Pinned := { name := "ythpmfghgoabnhaagreat", sum := "143a46f5961b0b05a684b786ef4d653c7f9def1748f071ac1e59f2860d98d271", checked := Tryz.checked }
namespace Rows
def none {H : Type} : Left H := { results := [], args := [] }

/-- 'hearthlaw18.ReapReaches': WHATEVER THE INPUT: true; the input reads as it did. -/
def reapReachesSpec : ChangeSpec := { name := "reapReaches", fn := fun _ => fun
  | [d1, d2, d3] => { results := [.lit (.bool true)], args := [d1, d2, d3] }
  | _ => none }
def reapReachesRow : OpenClaim := { program := "ythpmfghgoabnhaagreat", sum := "143a46f5961b0b05a684b786ef4d653c7f9def1748f071ac1e59f2860d98d271", func := "hearth/hearthlaw18.ReapReaches", spec := "reapReaches", unfollowed := true, recurses := true, loops := true, apart := false }
def ReapReachesSaid : Prop := reapReachesRow.holds Tryz.pinned (OpenSpec.ofChange reapReachesSpec)

/-- ITS FALSE NEIGHBOUR: 'it returns false'. Refute it at one input. -/
def reapReachesWrong : ChangeSpec := { name := "reapReaches", fn := fun _ => fun
  | [d1, d2, d3] => { results := [.lit (.bool false)], args := [d1, d2, d3] }
  | _ => none }
def ReapReachesWrongFalsely : Prop := reapReachesRow.holds Tryz.pinned (OpenSpec.ofChange reapReachesWrong)

/-- 'hearthlaw18.ReapStates': WHATEVER THE INPUT: true; the input reads as it did. -/
def reapStatesSpec : ChangeSpec := { name := "reapStates", fn := fun _ => fun
  | [d1, d2, d3] => { results := [.lit (.bool true)], args := [d1, d2, d3] }
  | _ => none }
def reapStatesRow : OpenClaim := { program := "ythpmfghgoabnhaagreat", sum := "143a46f5961b0b05a684b786ef4d653c7f9def1748f071ac1e59f2860d98d271", func := "hearth/hearthlaw18.ReapStates", spec := "reapStates", unfollowed := true, recurses := true, loops := true, apart := false }
def ReapStatesSaid : Prop := reapStatesRow.holds Tryz.pinned (OpenSpec.ofChange reapStatesSpec)

/-- ITS FALSE NEIGHBOUR: 'it returns false'. Refute it at one input. -/
def reapStatesWrong : ChangeSpec := { name := "reapStates", fn := fun _ => fun
  | [d1, d2, d3] => { results := [.lit (.bool false)], args := [d1, d2, d3] }
  | _ => none }
def ReapStatesWrongFalsely : Prop := reapStatesRow.holds Tryz.pinned (OpenSpec.ofChange reapStatesWrong)

/-- 'hearthlaw18.ReapTurns': WHATEVER THE INPUT: true; the input reads as it did. -/
def reapTurnsSpec : ChangeSpec := { name := "reapTurns", fn := fun _ => fun
  | [d1, d2, d3] => { results := [.lit (.bool true)], args := [d1, d2, d3] }
  | _ => none }
def reapTurnsRow : OpenClaim := { program := "ythpmfghgoabnhaagreat", sum := "143a46f5961b0b05a684b786ef4d653c7f9def1748f071ac1e59f2860d98d271", func := "hearth/hearthlaw18.ReapTurns", spec := "reapTurns", unfollowed := true, recurses := true, loops := true, apart := false }
def ReapTurnsSaid : Prop := reapTurnsRow.holds Tryz.pinned (OpenSpec.ofChange reapTurnsSpec)

/-- ITS FALSE NEIGHBOUR: 'it returns false'. Refute it at one input. -/
def reapTurnsWrong : ChangeSpec := { name := "reapTurns", fn := fun _ => fun
  | [d1, d2, d3] => { results := [.lit (.bool false)], args := [d1, d2, d3] }
  | _ => none }
def ReapTurnsWrongFalsely : Prop := reapTurnsRow.holds Tryz.pinned (OpenSpec.ofChange reapTurnsWrong)

/-- 'hearthlaw18.ReapSlices': WHATEVER THE INPUT: true; the input reads as it did. -/
def reapSlicesSpec : ChangeSpec := { name := "reapSlices", fn := fun _ => fun
  | [d1, d2, d3] => { results := [.lit (.bool true)], args := [d1, d2, d3] }
  | _ => none }
def reapSlicesRow : OpenClaim := { program := "ythpmfghgoabnhaagreat", sum := "143a46f5961b0b05a684b786ef4d653c7f9def1748f071ac1e59f2860d98d271", func := "hearth/hearthlaw18.ReapSlices", spec := "reapSlices", unfollowed := true, recurses := true, loops := true, apart := false }
def ReapSlicesSaid : Prop := reapSlicesRow.holds Tryz.pinned (OpenSpec.ofChange reapSlicesSpec)

/-- ITS FALSE NEIGHBOUR: 'it returns false'. Refute it at one input. -/
def reapSlicesWrong : ChangeSpec := { name := "reapSlices", fn := fun _ => fun
  | [d1, d2, d3] => { results := [.lit (.bool false)], args := [d1, d2, d3] }
  | _ => none }
def ReapSlicesWrongFalsely : Prop := reapSlicesRow.holds Tryz.pinned (OpenSpec.ofChange reapSlicesWrong)

/-- 'hearthlaw18.ReapWithins': WHATEVER THE INPUT: true; the input reads as it did. -/
def reapWithinsSpec : ChangeSpec := { name := "reapWithins", fn := fun _ => fun
  | [d1, d2, d3] => { results := [.lit (.bool true)], args := [d1, d2, d3] }
  | _ => none }
def reapWithinsRow : OpenClaim := { program := "ythpmfghgoabnhaagreat", sum := "143a46f5961b0b05a684b786ef4d653c7f9def1748f071ac1e59f2860d98d271", func := "hearth/hearthlaw18.ReapWithins", spec := "reapWithins", unfollowed := true, recurses := true, apart := false }
def ReapWithinsSaid : Prop := reapWithinsRow.holds Tryz.pinned (OpenSpec.ofChange reapWithinsSpec)

/-- ITS FALSE NEIGHBOUR: 'it returns false'. Refute it at one input. -/
def reapWithinsWrong : ChangeSpec := { name := "reapWithins", fn := fun _ => fun
  | [d1, d2, d3] => { results := [.lit (.bool false)], args := [d1, d2, d3] }
  | _ => none }
def ReapWithinsWrongFalsely : Prop := reapWithinsRow.holds Tryz.pinned (OpenSpec.ofChange reapWithinsWrong)

/-- 'hearthlaw18.ReapEnds': WHATEVER THE INPUT: true; the input reads as it did. -/
def reapEndsSpec : ChangeSpec := { name := "reapEnds", fn := fun _ => fun
  | [d1, d2, d3, d4] => { results := [.lit (.bool true)], args := [d1, d2, d3, d4] }
  | _ => none }
def reapEndsRow : OpenClaim := { program := "ythpmfghgoabnhaagreat", sum := "143a46f5961b0b05a684b786ef4d653c7f9def1748f071ac1e59f2860d98d271", func := "hearth/hearthlaw18.ReapEnds", spec := "reapEnds", unfollowed := true, recurses := true, loops := true, apart := false }
def ReapEndsSaid : Prop := reapEndsRow.holds Tryz.pinned (OpenSpec.ofChange reapEndsSpec)

/-- ITS FALSE NEIGHBOUR: 'it returns false'. Refute it at one input. -/
def reapEndsWrong : ChangeSpec := { name := "reapEnds", fn := fun _ => fun
  | [d1, d2, d3, d4] => { results := [.lit (.bool false)], args := [d1, d2, d3, d4] }
  | _ => none }
def ReapEndsWrongFalsely : Prop := reapEndsRow.holds Tryz.pinned (OpenSpec.ofChange reapEndsWrong)

/-- 'hearthlaw18.ReapRests': WHATEVER THE INPUT: true; the input reads as it did. -/
def reapRestsSpec : ChangeSpec := { name := "reapRests", fn := fun _ => fun
  | [d1, d2, d3] => { results := [.lit (.bool true)], args := [d1, d2, d3] }
  | _ => none }
def reapRestsRow : OpenClaim := { program := "ythpmfghgoabnhaagreat", sum := "143a46f5961b0b05a684b786ef4d653c7f9def1748f071ac1e59f2860d98d271", func := "hearth/hearthlaw18.ReapRests", spec := "reapRests", unfollowed := true, recurses := true, loops := true, apart := false }
def ReapRestsSaid : Prop := reapRestsRow.holds Tryz.pinned (OpenSpec.ofChange reapRestsSpec)

/-- ITS FALSE NEIGHBOUR: 'it returns false'. Refute it at one input. -/
def reapRestsWrong : ChangeSpec := { name := "reapRests", fn := fun _ => fun
  | [d1, d2, d3] => { results := [.lit (.bool false)], args := [d1, d2, d3] }
  | _ => none }
def ReapRestsWrongFalsely : Prop := reapRestsRow.holds Tryz.pinned (OpenSpec.ofChange reapRestsWrong)

/-- 'hearthlaw18.ReapKnown': WHATEVER THE INPUT: true; the input reads as it did. -/
def reapKnownSpec : ChangeSpec := { name := "reapKnown", fn := fun _ => fun
  | [] => { results := [.lit (.bool true)], args := [] }
  | _ => none }
def reapKnownRow : OpenClaim := { program := "ythpmfghgoabnhaagreat", sum := "143a46f5961b0b05a684b786ef4d653c7f9def1748f071ac1e59f2860d98d271", func := "hearth/hearthlaw18.ReapKnown", spec := "reapKnown", unfollowed := true, recurses := true, apart := false }
def ReapKnownSaid : Prop := reapKnownRow.holds Tryz.pinned (OpenSpec.ofChange reapKnownSpec)

/-- ITS FALSE NEIGHBOUR: 'it returns false'. Refute it at one input. -/
def reapKnownWrong : ChangeSpec := { name := "reapKnown", fn := fun _ => fun
  | [] => { results := [.lit (.bool false)], args := [] }
  | _ => none }
def ReapKnownWrongFalsely : Prop := reapKnownRow.holds Tryz.pinned (OpenSpec.ofChange reapKnownWrong)

/-- 'hearthlaw18.ReapGoes': WHATEVER THE INPUT: true; the input reads as it did. -/
def reapGoesSpec : ChangeSpec := { name := "reapGoes", fn := fun _ => fun
  | [d1, d2, d3] => { results := [.lit (.bool true)], args := [d1, d2, d3] }
  | _ => none }
def reapGoesRow : OpenClaim := { program := "ythpmfghgoabnhaagreat", sum := "143a46f5961b0b05a684b786ef4d653c7f9def1748f071ac1e59f2860d98d271", func := "hearth/hearthlaw18.ReapGoes", spec := "reapGoes", unfollowed := true, recurses := true, loops := true, apart := false }
def ReapGoesSaid : Prop := reapGoesRow.holds Tryz.pinned (OpenSpec.ofChange reapGoesSpec)

/-- ITS FALSE NEIGHBOUR: 'it returns false'. Refute it at one input. -/
def reapGoesWrong : ChangeSpec := { name := "reapGoes", fn := fun _ => fun
  | [d1, d2, d3] => { results := [.lit (.bool false)], args := [d1, d2, d3] }
  | _ => none }
def ReapGoesWrongFalsely : Prop := reapGoesRow.holds Tryz.pinned (OpenSpec.ofChange reapGoesWrong)

/-- 'hearthlaw18.ReapChanges': WHATEVER THE INPUT: true; the input reads as it did. -/
def reapChangesSpec : ChangeSpec := { name := "reapChanges", fn := fun _ => fun
  | [d1, d2, d3, d4] => { results := [.lit (.bool true)], args := [d1, d2, d3, d4] }
  | _ => none }
def reapChangesRow : OpenClaim := { program := "ythpmfghgoabnhaagreat", sum := "143a46f5961b0b05a684b786ef4d653c7f9def1748f071ac1e59f2860d98d271", func := "hearth/hearthlaw18.ReapChanges", spec := "reapChanges", unfollowed := true, recurses := true, loops := true, apart := false }
def ReapChangesSaid : Prop := reapChangesRow.holds Tryz.pinned (OpenSpec.ofChange reapChangesSpec)

/-- ITS FALSE NEIGHBOUR: 'it returns false'. Refute it at one input. -/
def reapChangesWrong : ChangeSpec := { name := "reapChanges", fn := fun _ => fun
  | [d1, d2, d3, d4] => { results := [.lit (.bool false)], args := [d1, d2, d3, d4] }
  | _ => none }
def ReapChangesWrongFalsely : Prop := reapChangesRow.holds Tryz.pinned (OpenSpec.ofChange reapChangesWrong)

/-- 'hearthlaw18.ReapFresh': WHATEVER THE INPUT: true; the input reads as it did. -/
def reapFreshSpec : ChangeSpec := { name := "reapFresh", fn := fun _ => fun
  | [d1, d2, d3, d4, d5] => { results := [.lit (.bool true)], args := [d1, d2, d3, d4, d5] }
  | _ => none }
def reapFreshRow : OpenClaim := { program := "ythpmfghgoabnhaagreat", sum := "143a46f5961b0b05a684b786ef4d653c7f9def1748f071ac1e59f2860d98d271", func := "hearth/hearthlaw18.ReapFresh", spec := "reapFresh", unfollowed := true, recurses := true, loops := true, apart := false }
def ReapFreshSaid : Prop := reapFreshRow.holds Tryz.pinned (OpenSpec.ofChange reapFreshSpec)

/-- ITS FALSE NEIGHBOUR: 'it returns false'. Refute it at one input. -/
def reapFreshWrong : ChangeSpec := { name := "reapFresh", fn := fun _ => fun
  | [d1, d2, d3, d4, d5] => { results := [.lit (.bool false)], args := [d1, d2, d3, d4, d5] }
  | _ => none }
def ReapFreshWrongFalsely : Prop := reapFreshRow.holds Tryz.pinned (OpenSpec.ofChange reapFreshWrong)

/-- 'hearthlaw18.ReapRuns': WHATEVER THE INPUT: true; the input reads as it did. -/
def reapRunsSpec : ChangeSpec := { name := "reapRuns", fn := fun _ => fun
  | [d1, d2, d3, d4] => { results := [.lit (.bool true)], args := [d1, d2, d3, d4] }
  | _ => none }
def reapRunsRow : OpenClaim := { program := "ythpmfghgoabnhaagreat", sum := "143a46f5961b0b05a684b786ef4d653c7f9def1748f071ac1e59f2860d98d271", func := "hearth/hearthlaw18.ReapRuns", spec := "reapRuns", unfollowed := true, recurses := true, loops := true, apart := false }
def ReapRunsSaid : Prop := reapRunsRow.holds Tryz.pinned (OpenSpec.ofChange reapRunsSpec)

/-- ITS FALSE NEIGHBOUR: 'it returns false'. Refute it at one input. -/
def reapRunsWrong : ChangeSpec := { name := "reapRuns", fn := fun _ => fun
  | [d1, d2, d3, d4] => { results := [.lit (.bool false)], args := [d1, d2, d3, d4] }
  | _ => none }
def ReapRunsWrongFalsely : Prop := reapRunsRow.holds Tryz.pinned (OpenSpec.ofChange reapRunsWrong)

/-- 'hearthlaw18.ReapKeeps': WHATEVER THE INPUT: true; the input reads as it did. -/
def reapKeepsSpec : ChangeSpec := { name := "reapKeeps", fn := fun _ => fun
  | [d1, d2, d3, d4] => { results := [.lit (.bool true)], args := [d1, d2, d3, d4] }
  | _ => none }
def reapKeepsRow : OpenClaim := { program := "ythpmfghgoabnhaagreat", sum := "143a46f5961b0b05a684b786ef4d653c7f9def1748f071ac1e59f2860d98d271", func := "hearth/hearthlaw18.ReapKeeps", spec := "reapKeeps", unfollowed := true, recurses := true, loops := true, apart := false }
def ReapKeepsSaid : Prop := reapKeepsRow.holds Tryz.pinned (OpenSpec.ofChange reapKeepsSpec)

/-- ITS FALSE NEIGHBOUR: 'it returns false'. Refute it at one input. -/
def reapKeepsWrong : ChangeSpec := { name := "reapKeeps", fn := fun _ => fun
  | [d1, d2, d3, d4] => { results := [.lit (.bool false)], args := [d1, d2, d3, d4] }
  | _ => none }
def ReapKeepsWrongFalsely : Prop := reapKeepsRow.holds Tryz.pinned (OpenSpec.ofChange reapKeepsWrong)

/- THE SECOND FORM. 'bulk': how many values and letters a reading holds, each counted each time it is reached (what is shared counts as often as it is met; a slice's spare places count too). A statement '..UptoSaid' is the law's where the arguments, and the package variables that the reading takes, are together of bulk at most 1048576: NARROWER than '..Said'. Prove '..Said' where nothing that the law and all that it calls make is longer than what came in: it says more and counts as full. Else prove '..UptoSaid'. A law counts once. -/
mutual
def uptoBulk {H : Type} : DataW H → Nat
  | .lit (.string bytes) => bytes.length + 1
  | .lit _ => 1
  | .nil => 1
  | .ptr d => uptoBulk d + 1
  | .slice elems spare => uptoBulkAll elems + uptoBulkAll spare + 1
  | .agg parts => uptoBulkAll parts + 1
  | .iface _ d => uptoBulk d + 1
  | .map entries => uptoBulkEntries entries + 1
  | .held _ => 1
def uptoBulkAll {H : Type} : List (DataW H) → Nat
  | [] => 0
  | d :: r => uptoBulk d + uptoBulkAll r
def uptoBulkEntries {H : Type} : List (Lit × DataW H) → Nat
  | [] => 0
  | x :: r => uptoBulkEntry x + uptoBulkEntries r
def uptoBulkEntry {H : Type} : Lit × DataW H → Nat
  | (.string bytes, d) => bytes.length + uptoBulk d + 1
  | (_, d) => uptoBulk d + 1
 end
def uptoSmall : (H : Type) → List (DataW H) → Bool := fun _ ds => decide (uptoBulkAll ds ≤ 1048576)
def OpenSpec.upto (s : _root_.Go.ChangeSpec) : _root_.Go.OpenSpec := { _root_.Go.OpenSpec.ofChange s with cond := some uptoSmall }

/-- 'hearthlaw18.ReapReaches', WHERE WHAT IT READS IS OF BULK AT MOST 1048576: true; the input reads as it did. -/
def reapReachesUptoRow : OpenClaim := { program := "ythpmfghgoabnhaagreat", sum := "143a46f5961b0b05a684b786ef4d653c7f9def1748f071ac1e59f2860d98d271", func := "hearth/hearthlaw18.ReapReaches", spec := "reapReaches", unfollowed := true, recurses := true, loops := true, apart := false, narrowed := true }
def ReapReachesUptoSaid : Prop := reapReachesUptoRow.holds Tryz.pinned (OpenSpec.upto reapReachesSpec)

/-- 'hearthlaw18.ReapStates', WHERE WHAT IT READS IS OF BULK AT MOST 1048576: true; the input reads as it did. -/
def reapStatesUptoRow : OpenClaim := { program := "ythpmfghgoabnhaagreat", sum := "143a46f5961b0b05a684b786ef4d653c7f9def1748f071ac1e59f2860d98d271", func := "hearth/hearthlaw18.ReapStates", spec := "reapStates", unfollowed := true, recurses := true, loops := true, apart := false, narrowed := true }
def ReapStatesUptoSaid : Prop := reapStatesUptoRow.holds Tryz.pinned (OpenSpec.upto reapStatesSpec)

/-- 'hearthlaw18.ReapTurns', WHERE WHAT IT READS IS OF BULK AT MOST 1048576: true; the input reads as it did. -/
def reapTurnsUptoRow : OpenClaim := { program := "ythpmfghgoabnhaagreat", sum := "143a46f5961b0b05a684b786ef4d653c7f9def1748f071ac1e59f2860d98d271", func := "hearth/hearthlaw18.ReapTurns", spec := "reapTurns", unfollowed := true, recurses := true, loops := true, apart := false, narrowed := true }
def ReapTurnsUptoSaid : Prop := reapTurnsUptoRow.holds Tryz.pinned (OpenSpec.upto reapTurnsSpec)

/-- 'hearthlaw18.ReapSlices', WHERE WHAT IT READS IS OF BULK AT MOST 1048576: true; the input reads as it did. -/
def reapSlicesUptoRow : OpenClaim := { program := "ythpmfghgoabnhaagreat", sum := "143a46f5961b0b05a684b786ef4d653c7f9def1748f071ac1e59f2860d98d271", func := "hearth/hearthlaw18.ReapSlices", spec := "reapSlices", unfollowed := true, recurses := true, loops := true, apart := false, narrowed := true }
def ReapSlicesUptoSaid : Prop := reapSlicesUptoRow.holds Tryz.pinned (OpenSpec.upto reapSlicesSpec)

/-- 'hearthlaw18.ReapWithins', WHERE WHAT IT READS IS OF BULK AT MOST 1048576: true; the input reads as it did. -/
def reapWithinsUptoRow : OpenClaim := { program := "ythpmfghgoabnhaagreat", sum := "143a46f5961b0b05a684b786ef4d653c7f9def1748f071ac1e59f2860d98d271", func := "hearth/hearthlaw18.ReapWithins", spec := "reapWithins", unfollowed := true, recurses := true, apart := false, narrowed := true }
def ReapWithinsUptoSaid : Prop := reapWithinsUptoRow.holds Tryz.pinned (OpenSpec.upto reapWithinsSpec)

/-- 'hearthlaw18.ReapEnds', WHERE WHAT IT READS IS OF BULK AT MOST 1048576: true; the input reads as it did. -/
def reapEndsUptoRow : OpenClaim := { program := "ythpmfghgoabnhaagreat", sum := "143a46f5961b0b05a684b786ef4d653c7f9def1748f071ac1e59f2860d98d271", func := "hearth/hearthlaw18.ReapEnds", spec := "reapEnds", unfollowed := true, recurses := true, loops := true, apart := false, narrowed := true }
def ReapEndsUptoSaid : Prop := reapEndsUptoRow.holds Tryz.pinned (OpenSpec.upto reapEndsSpec)

/-- 'hearthlaw18.ReapRests', WHERE WHAT IT READS IS OF BULK AT MOST 1048576: true; the input reads as it did. -/
def reapRestsUptoRow : OpenClaim := { program := "ythpmfghgoabnhaagreat", sum := "143a46f5961b0b05a684b786ef4d653c7f9def1748f071ac1e59f2860d98d271", func := "hearth/hearthlaw18.ReapRests", spec := "reapRests", unfollowed := true, recurses := true, loops := true, apart := false, narrowed := true }
def ReapRestsUptoSaid : Prop := reapRestsUptoRow.holds Tryz.pinned (OpenSpec.upto reapRestsSpec)

/-- 'hearthlaw18.ReapKnown', WHERE WHAT IT READS IS OF BULK AT MOST 1048576: true; the input reads as it did. -/
def reapKnownUptoRow : OpenClaim := { program := "ythpmfghgoabnhaagreat", sum := "143a46f5961b0b05a684b786ef4d653c7f9def1748f071ac1e59f2860d98d271", func := "hearth/hearthlaw18.ReapKnown", spec := "reapKnown", unfollowed := true, recurses := true, apart := false, narrowed := true }
def ReapKnownUptoSaid : Prop := reapKnownUptoRow.holds Tryz.pinned (OpenSpec.upto reapKnownSpec)

/-- 'hearthlaw18.ReapGoes', WHERE WHAT IT READS IS OF BULK AT MOST 1048576: true; the input reads as it did. -/
def reapGoesUptoRow : OpenClaim := { program := "ythpmfghgoabnhaagreat", sum := "143a46f5961b0b05a684b786ef4d653c7f9def1748f071ac1e59f2860d98d271", func := "hearth/hearthlaw18.ReapGoes", spec := "reapGoes", unfollowed := true, recurses := true, loops := true, apart := false, narrowed := true }
def ReapGoesUptoSaid : Prop := reapGoesUptoRow.holds Tryz.pinned (OpenSpec.upto reapGoesSpec)

/-- 'hearthlaw18.ReapChanges', WHERE WHAT IT READS IS OF BULK AT MOST 1048576: true; the input reads as it did. -/
def reapChangesUptoRow : OpenClaim := { program := "ythpmfghgoabnhaagreat", sum := "143a46f5961b0b05a684b786ef4d653c7f9def1748f071ac1e59f2860d98d271", func := "hearth/hearthlaw18.ReapChanges", spec := "reapChanges", unfollowed := true, recurses := true, loops := true, apart := false, narrowed := true }
def ReapChangesUptoSaid : Prop := reapChangesUptoRow.holds Tryz.pinned (OpenSpec.upto reapChangesSpec)

/-- 'hearthlaw18.ReapFresh', WHERE WHAT IT READS IS OF BULK AT MOST 1048576: true; the input reads as it did. -/
def reapFreshUptoRow : OpenClaim := { program := "ythpmfghgoabnhaagreat", sum := "143a46f5961b0b05a684b786ef4d653c7f9def1748f071ac1e59f2860d98d271", func := "hearth/hearthlaw18.ReapFresh", spec := "reapFresh", unfollowed := true, recurses := true, loops := true, apart := false, narrowed := true }
def ReapFreshUptoSaid : Prop := reapFreshUptoRow.holds Tryz.pinned (OpenSpec.upto reapFreshSpec)

/-- 'hearthlaw18.ReapRuns', WHERE WHAT IT READS IS OF BULK AT MOST 1048576: true; the input reads as it did. -/
def reapRunsUptoRow : OpenClaim := { program := "ythpmfghgoabnhaagreat", sum := "143a46f5961b0b05a684b786ef4d653c7f9def1748f071ac1e59f2860d98d271", func := "hearth/hearthlaw18.ReapRuns", spec := "reapRuns", unfollowed := true, recurses := true, loops := true, apart := false, narrowed := true }
def ReapRunsUptoSaid : Prop := reapRunsUptoRow.holds Tryz.pinned (OpenSpec.upto reapRunsSpec)

/-- 'hearthlaw18.ReapKeeps', WHERE WHAT IT READS IS OF BULK AT MOST 1048576: true; the input reads as it did. -/
def reapKeepsUptoRow : OpenClaim := { program := "ythpmfghgoabnhaagreat", sum := "143a46f5961b0b05a684b786ef4d653c7f9def1748f071ac1e59f2860d98d271", func := "hearth/hearthlaw18.ReapKeeps", spec := "reapKeeps", unfollowed := true, recurses := true, loops := true, apart := false, narrowed := true }
def ReapKeepsUptoSaid : Prop := reapKeepsUptoRow.holds Tryz.pinned (OpenSpec.upto reapKeepsSpec)

end Rows
end Go.Proofs.YthpmfghgoabnhaaGreat
