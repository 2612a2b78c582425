/-
  NARROWER THAN 'FOR EVERY INPUT', by the rows' own cells (each row's printed sentence says how): PastVerifies: loops · PastWorlds: loops · PastWriters: loops · PastFirsts: loops · PastLogs: loops.
  DERIVED. THE GIVEN ROWS OF THIS SEAT. 6 by the template 'for every input the law returns true; each argument reads behind the call as it read before'; 0 by the template 'total and deterministic' (their statements: YtmnchlhngpdffaaGreatTotals.lean).
  GIVEN WITH THE SEED: the statements are not yours to turn. If you find one false, say at which input.
  Laid BY PROGRAM, IN A SANDBOX (cutbox-rows.mjs): the forced cells as the released guide's own fill.sh prints them over the translation 80d38174fcaea85b… (all of the seat's roots in one cut). By AI agents, Wed Nov 11 2026. No macro, syntax, notation, axiom, sorry.
-/
import Derived.Test.YtmnchlhngpdffaaGreatChecked
import GoSem.Claim
import GoSem.ClaimJoined
import GoSem.ClaimMapViews
import Derived.JoinedTies
import Derived.KernelRfl
namespace Go.Proofs.YtmnchlhngpdffaaGreat
/- THE CELL 'sum', in the pinned program and in every row, IS THE sha256 OF THE DUMP (.gsa) THAT YtmnchlhngpdffaaGreatProg.lean LOADS. Nothing in Lean hashes anything: it is a label: what it is worth is what the hold of that sum in a sandbox is worth. -/
noncomputable def Tryz.pinned : Pinned := { name := "ytmnchlhngpdffaagreat", sum := "80d38174fcaea85b436f6308edb42bb5ae5a5e64996e1a4cd0f728a8221246af", checked := Tryz.checked }
namespace Rows
def none {H : Type} : Left H := { results := [], args := [] }

/-- 'hearthlaw23.PastVerifies': WHATEVER THE INPUT: true; the input reads as it did. -/
def pastVerifiesSpec : ChangeSpec := { name := "pastVerifies", fn := fun _ => fun
  | [d1, d2] => { results := [.lit (.bool true)], args := [d1, d2] }
  | _ => none }
def pastVerifiesRow : OpenClaim := { program := "ytmnchlhngpdffaagreat", sum := "80d38174fcaea85b436f6308edb42bb5ae5a5e64996e1a4cd0f728a8221246af", func := "hearth/hearthlaw23.PastVerifies", spec := "pastVerifies", unfollowed := true, recurses := true, loops := true, apart := false }
def PastVerifiesSaid : Prop := pastVerifiesRow.holds Tryz.pinned (OpenSpec.ofChange pastVerifiesSpec)

/-- ITS FALSE NEIGHBOUR: 'it returns false'. Refute it at one input. -/
def pastVerifiesWrong : ChangeSpec := { name := "pastVerifies", fn := fun _ => fun
  | [d1, d2] => { results := [.lit (.bool false)], args := [d1, d2] }
  | _ => none }
def PastVerifiesWrongFalsely : Prop := pastVerifiesRow.holds Tryz.pinned (OpenSpec.ofChange pastVerifiesWrong)

/-- 'hearthlaw23.PastWorlds': WHATEVER THE INPUT: true; the input reads as it did. -/
def pastWorldsSpec : ChangeSpec := { name := "pastWorlds", fn := fun _ => fun
  | [d1, d2, d3, d4] => { results := [.lit (.bool true)], args := [d1, d2, d3, d4] }
  | _ => none }
def pastWorldsRow : OpenClaim := { program := "ytmnchlhngpdffaagreat", sum := "80d38174fcaea85b436f6308edb42bb5ae5a5e64996e1a4cd0f728a8221246af", func := "hearth/hearthlaw23.PastWorlds", spec := "pastWorlds", unfollowed := true, recurses := true, loops := true, apart := false }
def PastWorldsSaid : Prop := pastWorldsRow.holds Tryz.pinned (OpenSpec.ofChange pastWorldsSpec)

/-- ITS FALSE NEIGHBOUR: 'it returns false'. Refute it at one input. -/
def pastWorldsWrong : ChangeSpec := { name := "pastWorlds", fn := fun _ => fun
  | [d1, d2, d3, d4] => { results := [.lit (.bool false)], args := [d1, d2, d3, d4] }
  | _ => none }
def PastWorldsWrongFalsely : Prop := pastWorldsRow.holds Tryz.pinned (OpenSpec.ofChange pastWorldsWrong)

/-- 'hearthlaw23.PastWriters': WHATEVER THE INPUT: true; the input reads as it did. -/
def pastWritersSpec : ChangeSpec := { name := "pastWriters", fn := fun _ => fun
  | [d1, d2, d3, d4] => { results := [.lit (.bool true)], args := [d1, d2, d3, d4] }
  | _ => none }
def pastWritersRow : OpenClaim := { program := "ytmnchlhngpdffaagreat", sum := "80d38174fcaea85b436f6308edb42bb5ae5a5e64996e1a4cd0f728a8221246af", func := "hearth/hearthlaw23.PastWriters", spec := "pastWriters", unfollowed := true, recurses := true, loops := true, apart := false }
def PastWritersSaid : Prop := pastWritersRow.holds Tryz.pinned (OpenSpec.ofChange pastWritersSpec)

/-- ITS FALSE NEIGHBOUR: 'it returns false'. Refute it at one input. -/
def pastWritersWrong : ChangeSpec := { name := "pastWriters", fn := fun _ => fun
  | [d1, d2, d3, d4] => { results := [.lit (.bool false)], args := [d1, d2, d3, d4] }
  | _ => none }
def PastWritersWrongFalsely : Prop := pastWritersRow.holds Tryz.pinned (OpenSpec.ofChange pastWritersWrong)

/-- 'hearthlaw23.PastFirsts': WHATEVER THE INPUT: true; the input reads as it did. -/
def pastFirstsSpec : ChangeSpec := { name := "pastFirsts", fn := fun _ => fun
  | [d1, d2, d3, d4] => { results := [.lit (.bool true)], args := [d1, d2, d3, d4] }
  | _ => none }
def pastFirstsRow : OpenClaim := { program := "ytmnchlhngpdffaagreat", sum := "80d38174fcaea85b436f6308edb42bb5ae5a5e64996e1a4cd0f728a8221246af", func := "hearth/hearthlaw23.PastFirsts", spec := "pastFirsts", unfollowed := true, recurses := true, loops := true, apart := false }
def PastFirstsSaid : Prop := pastFirstsRow.holds Tryz.pinned (OpenSpec.ofChange pastFirstsSpec)

/-- ITS FALSE NEIGHBOUR: 'it returns false'. Refute it at one input. -/
def pastFirstsWrong : ChangeSpec := { name := "pastFirsts", fn := fun _ => fun
  | [d1, d2, d3, d4] => { results := [.lit (.bool false)], args := [d1, d2, d3, d4] }
  | _ => none }
def PastFirstsWrongFalsely : Prop := pastFirstsRow.holds Tryz.pinned (OpenSpec.ofChange pastFirstsWrong)

/-- 'hearthlaw23.PastKnown': WHATEVER THE INPUT: true; the input reads as it did. -/
def pastKnownSpec : ChangeSpec := { name := "pastKnown", fn := fun _ => fun
  | [] => { results := [.lit (.bool true)], args := [] }
  | _ => none }
def pastKnownRow : OpenClaim := { program := "ytmnchlhngpdffaagreat", sum := "80d38174fcaea85b436f6308edb42bb5ae5a5e64996e1a4cd0f728a8221246af", func := "hearth/hearthlaw23.PastKnown", spec := "pastKnown", unfollowed := true, recurses := true, apart := false }
def PastKnownSaid : Prop := pastKnownRow.holds Tryz.pinned (OpenSpec.ofChange pastKnownSpec)

/-- ITS FALSE NEIGHBOUR: 'it returns false'. Refute it at one input. -/
def pastKnownWrong : ChangeSpec := { name := "pastKnown", fn := fun _ => fun
  | [] => { results := [.lit (.bool false)], args := [] }
  | _ => none }
def PastKnownWrongFalsely : Prop := pastKnownRow.holds Tryz.pinned (OpenSpec.ofChange pastKnownWrong)

/-- 'hearthlaw23.PastLogs': WHATEVER THE INPUT: true; the input reads as it did. -/
def pastLogsSpec : ChangeSpec := { name := "pastLogs", fn := fun _ => fun
  | [d1, d2, d3, d4, d5] => { results := [.lit (.bool true)], args := [d1, d2, d3, d4, d5] }
  | _ => none }
def pastLogsRow : OpenClaim := { program := "ytmnchlhngpdffaagreat", sum := "80d38174fcaea85b436f6308edb42bb5ae5a5e64996e1a4cd0f728a8221246af", func := "hearth/hearthlaw23.PastLogs", spec := "pastLogs", unfollowed := true, recurses := true, loops := true, apart := false }
def PastLogsSaid : Prop := pastLogsRow.holds Tryz.pinned (OpenSpec.ofChange pastLogsSpec)

/-- ITS FALSE NEIGHBOUR: 'it returns false'. Refute it at one input. -/
def pastLogsWrong : ChangeSpec := { name := "pastLogs", fn := fun _ => fun
  | [d1, d2, d3, d4, d5] => { results := [.lit (.bool false)], args := [d1, d2, d3, d4, d5] }
  | _ => none }
def PastLogsWrongFalsely : Prop := pastLogsRow.holds Tryz.pinned (OpenSpec.ofChange pastLogsWrong)

/- THE SECOND FORM. 'bulk': how many values and letters a reading holds, each counted each time it is reached (what is shared counts as often as it is met; a slice's spare places count too). A statement '..UptoSaid' is the law's where the arguments, and the package variables that the reading takes, are together of bulk at most 1048576: NARROWER than '..Said'. Prove '..Said' where nothing that the law and all that it calls make is longer than what came in: it says more and counts as full. Else prove '..UptoSaid'. A law counts once. -/
mutual
def uptoBulk {H : Type} : DataW H → Nat
  | .lit (.string bytes) => bytes.length + 1
  | .lit _ => 1
  | .nil => 1
  | .ptr d => uptoBulk d + 1
  | .slice elems spare => uptoBulkAll elems + uptoBulkAll spare + 1
  | .agg parts => uptoBulkAll parts + 1
  | .iface _ d => uptoBulk d + 1
  | .map entries => uptoBulkEntries entries + 1
  | .held _ => 1
def uptoBulkAll {H : Type} : List (DataW H) → Nat
  | [] => 0
  | d :: r => uptoBulk d + uptoBulkAll r
def uptoBulkEntries {H : Type} : List (Lit × DataW H) → Nat
  | [] => 0
  | x :: r => uptoBulkEntry x + uptoBulkEntries r
def uptoBulkEntry {H : Type} : Lit × DataW H → Nat
  | (.string bytes, d) => bytes.length + uptoBulk d + 1
  | (_, d) => uptoBulk d + 1
 end
def uptoSmall : (H : Type) → List (DataW H) → Bool := fun _ ds => decide (uptoBulkAll ds ≤ 1048576)
def OpenSpec.upto (s : _root_.Go.ChangeSpec) : _root_.Go.OpenSpec := { _root_.Go.OpenSpec.ofChange s with cond := some uptoSmall }

/-- 'hearthlaw23.PastVerifies', WHERE WHAT IT READS IS OF BULK AT MOST 1048576: true; the input reads as it did. -/
def pastVerifiesUptoRow : OpenClaim := { program := "ytmnchlhngpdffaagreat", sum := "80d38174fcaea85b436f6308edb42bb5ae5a5e64996e1a4cd0f728a8221246af", func := "hearth/hearthlaw23.PastVerifies", spec := "pastVerifies", unfollowed := true, recurses := true, loops := true, apart := false, narrowed := true }
def PastVerifiesUptoSaid : Prop := pastVerifiesUptoRow.holds Tryz.pinned (OpenSpec.upto pastVerifiesSpec)

/-- 'hearthlaw23.PastWorlds', WHERE WHAT IT READS IS OF BULK AT MOST 1048576: true; the input reads as it did. -/
def pastWorldsUptoRow : OpenClaim := { program := "ytmnchlhngpdffaagreat", sum := "80d38174fcaea85b436f6308edb42bb5ae5a5e64996e1a4cd0f728a8221246af", func := "hearth/hearthlaw23.PastWorlds", spec := "pastWorlds", unfollowed := true, recurses := true, loops := true, apart := false, narrowed := true }
def PastWorldsUptoSaid : Prop := pastWorldsUptoRow.holds Tryz.pinned (OpenSpec.upto pastWorldsSpec)

/-- 'hearthlaw23.PastWriters', WHERE WHAT IT READS IS OF BULK AT MOST 1048576: true; the input reads as it did. -/
def pastWritersUptoRow : OpenClaim := { program := "ytmnchlhngpdffaagreat", sum := "80d38174fcaea85b436f6308edb42bb5ae5a5e64996e1a4cd0f728a8221246af", func := "hearth/hearthlaw23.PastWriters", spec := "pastWriters", unfollowed := true, recurses := true, loops := true, apart := false, narrowed := true }
def PastWritersUptoSaid : Prop := pastWritersUptoRow.holds Tryz.pinned (OpenSpec.upto pastWritersSpec)

/-- 'hearthlaw23.PastFirsts', WHERE WHAT IT READS IS OF BULK AT MOST 1048576: true; the input reads as it did. -/
def pastFirstsUptoRow : OpenClaim := { program := "ytmnchlhngpdffaagreat", sum := "80d38174fcaea85b436f6308edb42bb5ae5a5e64996e1a4cd0f728a8221246af", func := "hearth/hearthlaw23.PastFirsts", spec := "pastFirsts", unfollowed := true, recurses := true, loops := true, apart := false, narrowed := true }
def PastFirstsUptoSaid : Prop := pastFirstsUptoRow.holds Tryz.pinned (OpenSpec.upto pastFirstsSpec)

/-- 'hearthlaw23.PastKnown', WHERE WHAT IT READS IS OF BULK AT MOST 1048576: true; the input reads as it did. -/
def pastKnownUptoRow : OpenClaim := { program := "ytmnchlhngpdffaagreat", sum := "80d38174fcaea85b436f6308edb42bb5ae5a5e64996e1a4cd0f728a8221246af", func := "hearth/hearthlaw23.PastKnown", spec := "pastKnown", unfollowed := true, recurses := true, apart := false, narrowed := true }
def PastKnownUptoSaid : Prop := pastKnownUptoRow.holds Tryz.pinned (OpenSpec.upto pastKnownSpec)

/-- 'hearthlaw23.PastLogs', WHERE WHAT IT READS IS OF BULK AT MOST 1048576: true; the input reads as it did. -/
def pastLogsUptoRow : OpenClaim := { program := "ytmnchlhngpdffaagreat", sum := "80d38174fcaea85b436f6308edb42bb5ae5a5e64996e1a4cd0f728a8221246af", func := "hearth/hearthlaw23.PastLogs", spec := "pastLogs", unfollowed := true, recurses := true, loops := true, apart := false, narrowed := true }
def PastLogsUptoSaid : Prop := pastLogsUptoRow.holds Tryz.pinned (OpenSpec.upto pastLogsSpec)

end Rows
end Go.Proofs.YtmnchlhngpdffaaGreat
