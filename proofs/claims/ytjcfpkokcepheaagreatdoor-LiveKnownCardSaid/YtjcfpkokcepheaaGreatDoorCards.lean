/-
  DERIVED. GIVEN WITH THE SEED: THE CARDS: each row of YtjcfpkokcepheaaGreatDoorRows.lean that lists a variable, with what it lists TIED to the program's text (the seventh form; the later family's looks); each row that meets fmt, with fmt's text TOLD by the authors' own Lean function (tested against real Go, not proved from fmt's source: count such statements apart). THE CARD IS WHAT COUNTS. Prove the row's statement (the work); the ties are given (YtjcfpkokcepheaaGreatDoorTie.lean); close each card by the builder's one call (the guide's Derived/Test/ToyasCard.lean, 'card_holds'). Laid BY PROGRAM, IN A SANDBOX (cutbox-door.mjs). By AI agents, Wed Nov 11 2026. No macro, syntax, notation, axiom, sorry.
-/
import Derived.Test.YtjcfpkokcepheaaGreatDoorRows
import GoSem.ClaimSeven
namespace Go.Proofs.YtjcfpkokcepheaaGreatDoor
namespace Rows

/-- THE TIED CARD OF 'hearthlaw12.LiveKnown'. -/
def liveKnownCard : Claim7 := { stood := { row := liveKnownRow, standIns := [], harness := (true, "d1ec6118e360e130484d52e55cc694bb6f752a03d8cb3321f5a210faa4e74395"), looks := true }, kinds := [], alts := [], laidByText := true, laidKinds := [.data], laidTests := true, laidLooks := .later }
def LiveKnownCardSaid : Prop := Claim7.holds Tryz.pinned (.plain (OpenSpec.ofChange liveKnownSpec)) liveKnownCard

/-- THE SECOND FORM's CARD OF 'hearthlaw12.LiveKnown'. -/
def liveKnownUptoCard : Claim7 := { stood := { row := liveKnownUptoRow, standIns := [], harness := (true, "d1ec6118e360e130484d52e55cc694bb6f752a03d8cb3321f5a210faa4e74395"), looks := true }, kinds := [], alts := [], laidByText := true, laidKinds := [.data], laidTests := true, laidLooks := .later }
def LiveKnownUptoCardSaid : Prop := Claim7.holds Tryz.pinned (.plain (OpenSpec.upto liveKnownSpec)) liveKnownUptoCard
end Rows
end Go.Proofs.YtjcfpkokcepheaaGreatDoor
