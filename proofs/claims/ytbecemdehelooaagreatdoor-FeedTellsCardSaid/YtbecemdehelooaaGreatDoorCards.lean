/-
  DERIVED. GIVEN WITH THE SEED: THE CARDS: each row of YtbecemdehelooaaGreatDoorRows.lean that lists a variable, with what it lists TIED to the program's text (the seventh form; the later family's looks); each row that meets fmt, with fmt's text TOLD by the authors' own Lean function (tested against real Go, not proved from fmt's source: count such statements apart). THE CARD IS WHAT COUNTS. Prove the row's statement (the work); the ties are given (YtbecemdehelooaaGreatDoorTie.lean); close each card by the builder's one call (the guide's Derived/Test/ToyasCard.lean, 'card_holds'). Laid BY PROGRAM, IN A SANDBOX (cutbox-door.mjs). By AI agents, Wed Nov 11 2026. No macro, syntax, notation, axiom, sorry.
-/
import Derived.Test.YtbecemdehelooaaGreatDoorRows
import GoSem.ClaimSeven
namespace Go.Proofs.YtbecemdehelooaaGreatDoor
namespace Rows

/-- THE TIED CARD OF 'hagglerlaw12.FeedTells'. -/
def feedTellsCard : Claim7 := { stood := { row := feedTellsRow, standIns := [], harness := (true, "5eb02ac7dba5985b732ada9bf7994021a0c06d3a5c2a94aa552d7796e5e87075"), looks := true }, kinds := [], alts := [], laidByText := true, laidKinds := [.data, .data, .data, .data, .sentinel, .sentinel, .pinned], laidTests := true, laidLooks := .later }
def FeedTellsCardSaid : Prop := Claim7.holds Tryz.pinned (.plain (OpenSpec.ofChange feedTellsSpec)) feedTellsCard

/-- THE SECOND FORM's CARD OF 'hagglerlaw12.FeedTells'. -/
def feedTellsUptoCard : Claim7 := { stood := { row := feedTellsUptoRow, standIns := [], harness := (true, "5eb02ac7dba5985b732ada9bf7994021a0c06d3a5c2a94aa552d7796e5e87075"), looks := true }, kinds := [], alts := [], laidByText := true, laidKinds := [.data, .data, .data, .data, .sentinel, .sentinel, .pinned], laidTests := true, laidLooks := .later }
def FeedTellsUptoCardSaid : Prop := Claim7.holds Tryz.pinned (.plain (OpenSpec.upto feedTellsSpec)) feedTellsUptoCard
end Rows
end Go.Proofs.YtbecemdehelooaaGreatDoor
