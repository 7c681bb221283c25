/-
  DERIVED. GIVEN WITH THE SEED: THE CARDS: each row of YtbecemdehelooaaDoorRows.lean that lists a variable, with what it lists TIED to the program's text (the seventh form; the later family's looks); each row that meets fmt, with fmt's text TOLD by the authors' own Lean function (tested against real Go, not proved from fmt's source: count such statements apart). THE CARD IS WHAT COUNTS. Prove the row's statement (the work); the ties are given (YtbecemdehelooaaDoorTie.lean); close each card by the builder's one call (the guide's Derived/Test/ToyasCard.lean, 'card_holds'). Laid BY PROGRAM, IN A SANDBOX (cutbox-door.mjs). By AI agents, Wed Nov 11 2026. No macro, syntax, notation, axiom, sorry.
-/
import Derived.Test.YtbecemdehelooaaDoorRows
import GoSem.ClaimSeven
namespace Go.Proofs.YtbecemdehelooaaDoor
namespace Rows

/-- THE TIED CARD OF 'hagglerlaw12.FeedBack'. -/
def feedBackCard : Claim7 := { stood := { row := feedBackRow, standIns := [], harness := (true, "05e658fc60ffd4c54a623a112785a845632ca7eef79f543dca429950145f60a8"), looks := true }, kinds := [], alts := [], laidByText := true, laidKinds := [.data, .data, .data, .data, .sentinel, .sentinel, .pinned], laidTests := true, laidLooks := .later }
def FeedBackCardSaid : Prop := Claim7.holds Tryd.pinned (.plain (OpenSpec.ofChange feedBackSpec)) feedBackCard

/-- THE TIED CARD OF 'hagglerlaw12.FeedForth'. -/
def feedForthCard : Claim7 := { stood := { row := feedForthRow, standIns := [], harness := (true, "05e658fc60ffd4c54a623a112785a845632ca7eef79f543dca429950145f60a8"), looks := true }, kinds := [], alts := [], laidByText := true, laidKinds := [.data, .data, .data, .data, .sentinel, .sentinel, .pinned], laidTests := true, laidLooks := .later }
def FeedForthCardSaid : Prop := Claim7.holds Tryd.pinned (.plain (OpenSpec.ofChange feedForthSpec)) feedForthCard

/-- THE TIED CARD OF 'hagglerlaw12.FeedField'. -/
def feedFieldCard : Claim7 := { stood := { row := feedFieldRow, standIns := [], harness := (true, "05e658fc60ffd4c54a623a112785a845632ca7eef79f543dca429950145f60a8"), looks := true }, kinds := [], alts := [], laidByText := true, laidKinds := [.data, .data, .data, .data, .sentinel, .sentinel, .pinned], laidTests := true, laidLooks := .later }
def FeedFieldCardSaid : Prop := Claim7.holds Tryd.pinned (.plain (OpenSpec.ofChange feedFieldSpec)) feedFieldCard

/-- THE TIED CARD OF 'hagglerlaw12.FeedUnlike'. -/
def feedUnlikeCard : Claim7 := { stood := { row := feedUnlikeRow, standIns := [], harness := (true, "05e658fc60ffd4c54a623a112785a845632ca7eef79f543dca429950145f60a8"), looks := true }, kinds := [], alts := [], laidByText := true, laidKinds := [.data, .data, .data, .data, .sentinel, .sentinel, .pinned], laidTests := true, laidLooks := .later }
def FeedUnlikeCardSaid : Prop := Claim7.holds Tryd.pinned (.plain (OpenSpec.ofChange feedUnlikeSpec)) feedUnlikeCard

/-- THE TIED CARD OF 'hagglerlaw12.FeedNumbers'. -/
def feedNumbersCard : Claim7 := { stood := { row := feedNumbersRow, standIns := [], harness := (true, "05e658fc60ffd4c54a623a112785a845632ca7eef79f543dca429950145f60a8"), looks := true }, kinds := [], alts := [], laidByText := true, laidKinds := [.data, .data, .data, .data, .sentinel, .sentinel, .pinned], laidTests := true, laidLooks := .later }
def FeedNumbersCardSaid : Prop := Claim7.holds Tryd.pinned (.plain (OpenSpec.ofChange feedNumbersSpec)) feedNumbersCard

/-- THE SECOND FORM's CARD OF 'hagglerlaw12.FeedBack'. -/
def feedBackUptoCard : Claim7 := { stood := { row := feedBackUptoRow, standIns := [], harness := (true, "05e658fc60ffd4c54a623a112785a845632ca7eef79f543dca429950145f60a8"), looks := true }, kinds := [], alts := [], laidByText := true, laidKinds := [.data, .data, .data, .data, .sentinel, .sentinel, .pinned], laidTests := true, laidLooks := .later }
def FeedBackUptoCardSaid : Prop := Claim7.holds Tryd.pinned (.plain (OpenSpec.upto feedBackSpec)) feedBackUptoCard

/-- THE SECOND FORM's CARD OF 'hagglerlaw12.FeedForth'. -/
def feedForthUptoCard : Claim7 := { stood := { row := feedForthUptoRow, standIns := [], harness := (true, "05e658fc60ffd4c54a623a112785a845632ca7eef79f543dca429950145f60a8"), looks := true }, kinds := [], alts := [], laidByText := true, laidKinds := [.data, .data, .data, .data, .sentinel, .sentinel, .pinned], laidTests := true, laidLooks := .later }
def FeedForthUptoCardSaid : Prop := Claim7.holds Tryd.pinned (.plain (OpenSpec.upto feedForthSpec)) feedForthUptoCard

/-- THE SECOND FORM's CARD OF 'hagglerlaw12.FeedField'. -/
def feedFieldUptoCard : Claim7 := { stood := { row := feedFieldUptoRow, standIns := [], harness := (true, "05e658fc60ffd4c54a623a112785a845632ca7eef79f543dca429950145f60a8"), looks := true }, kinds := [], alts := [], laidByText := true, laidKinds := [.data, .data, .data, .data, .sentinel, .sentinel, .pinned], laidTests := true, laidLooks := .later }
def FeedFieldUptoCardSaid : Prop := Claim7.holds Tryd.pinned (.plain (OpenSpec.upto feedFieldSpec)) feedFieldUptoCard

/-- THE SECOND FORM's CARD OF 'hagglerlaw12.FeedUnlike'. -/
def feedUnlikeUptoCard : Claim7 := { stood := { row := feedUnlikeUptoRow, standIns := [], harness := (true, "05e658fc60ffd4c54a623a112785a845632ca7eef79f543dca429950145f60a8"), looks := true }, kinds := [], alts := [], laidByText := true, laidKinds := [.data, .data, .data, .data, .sentinel, .sentinel, .pinned], laidTests := true, laidLooks := .later }
def FeedUnlikeUptoCardSaid : Prop := Claim7.holds Tryd.pinned (.plain (OpenSpec.upto feedUnlikeSpec)) feedUnlikeUptoCard

/-- THE SECOND FORM's CARD OF 'hagglerlaw12.FeedNumbers'. -/
def feedNumbersUptoCard : Claim7 := { stood := { row := feedNumbersUptoRow, standIns := [], harness := (true, "05e658fc60ffd4c54a623a112785a845632ca7eef79f543dca429950145f60a8"), looks := true }, kinds := [], alts := [], laidByText := true, laidKinds := [.data, .data, .data, .data, .sentinel, .sentinel, .pinned], laidTests := true, laidLooks := .later }
def FeedNumbersUptoCardSaid : Prop := Claim7.holds Tryd.pinned (.plain (OpenSpec.upto feedNumbersSpec)) feedNumbersUptoCard
end Rows
end Go.Proofs.YtbecemdehelooaaDoor
