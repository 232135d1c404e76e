/-
  DERIVED. GIVEN WITH THE SEED: THE CARDS: each row of YtpnaeljbfnjghaaGreatDoorRows.lean that lists a variable, with what it lists TIED to the program's text (the seventh form; the later family's looks); each row that meets fmt, with fmt's text TOLD by the authors' own Lean function (tested against real Go, not proved from fmt's source: count such statements apart). THE CARD IS WHAT COUNTS. Prove the row's statement (the work); the ties are given (YtpnaeljbfnjghaaGreatDoorTie.lean); close each card by the builder's one call (the guide's Derived/Test/ToyasCard.lean, 'card_holds'). Laid BY PROGRAM, IN A SANDBOX (cutbox-door.mjs). By AI agents, Wed Nov 11 2026. No macro, syntax, notation, axiom, sorry.
-/
import Derived.Test.YtpnaeljbfnjghaaGreatDoorRows
import GoSem.ClaimSeven
namespace Go.Proofs.YtpnaeljbfnjghaaGreatDoor
namespace Rows

/-- THE TIED CARD OF 'ablautlaw09.LawtextBack'. -/
def lawtextBackCard : Claim7 := { stood := { row := lawtextBackRow, standIns := [], harness := (true, "20c74b4c3865128aa5c70bb84dc7015412060d634ab0f04ced7316685e041387"), looks := true }, kinds := [], alts := [], laidByText := true, laidKinds := [.data, .data, .data, .data, .sentinel, .sentinel, .data, .data, .pinned], laidTests := true, laidLooks := .later }
def LawtextBackCardSaid : Prop := Claim7.holds Tryz.pinned (.plain (OpenSpec.ofChange lawtextBackSpec)) lawtextBackCard

/-- THE TIED CARD OF 'ablautlaw09.LawtextReads'. -/
def lawtextReadsCard : Claim7 := { stood := { row := lawtextReadsRow, standIns := [], harness := (true, "20c74b4c3865128aa5c70bb84dc7015412060d634ab0f04ced7316685e041387"), looks := true }, kinds := [], alts := [], laidByText := true, laidKinds := [.data, .data, .data, .data, .sentinel, .sentinel, .data, .data, .pinned], laidTests := true, laidLooks := .later }
def LawtextReadsCardSaid : Prop := Claim7.holds Tryz.pinned (.plain (OpenSpec.ofChange lawtextReadsSpec)) lawtextReadsCard

/-- THE TIED CARD OF 'ablautlaw09.LawtextLists'. -/
def lawtextListsCard : Claim7 := { stood := { row := lawtextListsRow, standIns := [], harness := (true, "20c74b4c3865128aa5c70bb84dc7015412060d634ab0f04ced7316685e041387"), looks := true }, kinds := [], alts := [], laidByText := true, laidKinds := [.data, .data, .data, .data, .sentinel, .sentinel, .data, .data, .pinned], laidTests := true, laidLooks := .later }
def LawtextListsCardSaid : Prop := Claim7.holds Tryz.pinned (.plain (OpenSpec.ofChange lawtextListsSpec)) lawtextListsCard

/-- THE TIED CARD OF 'ablautlaw09.LawtextNil'. -/
def lawtextNilCard : Claim7 := { stood := { row := lawtextNilRow, standIns := [], harness := (true, "20c74b4c3865128aa5c70bb84dc7015412060d634ab0f04ced7316685e041387"), looks := true }, kinds := [], alts := [], laidByText := true, laidKinds := [.data, .data, .data, .data, .sentinel, .sentinel, .data, .data, .pinned], laidTests := true, laidLooks := .later }
def LawtextNilCardSaid : Prop := Claim7.holds Tryz.pinned (.plain (OpenSpec.ofChange lawtextNilSpec)) lawtextNilCard

/-- THE TIED CARD OF 'ablautlaw09.LawtextLines'. -/
def lawtextLinesCard : Claim7 := { stood := { row := lawtextLinesRow, standIns := [], harness := (true, "20c74b4c3865128aa5c70bb84dc7015412060d634ab0f04ced7316685e041387"), looks := true }, kinds := [], alts := [], laidByText := true, laidKinds := [.data, .data, .data, .data, .sentinel, .sentinel, .data, .data, .pinned], laidTests := true, laidLooks := .later }
def LawtextLinesCardSaid : Prop := Claim7.holds Tryz.pinned (.plain (OpenSpec.ofChange lawtextLinesSpec)) lawtextLinesCard

/-- THE TIED CARD OF 'ablauttop.TopWritten'. -/
def topWrittenCard : Claim7 := { stood := { row := topWrittenRow, standIns := [], harness := (true, "20c74b4c3865128aa5c70bb84dc7015412060d634ab0f04ced7316685e041387"), looks := true }, kinds := [], alts := [], laidByText := true, laidKinds := [.data, .data, .data, .data, .sentinel, .sentinel, .data, .data, .pinned], laidTests := true, laidLooks := .later }
def TopWrittenCardSaid : Prop := Claim7.holds Tryz.pinned (.plain (OpenSpec.ofChange topWrittenSpec)) topWrittenCard

/-- THE TIED CARD OF 'ablautlaw09.LawtextKnown'. -/
def lawtextKnownCard : Claim7 := { stood := { row := lawtextKnownRow, standIns := [], harness := (true, "20c74b4c3865128aa5c70bb84dc7015412060d634ab0f04ced7316685e041387"), looks := true }, kinds := [], alts := [], laidByText := true, laidKinds := [.data, .data, .data, .data, .sentinel, .sentinel, .data, .data, .pinned], laidTests := true, laidLooks := .later }
def LawtextKnownCardSaid : Prop := Claim7.holds Tryz.pinned (.plain (OpenSpec.ofChange lawtextKnownSpec)) lawtextKnownCard

/-- THE TIED CARD OF 'ablautlaw09.LawtextKeeps'. -/
def lawtextKeepsCard : Claim7 := { stood := { row := lawtextKeepsRow, standIns := [], harness := (true, "20c74b4c3865128aa5c70bb84dc7015412060d634ab0f04ced7316685e041387"), looks := true }, kinds := [], alts := [], laidByText := true, laidKinds := [.data, .data, .data, .data, .sentinel, .sentinel, .data, .data, .pinned], laidTests := true, laidLooks := .later }
def LawtextKeepsCardSaid : Prop := Claim7.holds Tryz.pinned (.plain (OpenSpec.ofChange lawtextKeepsSpec)) lawtextKeepsCard

/-- THE TIED CARD OF 'ablautlaw09.LawtextTurns'. -/
def lawtextTurnsCard : Claim7 := { stood := { row := lawtextTurnsRow, standIns := [], harness := (true, "20c74b4c3865128aa5c70bb84dc7015412060d634ab0f04ced7316685e041387"), looks := true }, kinds := [], alts := [], laidByText := true, laidKinds := [.data, .data, .data, .data, .sentinel, .sentinel, .data, .data, .pinned], laidTests := true, laidLooks := .later }
def LawtextTurnsCardSaid : Prop := Claim7.holds Tryz.pinned (.plain (OpenSpec.ofChange lawtextTurnsSpec)) lawtextTurnsCard

/-- THE SECOND FORM's CARD OF 'ablautlaw09.LawtextBack'. -/
def lawtextBackUptoCard : Claim7 := { stood := { row := lawtextBackUptoRow, standIns := [], harness := (true, "20c74b4c3865128aa5c70bb84dc7015412060d634ab0f04ced7316685e041387"), looks := true }, kinds := [], alts := [], laidByText := true, laidKinds := [.data, .data, .data, .data, .sentinel, .sentinel, .data, .data, .pinned], laidTests := true, laidLooks := .later }
def LawtextBackUptoCardSaid : Prop := Claim7.holds Tryz.pinned (.plain (OpenSpec.upto lawtextBackSpec)) lawtextBackUptoCard

/-- THE SECOND FORM's CARD OF 'ablautlaw09.LawtextReads'. -/
def lawtextReadsUptoCard : Claim7 := { stood := { row := lawtextReadsUptoRow, standIns := [], harness := (true, "20c74b4c3865128aa5c70bb84dc7015412060d634ab0f04ced7316685e041387"), looks := true }, kinds := [], alts := [], laidByText := true, laidKinds := [.data, .data, .data, .data, .sentinel, .sentinel, .data, .data, .pinned], laidTests := true, laidLooks := .later }
def LawtextReadsUptoCardSaid : Prop := Claim7.holds Tryz.pinned (.plain (OpenSpec.upto lawtextReadsSpec)) lawtextReadsUptoCard

/-- THE SECOND FORM's CARD OF 'ablautlaw09.LawtextLists'. -/
def lawtextListsUptoCard : Claim7 := { stood := { row := lawtextListsUptoRow, standIns := [], harness := (true, "20c74b4c3865128aa5c70bb84dc7015412060d634ab0f04ced7316685e041387"), looks := true }, kinds := [], alts := [], laidByText := true, laidKinds := [.data, .data, .data, .data, .sentinel, .sentinel, .data, .data, .pinned], laidTests := true, laidLooks := .later }
def LawtextListsUptoCardSaid : Prop := Claim7.holds Tryz.pinned (.plain (OpenSpec.upto lawtextListsSpec)) lawtextListsUptoCard

/-- THE SECOND FORM's CARD OF 'ablautlaw09.LawtextNil'. -/
def lawtextNilUptoCard : Claim7 := { stood := { row := lawtextNilUptoRow, standIns := [], harness := (true, "20c74b4c3865128aa5c70bb84dc7015412060d634ab0f04ced7316685e041387"), looks := true }, kinds := [], alts := [], laidByText := true, laidKinds := [.data, .data, .data, .data, .sentinel, .sentinel, .data, .data, .pinned], laidTests := true, laidLooks := .later }
def LawtextNilUptoCardSaid : Prop := Claim7.holds Tryz.pinned (.plain (OpenSpec.upto lawtextNilSpec)) lawtextNilUptoCard

/-- THE SECOND FORM's CARD OF 'ablautlaw09.LawtextLines'. -/
def lawtextLinesUptoCard : Claim7 := { stood := { row := lawtextLinesUptoRow, standIns := [], harness := (true, "20c74b4c3865128aa5c70bb84dc7015412060d634ab0f04ced7316685e041387"), looks := true }, kinds := [], alts := [], laidByText := true, laidKinds := [.data, .data, .data, .data, .sentinel, .sentinel, .data, .data, .pinned], laidTests := true, laidLooks := .later }
def LawtextLinesUptoCardSaid : Prop := Claim7.holds Tryz.pinned (.plain (OpenSpec.upto lawtextLinesSpec)) lawtextLinesUptoCard

/-- THE SECOND FORM's CARD OF 'ablauttop.TopWritten'. -/
def topWrittenUptoCard : Claim7 := { stood := { row := topWrittenUptoRow, standIns := [], harness := (true, "20c74b4c3865128aa5c70bb84dc7015412060d634ab0f04ced7316685e041387"), looks := true }, kinds := [], alts := [], laidByText := true, laidKinds := [.data, .data, .data, .data, .sentinel, .sentinel, .data, .data, .pinned], laidTests := true, laidLooks := .later }
def TopWrittenUptoCardSaid : Prop := Claim7.holds Tryz.pinned (.plain (OpenSpec.upto topWrittenSpec)) topWrittenUptoCard

/-- THE SECOND FORM's CARD OF 'ablautlaw09.LawtextKnown'. -/
def lawtextKnownUptoCard : Claim7 := { stood := { row := lawtextKnownUptoRow, standIns := [], harness := (true, "20c74b4c3865128aa5c70bb84dc7015412060d634ab0f04ced7316685e041387"), looks := true }, kinds := [], alts := [], laidByText := true, laidKinds := [.data, .data, .data, .data, .sentinel, .sentinel, .data, .data, .pinned], laidTests := true, laidLooks := .later }
def LawtextKnownUptoCardSaid : Prop := Claim7.holds Tryz.pinned (.plain (OpenSpec.upto lawtextKnownSpec)) lawtextKnownUptoCard

/-- THE SECOND FORM's CARD OF 'ablautlaw09.LawtextKeeps'. -/
def lawtextKeepsUptoCard : Claim7 := { stood := { row := lawtextKeepsUptoRow, standIns := [], harness := (true, "20c74b4c3865128aa5c70bb84dc7015412060d634ab0f04ced7316685e041387"), looks := true }, kinds := [], alts := [], laidByText := true, laidKinds := [.data, .data, .data, .data, .sentinel, .sentinel, .data, .data, .pinned], laidTests := true, laidLooks := .later }
def LawtextKeepsUptoCardSaid : Prop := Claim7.holds Tryz.pinned (.plain (OpenSpec.upto lawtextKeepsSpec)) lawtextKeepsUptoCard

/-- THE SECOND FORM's CARD OF 'ablautlaw09.LawtextTurns'. -/
def lawtextTurnsUptoCard : Claim7 := { stood := { row := lawtextTurnsUptoRow, standIns := [], harness := (true, "20c74b4c3865128aa5c70bb84dc7015412060d634ab0f04ced7316685e041387"), looks := true }, kinds := [], alts := [], laidByText := true, laidKinds := [.data, .data, .data, .data, .sentinel, .sentinel, .data, .data, .pinned], laidTests := true, laidLooks := .later }
def LawtextTurnsUptoCardSaid : Prop := Claim7.holds Tryz.pinned (.plain (OpenSpec.upto lawtextTurnsSpec)) lawtextTurnsUptoCard
end Rows
end Go.Proofs.YtpnaeljbfnjghaaGreatDoor
