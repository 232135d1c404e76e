/-
  DERIVED. GIVEN WITH THE SEED: THE CARDS: each row of YtdnmnhllfflkoaaGreatDoorRows.lean that lists a variable, with what it lists TIED to the program's text (the seventh form; the later family's looks); each row that meets fmt, with fmt's text TOLD by the authors' own Lean function (tested against real Go, not proved from fmt's source: count such statements apart). THE CARD IS WHAT COUNTS. Prove the row's statement (the work); the ties are given (YtdnmnhllfflkoaaGreatDoorTie.lean); close each card by the builder's one call (the guide's Derived/Test/ToyasCard.lean, 'card_holds'). Laid BY PROGRAM, IN A SANDBOX (cutbox-door.mjs). By AI agents, Wed Nov 11 2026. No macro, syntax, notation, axiom, sorry.
-/
import Derived.Test.YtdnmnhllfflkoaaGreatDoorRows
import GoSem.ClaimSeven
namespace Go.Proofs.YtdnmnhllfflkoaaGreatDoor
namespace Rows

/-- THE TIED CARD OF 'ablautlaw44.LabAsks'. -/
def labAsksCard : Claim7 := { stood := { row := labAsksRow, standIns := [], harness := (true, "38cd816b6626f1a3cfb43c62e5da4aed3d7022f943625d991be2003fd9726f92"), looks := true }, kinds := [], alts := [], laidByText := true, laidKinds := [.data, .data, .pinned], laidTests := true, laidLooks := .later }
def LabAsksCardSaid : Prop := Claim7.holds Tryz.pinned (.plain (OpenSpec.ofChange labAsksSpec)) labAsksCard

/-- THE TIED CARD OF 'ablautlaw44.LabFields'. -/
def labFieldsCard : Claim7 := { stood := { row := labFieldsRow, standIns := [], harness := (true, "38cd816b6626f1a3cfb43c62e5da4aed3d7022f943625d991be2003fd9726f92"), looks := true }, kinds := [], alts := [], laidByText := true, laidKinds := [.data, .data, .pinned], laidTests := true, laidLooks := .later }
def LabFieldsCardSaid : Prop := Claim7.holds Tryz.pinned (.plain (OpenSpec.ofChange labFieldsSpec)) labFieldsCard

/-- THE TIED CARD OF 'ablautlaw44.LabSwaps'. -/
def labSwapsCard : Claim7 := { stood := { row := labSwapsRow, standIns := [], harness := (true, "38cd816b6626f1a3cfb43c62e5da4aed3d7022f943625d991be2003fd9726f92"), looks := true }, kinds := [], alts := [], laidByText := true, laidKinds := [.data, .data, .pinned], laidTests := true, laidLooks := .later }
def LabSwapsCardSaid : Prop := Claim7.holds Tryz.pinned (.plain (OpenSpec.ofChange labSwapsSpec)) labSwapsCard

/-- THE TIED CARD OF 'ablautlaw44.LabNews'. -/
def labNewsCard : Claim7 := { stood := { row := labNewsRow, standIns := [], harness := (true, "38cd816b6626f1a3cfb43c62e5da4aed3d7022f943625d991be2003fd9726f92"), looks := true }, kinds := [], alts := [], laidByText := true, laidKinds := [.data, .data, .pinned], laidTests := true, laidLooks := .later }
def LabNewsCardSaid : Prop := Claim7.holds Tryz.pinned (.plain (OpenSpec.ofChange labNewsSpec)) labNewsCard

/-- THE TIED CARD OF 'ablautlaw44.LabUndoes'. -/
def labUndoesCard : Claim7 := { stood := { row := labUndoesRow, standIns := [], harness := (true, "38cd816b6626f1a3cfb43c62e5da4aed3d7022f943625d991be2003fd9726f92"), looks := true }, kinds := [], alts := [], laidByText := true, laidKinds := [.data, .data, .pinned], laidTests := true, laidLooks := .later }
def LabUndoesCardSaid : Prop := Claim7.holds Tryz.pinned (.plain (OpenSpec.ofChange labUndoesSpec)) labUndoesCard

/-- THE TIED CARD OF 'ablautlaw44.LabKeeps'. -/
def labKeepsCard : Claim7 := { stood := { row := labKeepsRow, standIns := [], harness := (true, "38cd816b6626f1a3cfb43c62e5da4aed3d7022f943625d991be2003fd9726f92"), looks := true }, kinds := [], alts := [], laidByText := true, laidKinds := [.data, .data, .pinned], laidTests := true, laidLooks := .later }
def LabKeepsCardSaid : Prop := Claim7.holds Tryz.pinned (.plain (OpenSpec.ofChange labKeepsSpec)) labKeepsCard

/-- THE TIED CARD OF 'ablautlaw44.LabDoes'. -/
def labDoesCard : Claim7 := { stood := { row := labDoesRow, standIns := [], harness := (true, "38cd816b6626f1a3cfb43c62e5da4aed3d7022f943625d991be2003fd9726f92"), looks := true }, kinds := [], alts := [], laidByText := true, laidKinds := [.data, .data, .pinned], laidTests := true, laidLooks := .later }
def LabDoesCardSaid : Prop := Claim7.holds Tryz.pinned (.plain (OpenSpec.ofChange labDoesSpec)) labDoesCard

/-- THE TIED CARD OF 'ablautlaw44.LabNil'. -/
def labNilCard : Claim7 := { stood := { row := labNilRow, standIns := [], harness := (true, "38cd816b6626f1a3cfb43c62e5da4aed3d7022f943625d991be2003fd9726f92"), looks := true }, kinds := [], alts := [], laidByText := true, laidKinds := [.data, .data, .pinned], laidTests := true, laidLooks := .later }
def LabNilCardSaid : Prop := Claim7.holds Tryz.pinned (.plain (OpenSpec.ofChange labNilSpec)) labNilCard

/-- THE TIED CARD OF 'ablautlaw46.JudgePlays'. -/
def judgePlaysCard : Claim7 := { stood := { row := judgePlaysRow, standIns := [], harness := (true, "38cd816b6626f1a3cfb43c62e5da4aed3d7022f943625d991be2003fd9726f92"), looks := true }, kinds := [], alts := [], laidByText := true, laidKinds := [.data, .data, .mapped, .pinned], laidTests := true, laidLooks := .later }
def JudgePlaysCardSaid : Prop := Claim7.holds Tryz.pinned (.plain (OpenSpec.ofChange judgePlaysSpec)) judgePlaysCard

/-- THE TIED CARD OF 'ablautlaw46.JudgeLooks'. -/
def judgeLooksCard : Claim7 := { stood := { row := judgeLooksRow, standIns := [], harness := (true, "38cd816b6626f1a3cfb43c62e5da4aed3d7022f943625d991be2003fd9726f92"), looks := true }, kinds := [], alts := [], laidByText := true, laidKinds := [.data, .data, .mapped, .pinned], laidTests := true, laidLooks := .later }
def JudgeLooksCardSaid : Prop := Claim7.holds Tryz.pinned (.plain (OpenSpec.ofChange judgeLooksSpec)) judgeLooksCard

/-- THE TIED CARD OF 'ablautlaw46.JudgeSames'. -/
def judgeSamesCard : Claim7 := { stood := { row := judgeSamesRow, standIns := [], harness := (true, "38cd816b6626f1a3cfb43c62e5da4aed3d7022f943625d991be2003fd9726f92"), looks := true }, kinds := [], alts := [], laidByText := true, laidKinds := [.data, .data, .mapped, .pinned], laidTests := true, laidLooks := .later }
def JudgeSamesCardSaid : Prop := Claim7.holds Tryz.pinned (.plain (OpenSpec.ofChange judgeSamesSpec)) judgeSamesCard

/-- THE TIED CARD OF 'ablautlaw46.JudgeMirror'. -/
def judgeMirrorCard : Claim7 := { stood := { row := judgeMirrorRow, standIns := [], harness := (true, "38cd816b6626f1a3cfb43c62e5da4aed3d7022f943625d991be2003fd9726f92"), looks := true }, kinds := [], alts := [], laidByText := true, laidKinds := [.data, .data, .mapped, .pinned], laidTests := true, laidLooks := .later }
def JudgeMirrorCardSaid : Prop := Claim7.holds Tryz.pinned (.plain (OpenSpec.ofChange judgeMirrorSpec)) judgeMirrorCard

/-- THE SECOND FORM's CARD OF 'ablautlaw44.LabAsks'. -/
def labAsksUptoCard : Claim7 := { stood := { row := labAsksUptoRow, standIns := [], harness := (true, "38cd816b6626f1a3cfb43c62e5da4aed3d7022f943625d991be2003fd9726f92"), looks := true }, kinds := [], alts := [], laidByText := true, laidKinds := [.data, .data, .pinned], laidTests := true, laidLooks := .later }
def LabAsksUptoCardSaid : Prop := Claim7.holds Tryz.pinned (.plain (OpenSpec.upto labAsksSpec)) labAsksUptoCard

/-- THE SECOND FORM's CARD OF 'ablautlaw44.LabFields'. -/
def labFieldsUptoCard : Claim7 := { stood := { row := labFieldsUptoRow, standIns := [], harness := (true, "38cd816b6626f1a3cfb43c62e5da4aed3d7022f943625d991be2003fd9726f92"), looks := true }, kinds := [], alts := [], laidByText := true, laidKinds := [.data, .data, .pinned], laidTests := true, laidLooks := .later }
def LabFieldsUptoCardSaid : Prop := Claim7.holds Tryz.pinned (.plain (OpenSpec.upto labFieldsSpec)) labFieldsUptoCard

/-- THE SECOND FORM's CARD OF 'ablautlaw44.LabSwaps'. -/
def labSwapsUptoCard : Claim7 := { stood := { row := labSwapsUptoRow, standIns := [], harness := (true, "38cd816b6626f1a3cfb43c62e5da4aed3d7022f943625d991be2003fd9726f92"), looks := true }, kinds := [], alts := [], laidByText := true, laidKinds := [.data, .data, .pinned], laidTests := true, laidLooks := .later }
def LabSwapsUptoCardSaid : Prop := Claim7.holds Tryz.pinned (.plain (OpenSpec.upto labSwapsSpec)) labSwapsUptoCard

/-- THE SECOND FORM's CARD OF 'ablautlaw44.LabNews'. -/
def labNewsUptoCard : Claim7 := { stood := { row := labNewsUptoRow, standIns := [], harness := (true, "38cd816b6626f1a3cfb43c62e5da4aed3d7022f943625d991be2003fd9726f92"), looks := true }, kinds := [], alts := [], laidByText := true, laidKinds := [.data, .data, .pinned], laidTests := true, laidLooks := .later }
def LabNewsUptoCardSaid : Prop := Claim7.holds Tryz.pinned (.plain (OpenSpec.upto labNewsSpec)) labNewsUptoCard

/-- THE SECOND FORM's CARD OF 'ablautlaw44.LabUndoes'. -/
def labUndoesUptoCard : Claim7 := { stood := { row := labUndoesUptoRow, standIns := [], harness := (true, "38cd816b6626f1a3cfb43c62e5da4aed3d7022f943625d991be2003fd9726f92"), looks := true }, kinds := [], alts := [], laidByText := true, laidKinds := [.data, .data, .pinned], laidTests := true, laidLooks := .later }
def LabUndoesUptoCardSaid : Prop := Claim7.holds Tryz.pinned (.plain (OpenSpec.upto labUndoesSpec)) labUndoesUptoCard

/-- THE SECOND FORM's CARD OF 'ablautlaw44.LabKeeps'. -/
def labKeepsUptoCard : Claim7 := { stood := { row := labKeepsUptoRow, standIns := [], harness := (true, "38cd816b6626f1a3cfb43c62e5da4aed3d7022f943625d991be2003fd9726f92"), looks := true }, kinds := [], alts := [], laidByText := true, laidKinds := [.data, .data, .pinned], laidTests := true, laidLooks := .later }
def LabKeepsUptoCardSaid : Prop := Claim7.holds Tryz.pinned (.plain (OpenSpec.upto labKeepsSpec)) labKeepsUptoCard

/-- THE SECOND FORM's CARD OF 'ablautlaw44.LabDoes'. -/
def labDoesUptoCard : Claim7 := { stood := { row := labDoesUptoRow, standIns := [], harness := (true, "38cd816b6626f1a3cfb43c62e5da4aed3d7022f943625d991be2003fd9726f92"), looks := true }, kinds := [], alts := [], laidByText := true, laidKinds := [.data, .data, .pinned], laidTests := true, laidLooks := .later }
def LabDoesUptoCardSaid : Prop := Claim7.holds Tryz.pinned (.plain (OpenSpec.upto labDoesSpec)) labDoesUptoCard

/-- THE SECOND FORM's CARD OF 'ablautlaw44.LabNil'. -/
def labNilUptoCard : Claim7 := { stood := { row := labNilUptoRow, standIns := [], harness := (true, "38cd816b6626f1a3cfb43c62e5da4aed3d7022f943625d991be2003fd9726f92"), looks := true }, kinds := [], alts := [], laidByText := true, laidKinds := [.data, .data, .pinned], laidTests := true, laidLooks := .later }
def LabNilUptoCardSaid : Prop := Claim7.holds Tryz.pinned (.plain (OpenSpec.upto labNilSpec)) labNilUptoCard

/-- THE SECOND FORM's CARD OF 'ablautlaw46.JudgePlays'. -/
def judgePlaysUptoCard : Claim7 := { stood := { row := judgePlaysUptoRow, standIns := [], harness := (true, "38cd816b6626f1a3cfb43c62e5da4aed3d7022f943625d991be2003fd9726f92"), looks := true }, kinds := [], alts := [], laidByText := true, laidKinds := [.data, .data, .mapped, .pinned], laidTests := true, laidLooks := .later }
def JudgePlaysUptoCardSaid : Prop := Claim7.holds Tryz.pinned (.plain (OpenSpec.upto judgePlaysSpec)) judgePlaysUptoCard

/-- THE SECOND FORM's CARD OF 'ablautlaw46.JudgeLooks'. -/
def judgeLooksUptoCard : Claim7 := { stood := { row := judgeLooksUptoRow, standIns := [], harness := (true, "38cd816b6626f1a3cfb43c62e5da4aed3d7022f943625d991be2003fd9726f92"), looks := true }, kinds := [], alts := [], laidByText := true, laidKinds := [.data, .data, .mapped, .pinned], laidTests := true, laidLooks := .later }
def JudgeLooksUptoCardSaid : Prop := Claim7.holds Tryz.pinned (.plain (OpenSpec.upto judgeLooksSpec)) judgeLooksUptoCard

/-- THE SECOND FORM's CARD OF 'ablautlaw46.JudgeSames'. -/
def judgeSamesUptoCard : Claim7 := { stood := { row := judgeSamesUptoRow, standIns := [], harness := (true, "38cd816b6626f1a3cfb43c62e5da4aed3d7022f943625d991be2003fd9726f92"), looks := true }, kinds := [], alts := [], laidByText := true, laidKinds := [.data, .data, .mapped, .pinned], laidTests := true, laidLooks := .later }
def JudgeSamesUptoCardSaid : Prop := Claim7.holds Tryz.pinned (.plain (OpenSpec.upto judgeSamesSpec)) judgeSamesUptoCard

/-- THE SECOND FORM's CARD OF 'ablautlaw46.JudgeMirror'. -/
def judgeMirrorUptoCard : Claim7 := { stood := { row := judgeMirrorUptoRow, standIns := [], harness := (true, "38cd816b6626f1a3cfb43c62e5da4aed3d7022f943625d991be2003fd9726f92"), looks := true }, kinds := [], alts := [], laidByText := true, laidKinds := [.data, .data, .mapped, .pinned], laidTests := true, laidLooks := .later }
def JudgeMirrorUptoCardSaid : Prop := Claim7.holds Tryz.pinned (.plain (OpenSpec.upto judgeMirrorSpec)) judgeMirrorUptoCard
end Rows
end Go.Proofs.YtdnmnhllfflkoaaGreatDoor
