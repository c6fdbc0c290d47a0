/-
  DERIVED. GIVEN WITH THE SEED: THE CARDS: each row of YtedeckeahmkheaaGreatDoorRows.lean that lists a variable, with what it lists TIED to the program's text (the seventh form; the later family's looks); each row that meets fmt, with fmt's text TOLD by the authors' own Lean function (tested against real Go, not proved from fmt's source: count such statements apart). THE CARD IS WHAT COUNTS. Prove the row's statement (the work); the ties are given (YtedeckeahmkheaaGreatDoorTie.lean); close each card by the builder's one call (the guide's Derived/Test/ToyasCard.lean, 'card_holds'). Laid BY PROGRAM, IN A SANDBOX (cutbox-door.mjs). By AI agents, Wed Nov 11 2026. No macro, syntax, notation, axiom, sorry.
-/
import Derived.Test.YtedeckeahmkheaaGreatDoorRows
import GoSem.ClaimSeven
namespace Go.Proofs.YtedeckeahmkheaaGreatDoor
namespace Rows

/-- THE TIED CARD OF 'ablautlaw08.LawKnown'. -/
def lawKnownCard : Claim7 := { stood := { row := lawKnownRow, standIns := [], harness := (true, "9f2748bac304cfd3ed368acaf1b549c2a4f4103ac535fbf9eca9284562de149c"), looks := false }, kinds := [], alts := [], laidByText := true, laidKinds := [.data, .data, .pinned], laidTests := true, laidLooks := .later }
def LawKnownCardSaid : Prop := Claim7.holds Tryz.pinned (.plain (OpenSpec.ofChange lawKnownSpec)) lawKnownCard

/-- THE SECOND FORM's CARD OF 'ablautlaw08.LawKnown'. -/
def lawKnownUptoCard : Claim7 := { stood := { row := lawKnownUptoRow, standIns := [], harness := (true, "9f2748bac304cfd3ed368acaf1b549c2a4f4103ac535fbf9eca9284562de149c"), looks := false }, kinds := [], alts := [], laidByText := true, laidKinds := [.data, .data, .pinned], laidTests := true, laidLooks := .later }
def LawKnownUptoCardSaid : Prop := Claim7.holds Tryz.pinned (.plain (OpenSpec.upto lawKnownSpec)) lawKnownUptoCard
end Rows
end Go.Proofs.YtedeckeahmkheaaGreatDoor
