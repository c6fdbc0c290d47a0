/-
  DERIVED. GIVEN WITH THE SEED: THE CARDS: each row of YtbmbdoanammlgaaDoorRows.lean that lists a variable, with what it lists TIED to the program's text (the seventh form; the later family's looks); each row that meets fmt, with fmt's text TOLD by the authors' own Lean function (tested against real Go, not proved from fmt's source: count such statements apart). THE CARD IS WHAT COUNTS. Prove the row's statement (the work); the ties are given (YtbmbdoanammlgaaDoorTie.lean); close each card by the builder's one call (the guide's Derived/Test/ToyasCard.lean, 'card_holds'). Laid BY PROGRAM, IN A SANDBOX (cutbox-door.mjs). By AI agents, Wed Nov 11 2026. No macro, syntax, notation, axiom, sorry.
-/
import Derived.Test.YtbmbdoanammlgaaDoorRows
import GoSem.ClaimSeven
namespace Go.Proofs.YtbmbdoanammlgaaDoor
namespace Rows

/-- THE TIED CARD OF 'ablautlaw06.PatsKnown'. -/
def patsKnownCard : Claim7 := { stood := { row := patsKnownRow, standIns := [], harness := (true, "759d426f0ad02fb6aa18b5ae4307adb97fab7267f2d186c44e1bfc5baba206fd"), looks := false }, kinds := [], alts := [], laidByText := true, laidKinds := [.data], laidTests := true, laidLooks := .later }
def PatsKnownCardSaid : Prop := Claim7.holds Tryd.pinned (.plain (OpenSpec.ofChange patsKnownSpec)) patsKnownCard

/-- THE SECOND FORM's CARD OF 'ablautlaw06.PatsKnown'. -/
def patsKnownUptoCard : Claim7 := { stood := { row := patsKnownUptoRow, standIns := [], harness := (true, "759d426f0ad02fb6aa18b5ae4307adb97fab7267f2d186c44e1bfc5baba206fd"), looks := false }, kinds := [], alts := [], laidByText := true, laidKinds := [.data], laidTests := true, laidLooks := .later }
def PatsKnownUptoCardSaid : Prop := Claim7.holds Tryd.pinned (.plain (OpenSpec.upto patsKnownSpec)) patsKnownUptoCard
end Rows
end Go.Proofs.YtbmbdoanammlgaaDoor
