/-
  DERIVED. GIVEN WITH THE SEED: THE CARDS: each row of YtapfoaiibjdfnaaDoorRows.lean that lists a variable, with what it lists TIED to the program's text (the seventh form; the later family's looks); each row that meets fmt, with fmt's text TOLD by the authors' own Lean function (tested against real Go, not proved from fmt's source: count such statements apart). THE CARD IS WHAT COUNTS. Prove the row's statement (the work); the ties are given (YtapfoaiibjdfnaaDoorTie.lean); close each card by the builder's one call (the guide's Derived/Test/ToyasCard.lean, 'card_holds'). Laid BY PROGRAM, IN A SANDBOX (cutbox-door.mjs). By AI agents, Wed Nov 11 2026. No macro, syntax, notation, axiom, sorry.
-/
import Derived.Test.YtapfoaiibjdfnaaDoorRows
import GoSem.ClaimSeven
namespace Go.Proofs.YtapfoaiibjdfnaaDoor
namespace Rows

/-- THE TIED CARD OF 'ablautlaw06.PatsEnds'. -/
def patsEndsCard : Claim7 := { stood := { row := patsEndsRow, standIns := [], harness := (true, "a1de237cbcb15a75ae04468e3834c18522ab85e198a1f270054287443ccdfffc"), looks := false }, kinds := [], alts := [], laidByText := true, laidKinds := [.data], laidTests := true, laidLooks := .later }
def PatsEndsCardSaid : Prop := Claim7.holds Tryd.pinned (.plain (OpenSpec.ofChange patsEndsSpec)) patsEndsCard

/-- THE TIED CARD OF 'ablautlaw06.PatsFinds'. -/
def patsFindsCard : Claim7 := { stood := { row := patsFindsRow, standIns := [], harness := (true, "a1de237cbcb15a75ae04468e3834c18522ab85e198a1f270054287443ccdfffc"), looks := false }, kinds := [], alts := [], laidByText := true, laidKinds := [.data], laidTests := true, laidLooks := .later }
def PatsFindsCardSaid : Prop := Claim7.holds Tryd.pinned (.plain (OpenSpec.ofChange patsFindsSpec)) patsFindsCard

/-- THE TIED CARD OF 'ablautlaw06.PatsBoth'. -/
def patsBothCard : Claim7 := { stood := { row := patsBothRow, standIns := [], harness := (true, "a1de237cbcb15a75ae04468e3834c18522ab85e198a1f270054287443ccdfffc"), looks := false }, kinds := [], alts := [], laidByText := true, laidKinds := [.data], laidTests := true, laidLooks := .later }
def PatsBothCardSaid : Prop := Claim7.holds Tryd.pinned (.plain (OpenSpec.ofChange patsBothSpec)) patsBothCard

/-- THE TIED CARD OF 'ablautlaw06.PatsEmpty'. -/
def patsEmptyCard : Claim7 := { stood := { row := patsEmptyRow, standIns := [], harness := (true, "a1de237cbcb15a75ae04468e3834c18522ab85e198a1f270054287443ccdfffc"), looks := false }, kinds := [], alts := [], laidByText := true, laidKinds := [.data], laidTests := true, laidLooks := .later }
def PatsEmptyCardSaid : Prop := Claim7.holds Tryd.pinned (.plain (OpenSpec.ofChange patsEmptySpec)) patsEmptyCard

/-- THE TIED CARD OF 'ablautlaw06.PatsFirst'. -/
def patsFirstCard : Claim7 := { stood := { row := patsFirstRow, standIns := [], harness := (true, "a1de237cbcb15a75ae04468e3834c18522ab85e198a1f270054287443ccdfffc"), looks := false }, kinds := [], alts := [], laidByText := true, laidKinds := [.data], laidTests := true, laidLooks := .later }
def PatsFirstCardSaid : Prop := Claim7.holds Tryd.pinned (.plain (OpenSpec.ofChange patsFirstSpec)) patsFirstCard

/-- THE TIED CARD OF 'ablautlaw06.PatsSums'. -/
def patsSumsCard : Claim7 := { stood := { row := patsSumsRow, standIns := [], harness := (true, "a1de237cbcb15a75ae04468e3834c18522ab85e198a1f270054287443ccdfffc"), looks := false }, kinds := [], alts := [], laidByText := true, laidKinds := [.data], laidTests := true, laidLooks := .later }
def PatsSumsCardSaid : Prop := Claim7.holds Tryd.pinned (.plain (OpenSpec.ofChange patsSumsSpec)) patsSumsCard

/-- THE TIED CARD OF 'ablautlaw06.PatsTimes'. -/
def patsTimesCard : Claim7 := { stood := { row := patsTimesRow, standIns := [], harness := (true, "a1de237cbcb15a75ae04468e3834c18522ab85e198a1f270054287443ccdfffc"), looks := false }, kinds := [], alts := [], laidByText := true, laidKinds := [.data], laidTests := true, laidLooks := .later }
def PatsTimesCardSaid : Prop := Claim7.holds Tryd.pinned (.plain (OpenSpec.ofChange patsTimesSpec)) patsTimesCard

/-- THE TIED CARD OF 'ablautlaw06.PatsChecks'. -/
def patsChecksCard : Claim7 := { stood := { row := patsChecksRow, standIns := [], harness := (true, "a1de237cbcb15a75ae04468e3834c18522ab85e198a1f270054287443ccdfffc"), looks := false }, kinds := [], alts := [], laidByText := true, laidKinds := [.data], laidTests := true, laidLooks := .later }
def PatsChecksCardSaid : Prop := Claim7.holds Tryd.pinned (.plain (OpenSpec.ofChange patsChecksSpec)) patsChecksCard

/-- THE TIED CARD OF 'ablautlaw06.PatsMirrors'. -/
def patsMirrorsCard : Claim7 := { stood := { row := patsMirrorsRow, standIns := [], harness := (true, "a1de237cbcb15a75ae04468e3834c18522ab85e198a1f270054287443ccdfffc"), looks := false }, kinds := [], alts := [], laidByText := true, laidKinds := [.data], laidTests := true, laidLooks := .later }
def PatsMirrorsCardSaid : Prop := Claim7.holds Tryd.pinned (.plain (OpenSpec.ofChange patsMirrorsSpec)) patsMirrorsCard

/-- THE TIED CARD OF 'ablautlaw06.PatsKnown'. -/
def patsKnownCard : Claim7 := { stood := { row := patsKnownRow, standIns := [], harness := (true, "a1de237cbcb15a75ae04468e3834c18522ab85e198a1f270054287443ccdfffc"), looks := false }, kinds := [], alts := [], laidByText := true, laidKinds := [.data], laidTests := true, laidLooks := .later }
def PatsKnownCardSaid : Prop := Claim7.holds Tryd.pinned (.plain (OpenSpec.ofChange patsKnownSpec)) patsKnownCard

/-- THE TIED CARD OF 'ablautlaw06.PatsBack'. -/
def patsBackCard : Claim7 := { stood := { row := patsBackRow, standIns := [], harness := (true, "a1de237cbcb15a75ae04468e3834c18522ab85e198a1f270054287443ccdfffc"), looks := false }, kinds := [], alts := [], laidByText := true, laidKinds := [.data], laidTests := true, laidLooks := .later }
def PatsBackCardSaid : Prop := Claim7.holds Tryd.pinned (.plain (OpenSpec.ofChange patsBackSpec)) patsBackCard

/-- THE SECOND FORM's CARD OF 'ablautlaw06.PatsEnds'. -/
def patsEndsUptoCard : Claim7 := { stood := { row := patsEndsUptoRow, standIns := [], harness := (true, "a1de237cbcb15a75ae04468e3834c18522ab85e198a1f270054287443ccdfffc"), looks := false }, kinds := [], alts := [], laidByText := true, laidKinds := [.data], laidTests := true, laidLooks := .later }
def PatsEndsUptoCardSaid : Prop := Claim7.holds Tryd.pinned (.plain (OpenSpec.upto patsEndsSpec)) patsEndsUptoCard

/-- THE SECOND FORM's CARD OF 'ablautlaw06.PatsFinds'. -/
def patsFindsUptoCard : Claim7 := { stood := { row := patsFindsUptoRow, standIns := [], harness := (true, "a1de237cbcb15a75ae04468e3834c18522ab85e198a1f270054287443ccdfffc"), looks := false }, kinds := [], alts := [], laidByText := true, laidKinds := [.data], laidTests := true, laidLooks := .later }
def PatsFindsUptoCardSaid : Prop := Claim7.holds Tryd.pinned (.plain (OpenSpec.upto patsFindsSpec)) patsFindsUptoCard

/-- THE SECOND FORM's CARD OF 'ablautlaw06.PatsBoth'. -/
def patsBothUptoCard : Claim7 := { stood := { row := patsBothUptoRow, standIns := [], harness := (true, "a1de237cbcb15a75ae04468e3834c18522ab85e198a1f270054287443ccdfffc"), looks := false }, kinds := [], alts := [], laidByText := true, laidKinds := [.data], laidTests := true, laidLooks := .later }
def PatsBothUptoCardSaid : Prop := Claim7.holds Tryd.pinned (.plain (OpenSpec.upto patsBothSpec)) patsBothUptoCard

/-- THE SECOND FORM's CARD OF 'ablautlaw06.PatsEmpty'. -/
def patsEmptyUptoCard : Claim7 := { stood := { row := patsEmptyUptoRow, standIns := [], harness := (true, "a1de237cbcb15a75ae04468e3834c18522ab85e198a1f270054287443ccdfffc"), looks := false }, kinds := [], alts := [], laidByText := true, laidKinds := [.data], laidTests := true, laidLooks := .later }
def PatsEmptyUptoCardSaid : Prop := Claim7.holds Tryd.pinned (.plain (OpenSpec.upto patsEmptySpec)) patsEmptyUptoCard

/-- THE SECOND FORM's CARD OF 'ablautlaw06.PatsFirst'. -/
def patsFirstUptoCard : Claim7 := { stood := { row := patsFirstUptoRow, standIns := [], harness := (true, "a1de237cbcb15a75ae04468e3834c18522ab85e198a1f270054287443ccdfffc"), looks := false }, kinds := [], alts := [], laidByText := true, laidKinds := [.data], laidTests := true, laidLooks := .later }
def PatsFirstUptoCardSaid : Prop := Claim7.holds Tryd.pinned (.plain (OpenSpec.upto patsFirstSpec)) patsFirstUptoCard

/-- THE SECOND FORM's CARD OF 'ablautlaw06.PatsSums'. -/
def patsSumsUptoCard : Claim7 := { stood := { row := patsSumsUptoRow, standIns := [], harness := (true, "a1de237cbcb15a75ae04468e3834c18522ab85e198a1f270054287443ccdfffc"), looks := false }, kinds := [], alts := [], laidByText := true, laidKinds := [.data], laidTests := true, laidLooks := .later }
def PatsSumsUptoCardSaid : Prop := Claim7.holds Tryd.pinned (.plain (OpenSpec.upto patsSumsSpec)) patsSumsUptoCard

/-- THE SECOND FORM's CARD OF 'ablautlaw06.PatsTimes'. -/
def patsTimesUptoCard : Claim7 := { stood := { row := patsTimesUptoRow, standIns := [], harness := (true, "a1de237cbcb15a75ae04468e3834c18522ab85e198a1f270054287443ccdfffc"), looks := false }, kinds := [], alts := [], laidByText := true, laidKinds := [.data], laidTests := true, laidLooks := .later }
def PatsTimesUptoCardSaid : Prop := Claim7.holds Tryd.pinned (.plain (OpenSpec.upto patsTimesSpec)) patsTimesUptoCard

/-- THE SECOND FORM's CARD OF 'ablautlaw06.PatsChecks'. -/
def patsChecksUptoCard : Claim7 := { stood := { row := patsChecksUptoRow, standIns := [], harness := (true, "a1de237cbcb15a75ae04468e3834c18522ab85e198a1f270054287443ccdfffc"), looks := false }, kinds := [], alts := [], laidByText := true, laidKinds := [.data], laidTests := true, laidLooks := .later }
def PatsChecksUptoCardSaid : Prop := Claim7.holds Tryd.pinned (.plain (OpenSpec.upto patsChecksSpec)) patsChecksUptoCard

/-- THE SECOND FORM's CARD OF 'ablautlaw06.PatsMirrors'. -/
def patsMirrorsUptoCard : Claim7 := { stood := { row := patsMirrorsUptoRow, standIns := [], harness := (true, "a1de237cbcb15a75ae04468e3834c18522ab85e198a1f270054287443ccdfffc"), looks := false }, kinds := [], alts := [], laidByText := true, laidKinds := [.data], laidTests := true, laidLooks := .later }
def PatsMirrorsUptoCardSaid : Prop := Claim7.holds Tryd.pinned (.plain (OpenSpec.upto patsMirrorsSpec)) patsMirrorsUptoCard

/-- THE SECOND FORM's CARD OF 'ablautlaw06.PatsKnown'. -/
def patsKnownUptoCard : Claim7 := { stood := { row := patsKnownUptoRow, standIns := [], harness := (true, "a1de237cbcb15a75ae04468e3834c18522ab85e198a1f270054287443ccdfffc"), looks := false }, kinds := [], alts := [], laidByText := true, laidKinds := [.data], laidTests := true, laidLooks := .later }
def PatsKnownUptoCardSaid : Prop := Claim7.holds Tryd.pinned (.plain (OpenSpec.upto patsKnownSpec)) patsKnownUptoCard

/-- THE SECOND FORM's CARD OF 'ablautlaw06.PatsBack'. -/
def patsBackUptoCard : Claim7 := { stood := { row := patsBackUptoRow, standIns := [], harness := (true, "a1de237cbcb15a75ae04468e3834c18522ab85e198a1f270054287443ccdfffc"), looks := false }, kinds := [], alts := [], laidByText := true, laidKinds := [.data], laidTests := true, laidLooks := .later }
def PatsBackUptoCardSaid : Prop := Claim7.holds Tryd.pinned (.plain (OpenSpec.upto patsBackSpec)) patsBackUptoCard
end Rows
end Go.Proofs.YtapfoaiibjdfnaaDoor
