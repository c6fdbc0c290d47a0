/-
  DERIVED. GIVEN WITH THE SEED: THE CARDS: each row of YtedhogbocifipaaGreatDoorRows.lean that lists a variable, with what it lists TIED to the program's text (the seventh form; the later family's looks); each row that meets fmt, with fmt's text TOLD by the authors' own Lean function (tested against real Go, not proved from fmt's source: count such statements apart). THE CARD IS WHAT COUNTS. Prove the row's statement (the work); the ties are given (YtedhogbocifipaaGreatDoorTie.lean); close each card by the builder's one call (the guide's Derived/Test/ToyasCard.lean, 'card_holds'). Laid BY PROGRAM, IN A SANDBOX (cutbox-door.mjs). By AI agents, Wed Nov 11 2026. No macro, syntax, notation, axiom, sorry.
-/
import Derived.Test.YtedhogbocifipaaGreatDoorRows
import GoSem.ClaimSeven
namespace Go.Proofs.YtedhogbocifipaaGreatDoor
namespace Rows

/-- THE TIED CARD OF 'ablautlaw08.LawChecks'. -/
def lawChecksCard : Claim7 := { stood := { row := lawChecksRow, standIns := [], harness := (true, "6a618cf2bbec6a0d5e032af2bd9321c61edf65d45adc2e34488f3c3d2842e555"), looks := false }, kinds := [], alts := [], laidByText := true, laidKinds := [.data, .data, .pinned], laidTests := true, laidLooks := .later }
def LawChecksCardSaid : Prop := Claim7.holds Tryz.pinned (.plain (OpenSpec.ofChange lawChecksSpec)) lawChecksCard

/-- THE TIED CARD OF 'ablautlaw08.LawHits'. -/
def lawHitsCard : Claim7 := { stood := { row := lawHitsRow, standIns := [], harness := (true, "6a618cf2bbec6a0d5e032af2bd9321c61edf65d45adc2e34488f3c3d2842e555"), looks := false }, kinds := [], alts := [], laidByText := true, laidKinds := [.data, .data, .pinned], laidTests := true, laidLooks := .later }
def LawHitsCardSaid : Prop := Claim7.holds Tryz.pinned (.plain (OpenSpec.ofChange lawHitsSpec)) lawHitsCard

/-- THE TIED CARD OF 'ablautlaw08.LawTraces'. -/
def lawTracesCard : Claim7 := { stood := { row := lawTracesRow, standIns := [], harness := (true, "6a618cf2bbec6a0d5e032af2bd9321c61edf65d45adc2e34488f3c3d2842e555"), looks := false }, kinds := [], alts := [], laidByText := true, laidKinds := [.data, .data, .pinned], laidTests := true, laidLooks := .later }
def LawTracesCardSaid : Prop := Claim7.holds Tryz.pinned (.plain (OpenSpec.ofChange lawTracesSpec)) lawTracesCard

/-- THE TIED CARD OF 'ablautlaw08.LawLengths'. -/
def lawLengthsCard : Claim7 := { stood := { row := lawLengthsRow, standIns := [], harness := (true, "6a618cf2bbec6a0d5e032af2bd9321c61edf65d45adc2e34488f3c3d2842e555"), looks := false }, kinds := [], alts := [], laidByText := true, laidKinds := [.data, .data, .pinned], laidTests := true, laidLooks := .later }
def LawLengthsCardSaid : Prop := Claim7.holds Tryz.pinned (.plain (OpenSpec.ofChange lawLengthsSpec)) lawLengthsCard

/-- THE TIED CARD OF 'ablautlaw08.LawAlone'. -/
def lawAloneCard : Claim7 := { stood := { row := lawAloneRow, standIns := [], harness := (true, "6a618cf2bbec6a0d5e032af2bd9321c61edf65d45adc2e34488f3c3d2842e555"), looks := false }, kinds := [], alts := [], laidByText := true, laidKinds := [.data, .data, .pinned], laidTests := true, laidLooks := .later }
def LawAloneCardSaid : Prop := Claim7.holds Tryz.pinned (.plain (OpenSpec.ofChange lawAloneSpec)) lawAloneCard

/-- THE TIED CARD OF 'ablautlaw08.LawOnce'. -/
def lawOnceCard : Claim7 := { stood := { row := lawOnceRow, standIns := [], harness := (true, "6a618cf2bbec6a0d5e032af2bd9321c61edf65d45adc2e34488f3c3d2842e555"), looks := false }, kinds := [], alts := [], laidByText := true, laidKinds := [.data, .data, .pinned], laidTests := true, laidLooks := .later }
def LawOnceCardSaid : Prop := Claim7.holds Tryz.pinned (.plain (OpenSpec.ofChange lawOnceSpec)) lawOnceCard

/-- THE TIED CARD OF 'ablautlaw08.LawApplies'. -/
def lawAppliesCard : Claim7 := { stood := { row := lawAppliesRow, standIns := [], harness := (true, "6a618cf2bbec6a0d5e032af2bd9321c61edf65d45adc2e34488f3c3d2842e555"), looks := false }, kinds := [], alts := [], laidByText := true, laidKinds := [.data, .data, .pinned], laidTests := true, laidLooks := .later }
def LawAppliesCardSaid : Prop := Claim7.holds Tryz.pinned (.plain (OpenSpec.ofChange lawAppliesSpec)) lawAppliesCard

/-- THE TIED CARD OF 'ablautlaw08.LawMisses'. -/
def lawMissesCard : Claim7 := { stood := { row := lawMissesRow, standIns := [], harness := (true, "6a618cf2bbec6a0d5e032af2bd9321c61edf65d45adc2e34488f3c3d2842e555"), looks := false }, kinds := [], alts := [], laidByText := true, laidKinds := [.data, .data, .pinned], laidTests := true, laidLooks := .later }
def LawMissesCardSaid : Prop := Claim7.holds Tryz.pinned (.plain (OpenSpec.ofChange lawMissesSpec)) lawMissesCard

/-- THE TIED CARD OF 'ablautlaw08.LawMirrors'. -/
def lawMirrorsCard : Claim7 := { stood := { row := lawMirrorsRow, standIns := [], harness := (true, "6a618cf2bbec6a0d5e032af2bd9321c61edf65d45adc2e34488f3c3d2842e555"), looks := false }, kinds := [], alts := [], laidByText := true, laidKinds := [.data, .data, .pinned], laidTests := true, laidLooks := .later }
def LawMirrorsCardSaid : Prop := Claim7.holds Tryz.pinned (.plain (OpenSpec.ofChange lawMirrorsSpec)) lawMirrorsCard

/-- THE TIED CARD OF 'ablautlaw08.LawEquals'. -/
def lawEqualsCard : Claim7 := { stood := { row := lawEqualsRow, standIns := [], harness := (true, "6a618cf2bbec6a0d5e032af2bd9321c61edf65d45adc2e34488f3c3d2842e555"), looks := false }, kinds := [], alts := [], laidByText := true, laidKinds := [.data, .data, .pinned], laidTests := true, laidLooks := .later }
def LawEqualsCardSaid : Prop := Claim7.holds Tryz.pinned (.plain (OpenSpec.ofChange lawEqualsSpec)) lawEqualsCard

/-- THE TIED CARD OF 'ablautlaw08.LawSettles'. -/
def lawSettlesCard : Claim7 := { stood := { row := lawSettlesRow, standIns := [], harness := (true, "6a618cf2bbec6a0d5e032af2bd9321c61edf65d45adc2e34488f3c3d2842e555"), looks := false }, kinds := [], alts := [], laidByText := true, laidKinds := [.data, .data, .pinned], laidTests := true, laidLooks := .later }
def LawSettlesCardSaid : Prop := Claim7.holds Tryz.pinned (.plain (OpenSpec.ofChange lawSettlesSpec)) lawSettlesCard

/-- THE TIED CARD OF 'ablautlaw08.LawRests'. -/
def lawRestsCard : Claim7 := { stood := { row := lawRestsRow, standIns := [], harness := (true, "6a618cf2bbec6a0d5e032af2bd9321c61edf65d45adc2e34488f3c3d2842e555"), looks := false }, kinds := [], alts := [], laidByText := true, laidKinds := [.data, .data, .pinned], laidTests := true, laidLooks := .later }
def LawRestsCardSaid : Prop := Claim7.holds Tryz.pinned (.plain (OpenSpec.ofChange lawRestsSpec)) lawRestsCard

/-- THE SECOND FORM's CARD OF 'ablautlaw08.LawChecks'. -/
def lawChecksUptoCard : Claim7 := { stood := { row := lawChecksUptoRow, standIns := [], harness := (true, "6a618cf2bbec6a0d5e032af2bd9321c61edf65d45adc2e34488f3c3d2842e555"), looks := false }, kinds := [], alts := [], laidByText := true, laidKinds := [.data, .data, .pinned], laidTests := true, laidLooks := .later }
def LawChecksUptoCardSaid : Prop := Claim7.holds Tryz.pinned (.plain (OpenSpec.upto lawChecksSpec)) lawChecksUptoCard

/-- THE SECOND FORM's CARD OF 'ablautlaw08.LawHits'. -/
def lawHitsUptoCard : Claim7 := { stood := { row := lawHitsUptoRow, standIns := [], harness := (true, "6a618cf2bbec6a0d5e032af2bd9321c61edf65d45adc2e34488f3c3d2842e555"), looks := false }, kinds := [], alts := [], laidByText := true, laidKinds := [.data, .data, .pinned], laidTests := true, laidLooks := .later }
def LawHitsUptoCardSaid : Prop := Claim7.holds Tryz.pinned (.plain (OpenSpec.upto lawHitsSpec)) lawHitsUptoCard

/-- THE SECOND FORM's CARD OF 'ablautlaw08.LawTraces'. -/
def lawTracesUptoCard : Claim7 := { stood := { row := lawTracesUptoRow, standIns := [], harness := (true, "6a618cf2bbec6a0d5e032af2bd9321c61edf65d45adc2e34488f3c3d2842e555"), looks := false }, kinds := [], alts := [], laidByText := true, laidKinds := [.data, .data, .pinned], laidTests := true, laidLooks := .later }
def LawTracesUptoCardSaid : Prop := Claim7.holds Tryz.pinned (.plain (OpenSpec.upto lawTracesSpec)) lawTracesUptoCard

/-- THE SECOND FORM's CARD OF 'ablautlaw08.LawLengths'. -/
def lawLengthsUptoCard : Claim7 := { stood := { row := lawLengthsUptoRow, standIns := [], harness := (true, "6a618cf2bbec6a0d5e032af2bd9321c61edf65d45adc2e34488f3c3d2842e555"), looks := false }, kinds := [], alts := [], laidByText := true, laidKinds := [.data, .data, .pinned], laidTests := true, laidLooks := .later }
def LawLengthsUptoCardSaid : Prop := Claim7.holds Tryz.pinned (.plain (OpenSpec.upto lawLengthsSpec)) lawLengthsUptoCard

/-- THE SECOND FORM's CARD OF 'ablautlaw08.LawAlone'. -/
def lawAloneUptoCard : Claim7 := { stood := { row := lawAloneUptoRow, standIns := [], harness := (true, "6a618cf2bbec6a0d5e032af2bd9321c61edf65d45adc2e34488f3c3d2842e555"), looks := false }, kinds := [], alts := [], laidByText := true, laidKinds := [.data, .data, .pinned], laidTests := true, laidLooks := .later }
def LawAloneUptoCardSaid : Prop := Claim7.holds Tryz.pinned (.plain (OpenSpec.upto lawAloneSpec)) lawAloneUptoCard

/-- THE SECOND FORM's CARD OF 'ablautlaw08.LawOnce'. -/
def lawOnceUptoCard : Claim7 := { stood := { row := lawOnceUptoRow, standIns := [], harness := (true, "6a618cf2bbec6a0d5e032af2bd9321c61edf65d45adc2e34488f3c3d2842e555"), looks := false }, kinds := [], alts := [], laidByText := true, laidKinds := [.data, .data, .pinned], laidTests := true, laidLooks := .later }
def LawOnceUptoCardSaid : Prop := Claim7.holds Tryz.pinned (.plain (OpenSpec.upto lawOnceSpec)) lawOnceUptoCard

/-- THE SECOND FORM's CARD OF 'ablautlaw08.LawApplies'. -/
def lawAppliesUptoCard : Claim7 := { stood := { row := lawAppliesUptoRow, standIns := [], harness := (true, "6a618cf2bbec6a0d5e032af2bd9321c61edf65d45adc2e34488f3c3d2842e555"), looks := false }, kinds := [], alts := [], laidByText := true, laidKinds := [.data, .data, .pinned], laidTests := true, laidLooks := .later }
def LawAppliesUptoCardSaid : Prop := Claim7.holds Tryz.pinned (.plain (OpenSpec.upto lawAppliesSpec)) lawAppliesUptoCard

/-- THE SECOND FORM's CARD OF 'ablautlaw08.LawMisses'. -/
def lawMissesUptoCard : Claim7 := { stood := { row := lawMissesUptoRow, standIns := [], harness := (true, "6a618cf2bbec6a0d5e032af2bd9321c61edf65d45adc2e34488f3c3d2842e555"), looks := false }, kinds := [], alts := [], laidByText := true, laidKinds := [.data, .data, .pinned], laidTests := true, laidLooks := .later }
def LawMissesUptoCardSaid : Prop := Claim7.holds Tryz.pinned (.plain (OpenSpec.upto lawMissesSpec)) lawMissesUptoCard

/-- THE SECOND FORM's CARD OF 'ablautlaw08.LawMirrors'. -/
def lawMirrorsUptoCard : Claim7 := { stood := { row := lawMirrorsUptoRow, standIns := [], harness := (true, "6a618cf2bbec6a0d5e032af2bd9321c61edf65d45adc2e34488f3c3d2842e555"), looks := false }, kinds := [], alts := [], laidByText := true, laidKinds := [.data, .data, .pinned], laidTests := true, laidLooks := .later }
def LawMirrorsUptoCardSaid : Prop := Claim7.holds Tryz.pinned (.plain (OpenSpec.upto lawMirrorsSpec)) lawMirrorsUptoCard

/-- THE SECOND FORM's CARD OF 'ablautlaw08.LawEquals'. -/
def lawEqualsUptoCard : Claim7 := { stood := { row := lawEqualsUptoRow, standIns := [], harness := (true, "6a618cf2bbec6a0d5e032af2bd9321c61edf65d45adc2e34488f3c3d2842e555"), looks := false }, kinds := [], alts := [], laidByText := true, laidKinds := [.data, .data, .pinned], laidTests := true, laidLooks := .later }
def LawEqualsUptoCardSaid : Prop := Claim7.holds Tryz.pinned (.plain (OpenSpec.upto lawEqualsSpec)) lawEqualsUptoCard

/-- THE SECOND FORM's CARD OF 'ablautlaw08.LawSettles'. -/
def lawSettlesUptoCard : Claim7 := { stood := { row := lawSettlesUptoRow, standIns := [], harness := (true, "6a618cf2bbec6a0d5e032af2bd9321c61edf65d45adc2e34488f3c3d2842e555"), looks := false }, kinds := [], alts := [], laidByText := true, laidKinds := [.data, .data, .pinned], laidTests := true, laidLooks := .later }
def LawSettlesUptoCardSaid : Prop := Claim7.holds Tryz.pinned (.plain (OpenSpec.upto lawSettlesSpec)) lawSettlesUptoCard

/-- THE SECOND FORM's CARD OF 'ablautlaw08.LawRests'. -/
def lawRestsUptoCard : Claim7 := { stood := { row := lawRestsUptoRow, standIns := [], harness := (true, "6a618cf2bbec6a0d5e032af2bd9321c61edf65d45adc2e34488f3c3d2842e555"), looks := false }, kinds := [], alts := [], laidByText := true, laidKinds := [.data, .data, .pinned], laidTests := true, laidLooks := .later }
def LawRestsUptoCardSaid : Prop := Claim7.holds Tryz.pinned (.plain (OpenSpec.upto lawRestsSpec)) lawRestsUptoCard
end Rows
end Go.Proofs.YtedhogbocifipaaGreatDoor
