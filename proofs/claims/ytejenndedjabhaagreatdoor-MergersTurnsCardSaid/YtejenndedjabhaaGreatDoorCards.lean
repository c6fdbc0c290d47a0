/-
  DERIVED. GIVEN WITH THE SEED: THE CARDS: each row of YtejenndedjabhaaGreatDoorRows.lean that lists a variable, with what it lists TIED to the program's text (the seventh form; the later family's looks); each row that meets fmt, with fmt's text TOLD by the authors' own Lean function (tested against real Go, not proved from fmt's source: count such statements apart). THE CARD IS WHAT COUNTS. Prove the row's statement (the work); the ties are given (YtejenndedjabhaaGreatDoorTie.lean); close each card by the builder's one call (the guide's Derived/Test/ToyasCard.lean, 'card_holds'). Laid BY PROGRAM, IN A SANDBOX (cutbox-door.mjs). By AI agents, Wed Nov 11 2026. No macro, syntax, notation, axiom, sorry.
-/
import Derived.Test.YtejenndedjabhaaGreatDoorRows
import GoSem.ClaimSeven
namespace Go.Proofs.YtejenndedjabhaaGreatDoor
namespace Rows

/-- THE TIED CARD OF 'ablautlaw15.MergersOutcomes'. -/
def mergersOutcomesCard : Claim7 := { stood := { row := mergersOutcomesRow, standIns := [], harness := (true, "af83aa01b04666d6bf81d025eac8250eed1f7e3567fa6065ce4fba1a1348e6ef"), looks := true }, kinds := [], alts := [], laidByText := true, laidKinds := [.data, .data, .pinned], laidTests := true, laidLooks := .later }
def MergersOutcomesCardSaid : Prop := Claim7.holds Tryz.pinned (.plain (OpenSpec.ofChange mergersOutcomesSpec)) mergersOutcomesCard

/-- THE TIED CARD OF 'ablautlaw15.MergersSounds'. -/
def mergersSoundsCard : Claim7 := { stood := { row := mergersSoundsRow, standIns := [], harness := (true, "af83aa01b04666d6bf81d025eac8250eed1f7e3567fa6065ce4fba1a1348e6ef"), looks := true }, kinds := [], alts := [], laidByText := true, laidKinds := [.data, .data, .pinned], laidTests := true, laidLooks := .later }
def MergersSoundsCardSaid : Prop := Claim7.holds Tryz.pinned (.plain (OpenSpec.ofChange mergersSoundsSpec)) mergersSoundsCard

/-- THE TIED CARD OF 'ablautlaw15.MergersMore'. -/
def mergersMoreCard : Claim7 := { stood := { row := mergersMoreRow, standIns := [], harness := (true, "af83aa01b04666d6bf81d025eac8250eed1f7e3567fa6065ce4fba1a1348e6ef"), looks := true }, kinds := [], alts := [], laidByText := true, laidKinds := [.data, .data, .pinned], laidTests := true, laidLooks := .later }
def MergersMoreCardSaid : Prop := Claim7.holds Tryz.pinned (.plain (OpenSpec.ofChange mergersMoreSpec)) mergersMoreCard

/-- THE TIED CARD OF 'ablautlaw15.MergersSizes'. -/
def mergersSizesCard : Claim7 := { stood := { row := mergersSizesRow, standIns := [], harness := (true, "af83aa01b04666d6bf81d025eac8250eed1f7e3567fa6065ce4fba1a1348e6ef"), looks := true }, kinds := [], alts := [], laidByText := true, laidKinds := [.data, .data, .pinned], laidTests := true, laidLooks := .later }
def MergersSizesCardSaid : Prop := Claim7.holds Tryz.pinned (.plain (OpenSpec.ofChange mergersSizesSpec)) mergersSizesCard

/-- THE TIED CARD OF 'ablautlaw15.MergersChains'. -/
def mergersChainsCard : Claim7 := { stood := { row := mergersChainsRow, standIns := [], harness := (true, "af83aa01b04666d6bf81d025eac8250eed1f7e3567fa6065ce4fba1a1348e6ef"), looks := true }, kinds := [], alts := [], laidByText := true, laidKinds := [.data, .data, .pinned], laidTests := true, laidLooks := .later }
def MergersChainsCardSaid : Prop := Claim7.holds Tryz.pinned (.plain (OpenSpec.ofChange mergersChainsSpec)) mergersChainsCard

/-- THE TIED CARD OF 'ablautlaw15.MergersFrames'. -/
def mergersFramesCard : Claim7 := { stood := { row := mergersFramesRow, standIns := [], harness := (true, "af83aa01b04666d6bf81d025eac8250eed1f7e3567fa6065ce4fba1a1348e6ef"), looks := true }, kinds := [], alts := [], laidByText := true, laidKinds := [.data, .data, .pinned], laidTests := true, laidLooks := .later }
def MergersFramesCardSaid : Prop := Claim7.holds Tryz.pinned (.plain (OpenSpec.ofChange mergersFramesSpec)) mergersFramesCard

/-- THE TIED CARD OF 'ablautlaw15.MergersSteps'. -/
def mergersStepsCard : Claim7 := { stood := { row := mergersStepsRow, standIns := [], harness := (true, "af83aa01b04666d6bf81d025eac8250eed1f7e3567fa6065ce4fba1a1348e6ef"), looks := true }, kinds := [], alts := [], laidByText := true, laidKinds := [.data, .data, .pinned], laidTests := true, laidLooks := .later }
def MergersStepsCardSaid : Prop := Claim7.holds Tryz.pinned (.plain (OpenSpec.ofChange mergersStepsSpec)) mergersStepsCard

/-- THE TIED CARD OF 'ablautlaw15.MergersLabels'. -/
def mergersLabelsCard : Claim7 := { stood := { row := mergersLabelsRow, standIns := [], harness := (true, "af83aa01b04666d6bf81d025eac8250eed1f7e3567fa6065ce4fba1a1348e6ef"), looks := true }, kinds := [], alts := [], laidByText := true, laidKinds := [.data, .data, .pinned], laidTests := true, laidLooks := .later }
def MergersLabelsCardSaid : Prop := Claim7.holds Tryz.pinned (.plain (OpenSpec.ofChange mergersLabelsSpec)) mergersLabelsCard

/-- THE TIED CARD OF 'ablautlaw15.MergersPhonemes'. -/
def mergersPhonemesCard : Claim7 := { stood := { row := mergersPhonemesRow, standIns := [], harness := (true, "af83aa01b04666d6bf81d025eac8250eed1f7e3567fa6065ce4fba1a1348e6ef"), looks := true }, kinds := [], alts := [], laidByText := true, laidKinds := [.data, .data, .pinned], laidTests := true, laidLooks := .later }
def MergersPhonemesCardSaid : Prop := Claim7.holds Tryz.pinned (.plain (OpenSpec.ofChange mergersPhonemesSpec)) mergersPhonemesCard

/-- THE TIED CARD OF 'ablautlaw15.MergersNothing'. -/
def mergersNothingCard : Claim7 := { stood := { row := mergersNothingRow, standIns := [], harness := (true, "af83aa01b04666d6bf81d025eac8250eed1f7e3567fa6065ce4fba1a1348e6ef"), looks := true }, kinds := [], alts := [], laidByText := true, laidKinds := [.data, .data, .pinned], laidTests := true, laidLooks := .later }
def MergersNothingCardSaid : Prop := Claim7.holds Tryz.pinned (.plain (OpenSpec.ofChange mergersNothingSpec)) mergersNothingCard

/-- THE TIED CARD OF 'ablautlaw15.MergersMany'. -/
def mergersManyCard : Claim7 := { stood := { row := mergersManyRow, standIns := [], harness := (true, "af83aa01b04666d6bf81d025eac8250eed1f7e3567fa6065ce4fba1a1348e6ef"), looks := true }, kinds := [], alts := [], laidByText := true, laidKinds := [.data, .data, .pinned], laidTests := true, laidLooks := .later }
def MergersManyCardSaid : Prop := Claim7.holds Tryz.pinned (.plain (OpenSpec.ofChange mergersManySpec)) mergersManyCard

/-- THE TIED CARD OF 'ablautlaw15.MergersTurns'. -/
def mergersTurnsCard : Claim7 := { stood := { row := mergersTurnsRow, standIns := [], harness := (true, "af83aa01b04666d6bf81d025eac8250eed1f7e3567fa6065ce4fba1a1348e6ef"), looks := true }, kinds := [], alts := [], laidByText := true, laidKinds := [.data, .data, .pinned], laidTests := true, laidLooks := .later }
def MergersTurnsCardSaid : Prop := Claim7.holds Tryz.pinned (.plain (OpenSpec.ofChange mergersTurnsSpec)) mergersTurnsCard

/-- THE SECOND FORM's CARD OF 'ablautlaw15.MergersOutcomes'. -/
def mergersOutcomesUptoCard : Claim7 := { stood := { row := mergersOutcomesUptoRow, standIns := [], harness := (true, "af83aa01b04666d6bf81d025eac8250eed1f7e3567fa6065ce4fba1a1348e6ef"), looks := true }, kinds := [], alts := [], laidByText := true, laidKinds := [.data, .data, .pinned], laidTests := true, laidLooks := .later }
def MergersOutcomesUptoCardSaid : Prop := Claim7.holds Tryz.pinned (.plain (OpenSpec.upto mergersOutcomesSpec)) mergersOutcomesUptoCard

/-- THE SECOND FORM's CARD OF 'ablautlaw15.MergersSounds'. -/
def mergersSoundsUptoCard : Claim7 := { stood := { row := mergersSoundsUptoRow, standIns := [], harness := (true, "af83aa01b04666d6bf81d025eac8250eed1f7e3567fa6065ce4fba1a1348e6ef"), looks := true }, kinds := [], alts := [], laidByText := true, laidKinds := [.data, .data, .pinned], laidTests := true, laidLooks := .later }
def MergersSoundsUptoCardSaid : Prop := Claim7.holds Tryz.pinned (.plain (OpenSpec.upto mergersSoundsSpec)) mergersSoundsUptoCard

/-- THE SECOND FORM's CARD OF 'ablautlaw15.MergersMore'. -/
def mergersMoreUptoCard : Claim7 := { stood := { row := mergersMoreUptoRow, standIns := [], harness := (true, "af83aa01b04666d6bf81d025eac8250eed1f7e3567fa6065ce4fba1a1348e6ef"), looks := true }, kinds := [], alts := [], laidByText := true, laidKinds := [.data, .data, .pinned], laidTests := true, laidLooks := .later }
def MergersMoreUptoCardSaid : Prop := Claim7.holds Tryz.pinned (.plain (OpenSpec.upto mergersMoreSpec)) mergersMoreUptoCard

/-- THE SECOND FORM's CARD OF 'ablautlaw15.MergersSizes'. -/
def mergersSizesUptoCard : Claim7 := { stood := { row := mergersSizesUptoRow, standIns := [], harness := (true, "af83aa01b04666d6bf81d025eac8250eed1f7e3567fa6065ce4fba1a1348e6ef"), looks := true }, kinds := [], alts := [], laidByText := true, laidKinds := [.data, .data, .pinned], laidTests := true, laidLooks := .later }
def MergersSizesUptoCardSaid : Prop := Claim7.holds Tryz.pinned (.plain (OpenSpec.upto mergersSizesSpec)) mergersSizesUptoCard

/-- THE SECOND FORM's CARD OF 'ablautlaw15.MergersChains'. -/
def mergersChainsUptoCard : Claim7 := { stood := { row := mergersChainsUptoRow, standIns := [], harness := (true, "af83aa01b04666d6bf81d025eac8250eed1f7e3567fa6065ce4fba1a1348e6ef"), looks := true }, kinds := [], alts := [], laidByText := true, laidKinds := [.data, .data, .pinned], laidTests := true, laidLooks := .later }
def MergersChainsUptoCardSaid : Prop := Claim7.holds Tryz.pinned (.plain (OpenSpec.upto mergersChainsSpec)) mergersChainsUptoCard

/-- THE SECOND FORM's CARD OF 'ablautlaw15.MergersFrames'. -/
def mergersFramesUptoCard : Claim7 := { stood := { row := mergersFramesUptoRow, standIns := [], harness := (true, "af83aa01b04666d6bf81d025eac8250eed1f7e3567fa6065ce4fba1a1348e6ef"), looks := true }, kinds := [], alts := [], laidByText := true, laidKinds := [.data, .data, .pinned], laidTests := true, laidLooks := .later }
def MergersFramesUptoCardSaid : Prop := Claim7.holds Tryz.pinned (.plain (OpenSpec.upto mergersFramesSpec)) mergersFramesUptoCard

/-- THE SECOND FORM's CARD OF 'ablautlaw15.MergersSteps'. -/
def mergersStepsUptoCard : Claim7 := { stood := { row := mergersStepsUptoRow, standIns := [], harness := (true, "af83aa01b04666d6bf81d025eac8250eed1f7e3567fa6065ce4fba1a1348e6ef"), looks := true }, kinds := [], alts := [], laidByText := true, laidKinds := [.data, .data, .pinned], laidTests := true, laidLooks := .later }
def MergersStepsUptoCardSaid : Prop := Claim7.holds Tryz.pinned (.plain (OpenSpec.upto mergersStepsSpec)) mergersStepsUptoCard

/-- THE SECOND FORM's CARD OF 'ablautlaw15.MergersLabels'. -/
def mergersLabelsUptoCard : Claim7 := { stood := { row := mergersLabelsUptoRow, standIns := [], harness := (true, "af83aa01b04666d6bf81d025eac8250eed1f7e3567fa6065ce4fba1a1348e6ef"), looks := true }, kinds := [], alts := [], laidByText := true, laidKinds := [.data, .data, .pinned], laidTests := true, laidLooks := .later }
def MergersLabelsUptoCardSaid : Prop := Claim7.holds Tryz.pinned (.plain (OpenSpec.upto mergersLabelsSpec)) mergersLabelsUptoCard

/-- THE SECOND FORM's CARD OF 'ablautlaw15.MergersPhonemes'. -/
def mergersPhonemesUptoCard : Claim7 := { stood := { row := mergersPhonemesUptoRow, standIns := [], harness := (true, "af83aa01b04666d6bf81d025eac8250eed1f7e3567fa6065ce4fba1a1348e6ef"), looks := true }, kinds := [], alts := [], laidByText := true, laidKinds := [.data, .data, .pinned], laidTests := true, laidLooks := .later }
def MergersPhonemesUptoCardSaid : Prop := Claim7.holds Tryz.pinned (.plain (OpenSpec.upto mergersPhonemesSpec)) mergersPhonemesUptoCard

/-- THE SECOND FORM's CARD OF 'ablautlaw15.MergersNothing'. -/
def mergersNothingUptoCard : Claim7 := { stood := { row := mergersNothingUptoRow, standIns := [], harness := (true, "af83aa01b04666d6bf81d025eac8250eed1f7e3567fa6065ce4fba1a1348e6ef"), looks := true }, kinds := [], alts := [], laidByText := true, laidKinds := [.data, .data, .pinned], laidTests := true, laidLooks := .later }
def MergersNothingUptoCardSaid : Prop := Claim7.holds Tryz.pinned (.plain (OpenSpec.upto mergersNothingSpec)) mergersNothingUptoCard

/-- THE SECOND FORM's CARD OF 'ablautlaw15.MergersMany'. -/
def mergersManyUptoCard : Claim7 := { stood := { row := mergersManyUptoRow, standIns := [], harness := (true, "af83aa01b04666d6bf81d025eac8250eed1f7e3567fa6065ce4fba1a1348e6ef"), looks := true }, kinds := [], alts := [], laidByText := true, laidKinds := [.data, .data, .pinned], laidTests := true, laidLooks := .later }
def MergersManyUptoCardSaid : Prop := Claim7.holds Tryz.pinned (.plain (OpenSpec.upto mergersManySpec)) mergersManyUptoCard

/-- THE SECOND FORM's CARD OF 'ablautlaw15.MergersTurns'. -/
def mergersTurnsUptoCard : Claim7 := { stood := { row := mergersTurnsUptoRow, standIns := [], harness := (true, "af83aa01b04666d6bf81d025eac8250eed1f7e3567fa6065ce4fba1a1348e6ef"), looks := true }, kinds := [], alts := [], laidByText := true, laidKinds := [.data, .data, .pinned], laidTests := true, laidLooks := .later }
def MergersTurnsUptoCardSaid : Prop := Claim7.holds Tryz.pinned (.plain (OpenSpec.upto mergersTurnsSpec)) mergersTurnsUptoCard
end Rows
end Go.Proofs.YtejenndedjabhaaGreatDoor
