/-
  DERIVED. GIVEN WITH THE SEED: THE CARDS: each row of YtfdlhlghcbeblaaGreatDoorRows.lean that lists a variable, with what it lists TIED to the program's text (the seventh form; the later family's looks); each row that meets fmt, with fmt's text TOLD by the authors' own Lean function (tested against real Go, not proved from fmt's source: count such statements apart). THE CARD IS WHAT COUNTS. Prove the row's statement (the work); the ties are given (YtfdlhlghcbeblaaGreatDoorTie.lean); close each card by the builder's one call (the guide's Derived/Test/ToyasCard.lean, 'card_holds'). Laid BY PROGRAM, IN A SANDBOX (cutbox-door.mjs). By AI agents, Wed Nov 11 2026. No macro, syntax, notation, axiom, sorry.
-/
import Derived.Test.YtfdlhlghcbeblaaGreatDoorRows
import GoSem.ClaimSeven
namespace Go.Proofs.YtfdlhlghcbeblaaGreatDoor
namespace Rows

/-- THE TIED CARD OF 'ablauttop.TopTheorem'. -/
def topTheoremCard : Claim7 := { stood := { row := topTheoremRow, standIns := [], harness := (true, "9687ab1005d3d8d1fc70352700a5aa89a42fca6acc82e6f5a865bf14cf9f887b"), looks := true }, kinds := [], alts := [], laidByText := true, laidKinds := [.data, .data, .pinned], laidTests := true, laidLooks := .later }
def TopTheoremCardSaid : Prop := Claim7.holds Tryz.pinned (.plain (OpenSpec.ofChange topTheoremSpec)) topTheoremCard

/-- THE TIED CARD OF 'ablauttop.TopOrders'. -/
def topOrdersCard : Claim7 := { stood := { row := topOrdersRow, standIns := [], harness := (true, "9687ab1005d3d8d1fc70352700a5aa89a42fca6acc82e6f5a865bf14cf9f887b"), looks := true }, kinds := [], alts := [], laidByText := true, laidKinds := [.data, .data, .pinned], laidTests := true, laidLooks := .later }
def TopOrdersCardSaid : Prop := Claim7.holds Tryz.pinned (.plain (OpenSpec.ofChange topOrdersSpec)) topOrdersCard

/-- THE TIED CARD OF 'ablautlaw14.OrderFits'. -/
def orderFitsCard : Claim7 := { stood := { row := orderFitsRow, standIns := [], harness := (true, "9687ab1005d3d8d1fc70352700a5aa89a42fca6acc82e6f5a865bf14cf9f887b"), looks := true }, kinds := [], alts := [], laidByText := true, laidKinds := [.data, .data, .pinned], laidTests := true, laidLooks := .later }
def OrderFitsCardSaid : Prop := Claim7.holds Tryz.pinned (.plain (OpenSpec.ofChange orderFitsSpec)) orderFitsCard

/-- THE TIED CARD OF 'ablautlaw14.OrderAlls'. -/
def orderAllsCard : Claim7 := { stood := { row := orderAllsRow, standIns := [], harness := (true, "9687ab1005d3d8d1fc70352700a5aa89a42fca6acc82e6f5a865bf14cf9f887b"), looks := true }, kinds := [], alts := [], laidByText := true, laidKinds := [.data, .data, .pinned], laidTests := true, laidLooks := .later }
def OrderAllsCardSaid : Prop := Claim7.holds Tryz.pinned (.plain (OpenSpec.ofChange orderAllsSpec)) orderAllsCard

/-- THE TIED CARD OF 'ablautlaw14.OrderFirst'. -/
def orderFirstCard : Claim7 := { stood := { row := orderFirstRow, standIns := [], harness := (true, "9687ab1005d3d8d1fc70352700a5aa89a42fca6acc82e6f5a865bf14cf9f887b"), looks := true }, kinds := [], alts := [], laidByText := true, laidKinds := [.data, .data, .pinned], laidTests := true, laidLooks := .later }
def OrderFirstCardSaid : Prop := Claim7.holds Tryz.pinned (.plain (OpenSpec.ofChange orderFirstSpec)) orderFirstCard

/-- THE TIED CARD OF 'ablautlaw14.OrderBests'. -/
def orderBestsCard : Claim7 := { stood := { row := orderBestsRow, standIns := [], harness := (true, "9687ab1005d3d8d1fc70352700a5aa89a42fca6acc82e6f5a865bf14cf9f887b"), looks := true }, kinds := [], alts := [], laidByText := true, laidKinds := [.data, .data, .pinned], laidTests := true, laidLooks := .later }
def OrderBestsCardSaid : Prop := Claim7.holds Tryz.pinned (.plain (OpenSpec.ofChange orderBestsSpec)) orderBestsCard

/-- THE TIED CARD OF 'ablautlaw14.OrderNeeds'. -/
def orderNeedsCard : Claim7 := { stood := { row := orderNeedsRow, standIns := [], harness := (true, "9687ab1005d3d8d1fc70352700a5aa89a42fca6acc82e6f5a865bf14cf9f887b"), looks := true }, kinds := [], alts := [], laidByText := true, laidKinds := [.data, .data, .pinned], laidTests := true, laidLooks := .later }
def OrderNeedsCardSaid : Prop := Claim7.holds Tryz.pinned (.plain (OpenSpec.ofChange orderNeedsSpec)) orderNeedsCard

/-- THE TIED CARD OF 'ablautlaw14.OrderMatters'. -/
def orderMattersCard : Claim7 := { stood := { row := orderMattersRow, standIns := [], harness := (true, "9687ab1005d3d8d1fc70352700a5aa89a42fca6acc82e6f5a865bf14cf9f887b"), looks := true }, kinds := [], alts := [], laidByText := true, laidKinds := [.data, .data, .pinned], laidTests := true, laidLooks := .later }
def OrderMattersCardSaid : Prop := Claim7.holds Tryz.pinned (.plain (OpenSpec.ofChange orderMattersSpec)) orderMattersCard

/-- THE TIED CARD OF 'ablautlaw14.OrderKnown'. -/
def orderKnownCard : Claim7 := { stood := { row := orderKnownRow, standIns := [], harness := (true, "9687ab1005d3d8d1fc70352700a5aa89a42fca6acc82e6f5a865bf14cf9f887b"), looks := true }, kinds := [], alts := [], laidByText := true, laidKinds := [.data, .data, .pinned], laidTests := true, laidLooks := .later }
def OrderKnownCardSaid : Prop := Claim7.holds Tryz.pinned (.plain (OpenSpec.ofChange orderKnownSpec)) orderKnownCard

/-- THE TIED CARD OF 'ablautlaw14.OrderNeeded'. -/
def orderNeededCard : Claim7 := { stood := { row := orderNeededRow, standIns := [], harness := (true, "9687ab1005d3d8d1fc70352700a5aa89a42fca6acc82e6f5a865bf14cf9f887b"), looks := true }, kinds := [], alts := [], laidByText := true, laidKinds := [.data, .data, .pinned], laidTests := true, laidLooks := .later }
def OrderNeededCardSaid : Prop := Claim7.holds Tryz.pinned (.plain (OpenSpec.ofChange orderNeededSpec)) orderNeededCard

/-- THE TIED CARD OF 'ablautlaw14.OrderExplains'. -/
def orderExplainsCard : Claim7 := { stood := { row := orderExplainsRow, standIns := [], harness := (true, "9687ab1005d3d8d1fc70352700a5aa89a42fca6acc82e6f5a865bf14cf9f887b"), looks := true }, kinds := [], alts := [], laidByText := true, laidKinds := [.data, .data, .pinned], laidTests := true, laidLooks := .later }
def OrderExplainsCardSaid : Prop := Claim7.holds Tryz.pinned (.plain (OpenSpec.ofChange orderExplainsSpec)) orderExplainsCard

/-- THE TIED CARD OF 'ablautlaw14.OrderMade'. -/
def orderMadeCard : Claim7 := { stood := { row := orderMadeRow, standIns := [], harness := (true, "9687ab1005d3d8d1fc70352700a5aa89a42fca6acc82e6f5a865bf14cf9f887b"), looks := true }, kinds := [], alts := [], laidByText := true, laidKinds := [.data, .data, .pinned], laidTests := true, laidLooks := .later }
def OrderMadeCardSaid : Prop := Claim7.holds Tryz.pinned (.plain (OpenSpec.ofChange orderMadeSpec)) orderMadeCard

/-- THE SECOND FORM's CARD OF 'ablauttop.TopTheorem'. -/
def topTheoremUptoCard : Claim7 := { stood := { row := topTheoremUptoRow, standIns := [], harness := (true, "9687ab1005d3d8d1fc70352700a5aa89a42fca6acc82e6f5a865bf14cf9f887b"), looks := true }, kinds := [], alts := [], laidByText := true, laidKinds := [.data, .data, .pinned], laidTests := true, laidLooks := .later }
def TopTheoremUptoCardSaid : Prop := Claim7.holds Tryz.pinned (.plain (OpenSpec.upto topTheoremSpec)) topTheoremUptoCard

/-- THE SECOND FORM's CARD OF 'ablauttop.TopOrders'. -/
def topOrdersUptoCard : Claim7 := { stood := { row := topOrdersUptoRow, standIns := [], harness := (true, "9687ab1005d3d8d1fc70352700a5aa89a42fca6acc82e6f5a865bf14cf9f887b"), looks := true }, kinds := [], alts := [], laidByText := true, laidKinds := [.data, .data, .pinned], laidTests := true, laidLooks := .later }
def TopOrdersUptoCardSaid : Prop := Claim7.holds Tryz.pinned (.plain (OpenSpec.upto topOrdersSpec)) topOrdersUptoCard

/-- THE SECOND FORM's CARD OF 'ablautlaw14.OrderFits'. -/
def orderFitsUptoCard : Claim7 := { stood := { row := orderFitsUptoRow, standIns := [], harness := (true, "9687ab1005d3d8d1fc70352700a5aa89a42fca6acc82e6f5a865bf14cf9f887b"), looks := true }, kinds := [], alts := [], laidByText := true, laidKinds := [.data, .data, .pinned], laidTests := true, laidLooks := .later }
def OrderFitsUptoCardSaid : Prop := Claim7.holds Tryz.pinned (.plain (OpenSpec.upto orderFitsSpec)) orderFitsUptoCard

/-- THE SECOND FORM's CARD OF 'ablautlaw14.OrderAlls'. -/
def orderAllsUptoCard : Claim7 := { stood := { row := orderAllsUptoRow, standIns := [], harness := (true, "9687ab1005d3d8d1fc70352700a5aa89a42fca6acc82e6f5a865bf14cf9f887b"), looks := true }, kinds := [], alts := [], laidByText := true, laidKinds := [.data, .data, .pinned], laidTests := true, laidLooks := .later }
def OrderAllsUptoCardSaid : Prop := Claim7.holds Tryz.pinned (.plain (OpenSpec.upto orderAllsSpec)) orderAllsUptoCard

/-- THE SECOND FORM's CARD OF 'ablautlaw14.OrderFirst'. -/
def orderFirstUptoCard : Claim7 := { stood := { row := orderFirstUptoRow, standIns := [], harness := (true, "9687ab1005d3d8d1fc70352700a5aa89a42fca6acc82e6f5a865bf14cf9f887b"), looks := true }, kinds := [], alts := [], laidByText := true, laidKinds := [.data, .data, .pinned], laidTests := true, laidLooks := .later }
def OrderFirstUptoCardSaid : Prop := Claim7.holds Tryz.pinned (.plain (OpenSpec.upto orderFirstSpec)) orderFirstUptoCard

/-- THE SECOND FORM's CARD OF 'ablautlaw14.OrderBests'. -/
def orderBestsUptoCard : Claim7 := { stood := { row := orderBestsUptoRow, standIns := [], harness := (true, "9687ab1005d3d8d1fc70352700a5aa89a42fca6acc82e6f5a865bf14cf9f887b"), looks := true }, kinds := [], alts := [], laidByText := true, laidKinds := [.data, .data, .pinned], laidTests := true, laidLooks := .later }
def OrderBestsUptoCardSaid : Prop := Claim7.holds Tryz.pinned (.plain (OpenSpec.upto orderBestsSpec)) orderBestsUptoCard

/-- THE SECOND FORM's CARD OF 'ablautlaw14.OrderNeeds'. -/
def orderNeedsUptoCard : Claim7 := { stood := { row := orderNeedsUptoRow, standIns := [], harness := (true, "9687ab1005d3d8d1fc70352700a5aa89a42fca6acc82e6f5a865bf14cf9f887b"), looks := true }, kinds := [], alts := [], laidByText := true, laidKinds := [.data, .data, .pinned], laidTests := true, laidLooks := .later }
def OrderNeedsUptoCardSaid : Prop := Claim7.holds Tryz.pinned (.plain (OpenSpec.upto orderNeedsSpec)) orderNeedsUptoCard

/-- THE SECOND FORM's CARD OF 'ablautlaw14.OrderMatters'. -/
def orderMattersUptoCard : Claim7 := { stood := { row := orderMattersUptoRow, standIns := [], harness := (true, "9687ab1005d3d8d1fc70352700a5aa89a42fca6acc82e6f5a865bf14cf9f887b"), looks := true }, kinds := [], alts := [], laidByText := true, laidKinds := [.data, .data, .pinned], laidTests := true, laidLooks := .later }
def OrderMattersUptoCardSaid : Prop := Claim7.holds Tryz.pinned (.plain (OpenSpec.upto orderMattersSpec)) orderMattersUptoCard

/-- THE SECOND FORM's CARD OF 'ablautlaw14.OrderKnown'. -/
def orderKnownUptoCard : Claim7 := { stood := { row := orderKnownUptoRow, standIns := [], harness := (true, "9687ab1005d3d8d1fc70352700a5aa89a42fca6acc82e6f5a865bf14cf9f887b"), looks := true }, kinds := [], alts := [], laidByText := true, laidKinds := [.data, .data, .pinned], laidTests := true, laidLooks := .later }
def OrderKnownUptoCardSaid : Prop := Claim7.holds Tryz.pinned (.plain (OpenSpec.upto orderKnownSpec)) orderKnownUptoCard

/-- THE SECOND FORM's CARD OF 'ablautlaw14.OrderNeeded'. -/
def orderNeededUptoCard : Claim7 := { stood := { row := orderNeededUptoRow, standIns := [], harness := (true, "9687ab1005d3d8d1fc70352700a5aa89a42fca6acc82e6f5a865bf14cf9f887b"), looks := true }, kinds := [], alts := [], laidByText := true, laidKinds := [.data, .data, .pinned], laidTests := true, laidLooks := .later }
def OrderNeededUptoCardSaid : Prop := Claim7.holds Tryz.pinned (.plain (OpenSpec.upto orderNeededSpec)) orderNeededUptoCard

/-- THE SECOND FORM's CARD OF 'ablautlaw14.OrderExplains'. -/
def orderExplainsUptoCard : Claim7 := { stood := { row := orderExplainsUptoRow, standIns := [], harness := (true, "9687ab1005d3d8d1fc70352700a5aa89a42fca6acc82e6f5a865bf14cf9f887b"), looks := true }, kinds := [], alts := [], laidByText := true, laidKinds := [.data, .data, .pinned], laidTests := true, laidLooks := .later }
def OrderExplainsUptoCardSaid : Prop := Claim7.holds Tryz.pinned (.plain (OpenSpec.upto orderExplainsSpec)) orderExplainsUptoCard

/-- THE SECOND FORM's CARD OF 'ablautlaw14.OrderMade'. -/
def orderMadeUptoCard : Claim7 := { stood := { row := orderMadeUptoRow, standIns := [], harness := (true, "9687ab1005d3d8d1fc70352700a5aa89a42fca6acc82e6f5a865bf14cf9f887b"), looks := true }, kinds := [], alts := [], laidByText := true, laidKinds := [.data, .data, .pinned], laidTests := true, laidLooks := .later }
def OrderMadeUptoCardSaid : Prop := Claim7.holds Tryz.pinned (.plain (OpenSpec.upto orderMadeSpec)) orderMadeUptoCard
end Rows
end Go.Proofs.YtfdlhlghcbeblaaGreatDoor
