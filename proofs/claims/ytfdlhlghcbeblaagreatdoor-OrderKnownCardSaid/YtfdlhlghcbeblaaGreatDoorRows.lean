/-
  NARROWER THAN 'FOR EVERY INPUT', by the rows' own cells (each row's printed sentence says how): TopTheorem: loops, laid · TopOrders: loops, laid · OrderFits: loops, laid · OrderAlls: loops, laid · OrderFirst: loops, laid · OrderBests: loops, laid · OrderNeeds: loops, laid · OrderMatters: loops, laid · OrderKnown: laid · OrderNeeded: loops, laid · OrderExplains: loops, laid · OrderMade: loops, laid.
  DERIVED. THE GIVEN ROWS OF THIS SEAT. 12 by the template 'for every input the law returns true; each argument reads behind the call as it read before'; 0 by the template 'total and deterministic' (their statements: YtfdlhlghcbeblaaGreatDoorTotals.lean).
  GIVEN WITH THE SEED: the statements are not yours to turn. If you find one false, say at which input.
  Laid BY PROGRAM, IN A SANDBOX (cutbox-rows.mjs): the forced cells as the released guide's own fill.sh prints them over the translation 241fb960989df2f9… (all of the seat's roots in one cut). By AI agents, Wed Nov 11 2026. No macro, syntax, notation, axiom, sorry.
-/
import Derived.Test.YtfdlhlghcbeblaaGreatDoorChecked
import GoSem.PinnedTables
import GoSem.Claim
import GoSem.ClaimJoined
import GoSem.ClaimMapViews
import Derived.JoinedTies
import Derived.KernelRfl
namespace Go.Proofs.YtfdlhlghcbeblaaGreatDoor
/- THE CELL 'sum', in the pinned program and in every row, IS THE sha256 OF THE DUMP (.gsa) THAT YtfdlhlghcbeblaaGreatDoorProg.lean LOADS. Nothing in Lean hashes anything: it is a label: what it is worth is what the hold of that sum in a sandbox is worth. -/
noncomputable def Tryz.pinned : Pinned := { name := "ytfdlhlghcbeblaagreatdoor", sum := "241fb960989df2f9faeef174016fd7af7b79e0cb4b298483e89fae84ab482992", checked := Tryz.checked }
namespace Rows
def none {H : Type} : Left H := { results := [], args := [] }

/- WHAT THE LISTED PACKAGE-LEVEL VARIABLES READ AS WHEN THE CALL BEGINS. Each datum BY PROGRAM (the guide's laid-datum.mjs) off the statement by which the dump's own 'gosem.cut.vars' lays the variable. In a bare row this is a premise. The card (YtfdlhlghcbeblaaGreatDoorCards.lean) ties it to the program's text. -/
def laid_math_bits_deBruijn64tab {H : Type} : DataW H := .agg [.lit (.int .u8 0), .lit (.int .u8 1), .lit (.int .u8 56), .lit (.int .u8 2), .lit (.int .u8 57), .lit (.int .u8 49), .lit (.int .u8 28), .lit (.int .u8 3), .lit (.int .u8 61), .lit (.int .u8 58), .lit (.int .u8 42), .lit (.int .u8 50), .lit (.int .u8 38), .lit (.int .u8 29), .lit (.int .u8 17), .lit (.int .u8 4), .lit (.int .u8 62), .lit (.int .u8 47), .lit (.int .u8 59), .lit (.int .u8 36), .lit (.int .u8 45), .lit (.int .u8 43), .lit (.int .u8 51), .lit (.int .u8 22), .lit (.int .u8 53), .lit (.int .u8 39), .lit (.int .u8 33), .lit (.int .u8 30), .lit (.int .u8 24), .lit (.int .u8 18), .lit (.int .u8 12), .lit (.int .u8 5), .lit (.int .u8 63), .lit (.int .u8 55), .lit (.int .u8 48), .lit (.int .u8 27), .lit (.int .u8 60), .lit (.int .u8 41), .lit (.int .u8 37), .lit (.int .u8 16), .lit (.int .u8 46), .lit (.int .u8 35), .lit (.int .u8 44), .lit (.int .u8 21), .lit (.int .u8 52), .lit (.int .u8 32), .lit (.int .u8 23), .lit (.int .u8 11), .lit (.int .u8 54), .lit (.int .u8 26), .lit (.int .u8 40), .lit (.int .u8 15), .lit (.int .u8 34), .lit (.int .u8 20), .lit (.int .u8 31), .lit (.int .u8 10), .lit (.int .u8 25), .lit (.int .u8 14), .lit (.int .u8 19), .lit (.int .u8 9), .lit (.int .u8 13), .lit (.int .u8 8), .lit (.int .u8 7), .lit (.int .u8 6)]
def laid_unicode_utf8_acceptRanges {H : Type} : DataW H := .agg [.agg [.lit (.int .u8 128), .lit (.int .u8 191)], .agg [.lit (.int .u8 160), .lit (.int .u8 191)], .agg [.lit (.int .u8 128), .lit (.int .u8 159)], .agg [.lit (.int .u8 144), .lit (.int .u8 191)], .agg [.lit (.int .u8 128), .lit (.int .u8 143)], .agg [.lit (.int .u8 0), .lit (.int .u8 0)], .agg [.lit (.int .u8 0), .lit (.int .u8 0)], .agg [.lit (.int .u8 0), .lit (.int .u8 0)], .agg [.lit (.int .u8 0), .lit (.int .u8 0)], .agg [.lit (.int .u8 0), .lit (.int .u8 0)], .agg [.lit (.int .u8 0), .lit (.int .u8 0)], .agg [.lit (.int .u8 0), .lit (.int .u8 0)], .agg [.lit (.int .u8 0), .lit (.int .u8 0)], .agg [.lit (.int .u8 0), .lit (.int .u8 0)], .agg [.lit (.int .u8 0), .lit (.int .u8 0)], .agg [.lit (.int .u8 0), .lit (.int .u8 0)]]
/-- One of Go's own tables, pinned by name: the form's constant. -/
def laid_unicode_utf8_first : DataW Unit := Go.Pinned.utf8First

/-- 'ablauttop.TopTheorem': WHATEVER THE INPUT: true; the input reads as it did. -/
def topTheoremSpec : ChangeSpec := { name := "topTheorem", fn := fun _ => fun
  | [d1, d2] => { results := [.lit (.bool true)], args := [d1, d2] }
  | _ => none }
def topTheoremRow : OpenClaim := { program := "ytfdlhlghcbeblaagreatdoor", sum := "241fb960989df2f9faeef174016fd7af7b79e0cb4b298483e89fae84ab482992", func := "ablaut/ablauttop.TopTheorem", spec := "topTheorem", inPlace := ["internal/bytealg.IndexByteString", "internal/bytealg.IndexString"], unfollowed := true, recurses := true, named := ["unicode/utf8.first", "unicode/utf8.acceptRanges", "math/bits.deBruijn64tab", "internal/bytealg.MaxLen"], loops := true, plainKeys := false, apart := false, laid := [("math/bits.deBruijn64tab", laid_math_bits_deBruijn64tab), ("unicode/utf8.acceptRanges", laid_unicode_utf8_acceptRanges), ("unicode/utf8.first", laid_unicode_utf8_first)] }
def TopTheoremSaid : Prop := topTheoremRow.holds Tryz.pinned (OpenSpec.ofChange topTheoremSpec)

/-- ITS FALSE NEIGHBOUR: 'it returns false'. Refute it at one input. -/
def topTheoremWrong : ChangeSpec := { name := "topTheorem", fn := fun _ => fun
  | [d1, d2] => { results := [.lit (.bool false)], args := [d1, d2] }
  | _ => none }
def TopTheoremWrongFalsely : Prop := topTheoremRow.holds Tryz.pinned (OpenSpec.ofChange topTheoremWrong)

/-- 'ablauttop.TopOrders': WHATEVER THE INPUT: true; the input reads as it did. -/
def topOrdersSpec : ChangeSpec := { name := "topOrders", fn := fun _ => fun
  | [d1, d2] => { results := [.lit (.bool true)], args := [d1, d2] }
  | _ => none }
def topOrdersRow : OpenClaim := { program := "ytfdlhlghcbeblaagreatdoor", sum := "241fb960989df2f9faeef174016fd7af7b79e0cb4b298483e89fae84ab482992", func := "ablaut/ablauttop.TopOrders", spec := "topOrders", inPlace := ["internal/bytealg.IndexByteString", "internal/bytealg.IndexString"], unfollowed := true, recurses := true, named := ["unicode/utf8.first", "unicode/utf8.acceptRanges", "math/bits.deBruijn64tab", "internal/bytealg.MaxLen"], loops := true, plainKeys := false, apart := false, laid := [("math/bits.deBruijn64tab", laid_math_bits_deBruijn64tab), ("unicode/utf8.acceptRanges", laid_unicode_utf8_acceptRanges), ("unicode/utf8.first", laid_unicode_utf8_first)] }
def TopOrdersSaid : Prop := topOrdersRow.holds Tryz.pinned (OpenSpec.ofChange topOrdersSpec)

/-- ITS FALSE NEIGHBOUR: 'it returns false'. Refute it at one input. -/
def topOrdersWrong : ChangeSpec := { name := "topOrders", fn := fun _ => fun
  | [d1, d2] => { results := [.lit (.bool false)], args := [d1, d2] }
  | _ => none }
def TopOrdersWrongFalsely : Prop := topOrdersRow.holds Tryz.pinned (OpenSpec.ofChange topOrdersWrong)

/-- 'ablautlaw14.OrderFits': WHATEVER THE INPUT: true; the input reads as it did. -/
def orderFitsSpec : ChangeSpec := { name := "orderFits", fn := fun _ => fun
  | [d1, d2, d3] => { results := [.lit (.bool true)], args := [d1, d2, d3] }
  | _ => none }
def orderFitsRow : OpenClaim := { program := "ytfdlhlghcbeblaagreatdoor", sum := "241fb960989df2f9faeef174016fd7af7b79e0cb4b298483e89fae84ab482992", func := "ablaut/ablautlaw14.OrderFits", spec := "orderFits", inPlace := ["internal/bytealg.IndexByteString", "internal/bytealg.IndexString"], unfollowed := true, recurses := true, named := ["unicode/utf8.first", "unicode/utf8.acceptRanges", "math/bits.deBruijn64tab", "internal/bytealg.MaxLen"], loops := true, plainKeys := false, apart := false, laid := [("math/bits.deBruijn64tab", laid_math_bits_deBruijn64tab), ("unicode/utf8.acceptRanges", laid_unicode_utf8_acceptRanges), ("unicode/utf8.first", laid_unicode_utf8_first)] }
def OrderFitsSaid : Prop := orderFitsRow.holds Tryz.pinned (OpenSpec.ofChange orderFitsSpec)

/-- ITS FALSE NEIGHBOUR: 'it returns false'. Refute it at one input. -/
def orderFitsWrong : ChangeSpec := { name := "orderFits", fn := fun _ => fun
  | [d1, d2, d3] => { results := [.lit (.bool false)], args := [d1, d2, d3] }
  | _ => none }
def OrderFitsWrongFalsely : Prop := orderFitsRow.holds Tryz.pinned (OpenSpec.ofChange orderFitsWrong)

/-- 'ablautlaw14.OrderAlls': WHATEVER THE INPUT: true; the input reads as it did. -/
def orderAllsSpec : ChangeSpec := { name := "orderAlls", fn := fun _ => fun
  | [d1, d2, d3] => { results := [.lit (.bool true)], args := [d1, d2, d3] }
  | _ => none }
def orderAllsRow : OpenClaim := { program := "ytfdlhlghcbeblaagreatdoor", sum := "241fb960989df2f9faeef174016fd7af7b79e0cb4b298483e89fae84ab482992", func := "ablaut/ablautlaw14.OrderAlls", spec := "orderAlls", inPlace := ["internal/bytealg.IndexByteString", "internal/bytealg.IndexString"], unfollowed := true, recurses := true, named := ["unicode/utf8.first", "unicode/utf8.acceptRanges", "math/bits.deBruijn64tab", "internal/bytealg.MaxLen"], loops := true, plainKeys := false, apart := false, laid := [("math/bits.deBruijn64tab", laid_math_bits_deBruijn64tab), ("unicode/utf8.acceptRanges", laid_unicode_utf8_acceptRanges), ("unicode/utf8.first", laid_unicode_utf8_first)] }
def OrderAllsSaid : Prop := orderAllsRow.holds Tryz.pinned (OpenSpec.ofChange orderAllsSpec)

/-- ITS FALSE NEIGHBOUR: 'it returns false'. Refute it at one input. -/
def orderAllsWrong : ChangeSpec := { name := "orderAlls", fn := fun _ => fun
  | [d1, d2, d3] => { results := [.lit (.bool false)], args := [d1, d2, d3] }
  | _ => none }
def OrderAllsWrongFalsely : Prop := orderAllsRow.holds Tryz.pinned (OpenSpec.ofChange orderAllsWrong)

/-- 'ablautlaw14.OrderFirst': WHATEVER THE INPUT: true; the input reads as it did. -/
def orderFirstSpec : ChangeSpec := { name := "orderFirst", fn := fun _ => fun
  | [d1, d2, d3] => { results := [.lit (.bool true)], args := [d1, d2, d3] }
  | _ => none }
def orderFirstRow : OpenClaim := { program := "ytfdlhlghcbeblaagreatdoor", sum := "241fb960989df2f9faeef174016fd7af7b79e0cb4b298483e89fae84ab482992", func := "ablaut/ablautlaw14.OrderFirst", spec := "orderFirst", inPlace := ["internal/bytealg.IndexByteString", "internal/bytealg.IndexString"], unfollowed := true, recurses := true, named := ["unicode/utf8.first", "unicode/utf8.acceptRanges", "math/bits.deBruijn64tab", "internal/bytealg.MaxLen"], loops := true, plainKeys := false, apart := false, laid := [("math/bits.deBruijn64tab", laid_math_bits_deBruijn64tab), ("unicode/utf8.acceptRanges", laid_unicode_utf8_acceptRanges), ("unicode/utf8.first", laid_unicode_utf8_first)] }
def OrderFirstSaid : Prop := orderFirstRow.holds Tryz.pinned (OpenSpec.ofChange orderFirstSpec)

/-- ITS FALSE NEIGHBOUR: 'it returns false'. Refute it at one input. -/
def orderFirstWrong : ChangeSpec := { name := "orderFirst", fn := fun _ => fun
  | [d1, d2, d3] => { results := [.lit (.bool false)], args := [d1, d2, d3] }
  | _ => none }
def OrderFirstWrongFalsely : Prop := orderFirstRow.holds Tryz.pinned (OpenSpec.ofChange orderFirstWrong)

/-- 'ablautlaw14.OrderBests': WHATEVER THE INPUT: true; the input reads as it did. -/
def orderBestsSpec : ChangeSpec := { name := "orderBests", fn := fun _ => fun
  | [d1, d2] => { results := [.lit (.bool true)], args := [d1, d2] }
  | _ => none }
def orderBestsRow : OpenClaim := { program := "ytfdlhlghcbeblaagreatdoor", sum := "241fb960989df2f9faeef174016fd7af7b79e0cb4b298483e89fae84ab482992", func := "ablaut/ablautlaw14.OrderBests", spec := "orderBests", inPlace := ["internal/bytealg.IndexByteString", "internal/bytealg.IndexString"], unfollowed := true, recurses := true, named := ["unicode/utf8.first", "unicode/utf8.acceptRanges", "math/bits.deBruijn64tab", "internal/bytealg.MaxLen"], loops := true, plainKeys := false, apart := false, laid := [("math/bits.deBruijn64tab", laid_math_bits_deBruijn64tab), ("unicode/utf8.acceptRanges", laid_unicode_utf8_acceptRanges), ("unicode/utf8.first", laid_unicode_utf8_first)] }
def OrderBestsSaid : Prop := orderBestsRow.holds Tryz.pinned (OpenSpec.ofChange orderBestsSpec)

/-- ITS FALSE NEIGHBOUR: 'it returns false'. Refute it at one input. -/
def orderBestsWrong : ChangeSpec := { name := "orderBests", fn := fun _ => fun
  | [d1, d2] => { results := [.lit (.bool false)], args := [d1, d2] }
  | _ => none }
def OrderBestsWrongFalsely : Prop := orderBestsRow.holds Tryz.pinned (OpenSpec.ofChange orderBestsWrong)

/-- 'ablautlaw14.OrderNeeds': WHATEVER THE INPUT: true; the input reads as it did. -/
def orderNeedsSpec : ChangeSpec := { name := "orderNeeds", fn := fun _ => fun
  | [d1, d2] => { results := [.lit (.bool true)], args := [d1, d2] }
  | _ => none }
def orderNeedsRow : OpenClaim := { program := "ytfdlhlghcbeblaagreatdoor", sum := "241fb960989df2f9faeef174016fd7af7b79e0cb4b298483e89fae84ab482992", func := "ablaut/ablautlaw14.OrderNeeds", spec := "orderNeeds", inPlace := ["internal/bytealg.IndexByteString", "internal/bytealg.IndexString"], unfollowed := true, recurses := true, named := ["unicode/utf8.first", "unicode/utf8.acceptRanges", "math/bits.deBruijn64tab", "internal/bytealg.MaxLen"], loops := true, plainKeys := false, apart := false, laid := [("math/bits.deBruijn64tab", laid_math_bits_deBruijn64tab), ("unicode/utf8.acceptRanges", laid_unicode_utf8_acceptRanges), ("unicode/utf8.first", laid_unicode_utf8_first)] }
def OrderNeedsSaid : Prop := orderNeedsRow.holds Tryz.pinned (OpenSpec.ofChange orderNeedsSpec)

/-- ITS FALSE NEIGHBOUR: 'it returns false'. Refute it at one input. -/
def orderNeedsWrong : ChangeSpec := { name := "orderNeeds", fn := fun _ => fun
  | [d1, d2] => { results := [.lit (.bool false)], args := [d1, d2] }
  | _ => none }
def OrderNeedsWrongFalsely : Prop := orderNeedsRow.holds Tryz.pinned (OpenSpec.ofChange orderNeedsWrong)

/-- 'ablautlaw14.OrderMatters': WHATEVER THE INPUT: true; the input reads as it did. -/
def orderMattersSpec : ChangeSpec := { name := "orderMatters", fn := fun _ => fun
  | [d1, d2, d3] => { results := [.lit (.bool true)], args := [d1, d2, d3] }
  | _ => none }
def orderMattersRow : OpenClaim := { program := "ytfdlhlghcbeblaagreatdoor", sum := "241fb960989df2f9faeef174016fd7af7b79e0cb4b298483e89fae84ab482992", func := "ablaut/ablautlaw14.OrderMatters", spec := "orderMatters", inPlace := ["internal/bytealg.IndexByteString", "internal/bytealg.IndexString"], unfollowed := true, recurses := true, named := ["unicode/utf8.first", "unicode/utf8.acceptRanges", "math/bits.deBruijn64tab", "internal/bytealg.MaxLen"], loops := true, plainKeys := false, apart := false, laid := [("math/bits.deBruijn64tab", laid_math_bits_deBruijn64tab), ("unicode/utf8.acceptRanges", laid_unicode_utf8_acceptRanges), ("unicode/utf8.first", laid_unicode_utf8_first)] }
def OrderMattersSaid : Prop := orderMattersRow.holds Tryz.pinned (OpenSpec.ofChange orderMattersSpec)

/-- ITS FALSE NEIGHBOUR: 'it returns false'. Refute it at one input. -/
def orderMattersWrong : ChangeSpec := { name := "orderMatters", fn := fun _ => fun
  | [d1, d2, d3] => { results := [.lit (.bool false)], args := [d1, d2, d3] }
  | _ => none }
def OrderMattersWrongFalsely : Prop := orderMattersRow.holds Tryz.pinned (OpenSpec.ofChange orderMattersWrong)

/-- 'ablautlaw14.OrderKnown': WHATEVER THE INPUT: true; the input reads as it did. -/
def orderKnownSpec : ChangeSpec := { name := "orderKnown", fn := fun _ => fun
  | [] => { results := [.lit (.bool true)], args := [] }
  | _ => none }
def orderKnownRow : OpenClaim := { program := "ytfdlhlghcbeblaagreatdoor", sum := "241fb960989df2f9faeef174016fd7af7b79e0cb4b298483e89fae84ab482992", func := "ablaut/ablautlaw14.OrderKnown", spec := "orderKnown", inPlace := ["internal/bytealg.IndexByteString", "internal/bytealg.IndexString"], unfollowed := true, recurses := true, named := ["unicode/utf8.first", "unicode/utf8.acceptRanges", "math/bits.deBruijn64tab", "internal/bytealg.MaxLen"], plainKeys := false, apart := false, laid := [("math/bits.deBruijn64tab", laid_math_bits_deBruijn64tab), ("unicode/utf8.acceptRanges", laid_unicode_utf8_acceptRanges), ("unicode/utf8.first", laid_unicode_utf8_first)] }
def OrderKnownSaid : Prop := orderKnownRow.holds Tryz.pinned (OpenSpec.ofChange orderKnownSpec)

/-- ITS FALSE NEIGHBOUR: 'it returns false'. Refute it at one input. -/
def orderKnownWrong : ChangeSpec := { name := "orderKnown", fn := fun _ => fun
  | [] => { results := [.lit (.bool false)], args := [] }
  | _ => none }
def OrderKnownWrongFalsely : Prop := orderKnownRow.holds Tryz.pinned (OpenSpec.ofChange orderKnownWrong)

/-- 'ablautlaw14.OrderNeeded': WHATEVER THE INPUT: true; the input reads as it did. -/
def orderNeededSpec : ChangeSpec := { name := "orderNeeded", fn := fun _ => fun
  | [d1, d2] => { results := [.lit (.bool true)], args := [d1, d2] }
  | _ => none }
def orderNeededRow : OpenClaim := { program := "ytfdlhlghcbeblaagreatdoor", sum := "241fb960989df2f9faeef174016fd7af7b79e0cb4b298483e89fae84ab482992", func := "ablaut/ablautlaw14.OrderNeeded", spec := "orderNeeded", inPlace := ["internal/bytealg.IndexByteString", "internal/bytealg.IndexString"], unfollowed := true, recurses := true, named := ["unicode/utf8.first", "unicode/utf8.acceptRanges", "math/bits.deBruijn64tab", "internal/bytealg.MaxLen"], loops := true, plainKeys := false, apart := false, laid := [("math/bits.deBruijn64tab", laid_math_bits_deBruijn64tab), ("unicode/utf8.acceptRanges", laid_unicode_utf8_acceptRanges), ("unicode/utf8.first", laid_unicode_utf8_first)] }
def OrderNeededSaid : Prop := orderNeededRow.holds Tryz.pinned (OpenSpec.ofChange orderNeededSpec)

/-- ITS FALSE NEIGHBOUR: 'it returns false'. Refute it at one input. -/
def orderNeededWrong : ChangeSpec := { name := "orderNeeded", fn := fun _ => fun
  | [d1, d2] => { results := [.lit (.bool false)], args := [d1, d2] }
  | _ => none }
def OrderNeededWrongFalsely : Prop := orderNeededRow.holds Tryz.pinned (OpenSpec.ofChange orderNeededWrong)

/-- 'ablautlaw14.OrderExplains': WHATEVER THE INPUT: true; the input reads as it did. -/
def orderExplainsSpec : ChangeSpec := { name := "orderExplains", fn := fun _ => fun
  | [d1, d2] => { results := [.lit (.bool true)], args := [d1, d2] }
  | _ => none }
def orderExplainsRow : OpenClaim := { program := "ytfdlhlghcbeblaagreatdoor", sum := "241fb960989df2f9faeef174016fd7af7b79e0cb4b298483e89fae84ab482992", func := "ablaut/ablautlaw14.OrderExplains", spec := "orderExplains", inPlace := ["internal/bytealg.IndexByteString", "internal/bytealg.IndexString"], unfollowed := true, recurses := true, named := ["unicode/utf8.first", "unicode/utf8.acceptRanges", "math/bits.deBruijn64tab", "internal/bytealg.MaxLen"], loops := true, plainKeys := false, apart := false, laid := [("math/bits.deBruijn64tab", laid_math_bits_deBruijn64tab), ("unicode/utf8.acceptRanges", laid_unicode_utf8_acceptRanges), ("unicode/utf8.first", laid_unicode_utf8_first)] }
def OrderExplainsSaid : Prop := orderExplainsRow.holds Tryz.pinned (OpenSpec.ofChange orderExplainsSpec)

/-- ITS FALSE NEIGHBOUR: 'it returns false'. Refute it at one input. -/
def orderExplainsWrong : ChangeSpec := { name := "orderExplains", fn := fun _ => fun
  | [d1, d2] => { results := [.lit (.bool false)], args := [d1, d2] }
  | _ => none }
def OrderExplainsWrongFalsely : Prop := orderExplainsRow.holds Tryz.pinned (OpenSpec.ofChange orderExplainsWrong)

/-- 'ablautlaw14.OrderMade': WHATEVER THE INPUT: true; the input reads as it did. -/
def orderMadeSpec : ChangeSpec := { name := "orderMade", fn := fun _ => fun
  | [d1, d2, d3] => { results := [.lit (.bool true)], args := [d1, d2, d3] }
  | _ => none }
def orderMadeRow : OpenClaim := { program := "ytfdlhlghcbeblaagreatdoor", sum := "241fb960989df2f9faeef174016fd7af7b79e0cb4b298483e89fae84ab482992", func := "ablaut/ablautlaw14.OrderMade", spec := "orderMade", inPlace := ["internal/bytealg.IndexByteString", "internal/bytealg.IndexString"], unfollowed := true, recurses := true, named := ["unicode/utf8.first", "unicode/utf8.acceptRanges", "math/bits.deBruijn64tab", "internal/bytealg.MaxLen"], loops := true, plainKeys := false, apart := false, laid := [("math/bits.deBruijn64tab", laid_math_bits_deBruijn64tab), ("unicode/utf8.acceptRanges", laid_unicode_utf8_acceptRanges), ("unicode/utf8.first", laid_unicode_utf8_first)] }
def OrderMadeSaid : Prop := orderMadeRow.holds Tryz.pinned (OpenSpec.ofChange orderMadeSpec)

/-- ITS FALSE NEIGHBOUR: 'it returns false'. Refute it at one input. -/
def orderMadeWrong : ChangeSpec := { name := "orderMade", fn := fun _ => fun
  | [d1, d2, d3] => { results := [.lit (.bool false)], args := [d1, d2, d3] }
  | _ => none }
def OrderMadeWrongFalsely : Prop := orderMadeRow.holds Tryz.pinned (OpenSpec.ofChange orderMadeWrong)

/- THE SECOND FORM. 'bulk': how many values and letters a reading holds, each counted each time it is reached (what is shared counts as often as it is met; a slice's spare places count too). A statement '..UptoSaid' is the law's where the arguments, and the package variables that the reading takes, are together of bulk at most 1048576: NARROWER than '..Said'. Prove '..Said' where nothing that the law and all that it calls make is longer than what came in: it says more and counts as full. Else prove '..UptoSaid'. A law counts once. -/
mutual
def uptoBulk {H : Type} : DataW H → Nat
  | .lit (.string bytes) => bytes.length + 1
  | .lit _ => 1
  | .nil => 1
  | .ptr d => uptoBulk d + 1
  | .slice elems spare => uptoBulkAll elems + uptoBulkAll spare + 1
  | .agg parts => uptoBulkAll parts + 1
  | .iface _ d => uptoBulk d + 1
  | .map entries => uptoBulkEntries entries + 1
  | .held _ => 1
def uptoBulkAll {H : Type} : List (DataW H) → Nat
  | [] => 0
  | d :: r => uptoBulk d + uptoBulkAll r
def uptoBulkEntries {H : Type} : List (Lit × DataW H) → Nat
  | [] => 0
  | x :: r => uptoBulkEntry x + uptoBulkEntries r
def uptoBulkEntry {H : Type} : Lit × DataW H → Nat
  | (.string bytes, d) => bytes.length + uptoBulk d + 1
  | (_, d) => uptoBulk d + 1
 end
def uptoSmall : (H : Type) → List (DataW H) → Bool := fun _ ds => decide (uptoBulkAll ds ≤ 1048576)
def OpenSpec.upto (s : _root_.Go.ChangeSpec) : _root_.Go.OpenSpec := { _root_.Go.OpenSpec.ofChange s with cond := some uptoSmall }

/-- 'ablauttop.TopTheorem', WHERE WHAT IT READS IS OF BULK AT MOST 1048576: true; the input reads as it did. -/
def topTheoremUptoRow : OpenClaim := { program := "ytfdlhlghcbeblaagreatdoor", sum := "241fb960989df2f9faeef174016fd7af7b79e0cb4b298483e89fae84ab482992", func := "ablaut/ablauttop.TopTheorem", spec := "topTheorem", inPlace := ["internal/bytealg.IndexByteString", "internal/bytealg.IndexString"], unfollowed := true, recurses := true, named := ["unicode/utf8.first", "unicode/utf8.acceptRanges", "math/bits.deBruijn64tab", "internal/bytealg.MaxLen"], loops := true, plainKeys := false, apart := false, laid := [("math/bits.deBruijn64tab", laid_math_bits_deBruijn64tab), ("unicode/utf8.acceptRanges", laid_unicode_utf8_acceptRanges), ("unicode/utf8.first", laid_unicode_utf8_first)], narrowed := true }
def TopTheoremUptoSaid : Prop := topTheoremUptoRow.holds Tryz.pinned (OpenSpec.upto topTheoremSpec)

/-- 'ablauttop.TopOrders', WHERE WHAT IT READS IS OF BULK AT MOST 1048576: true; the input reads as it did. -/
def topOrdersUptoRow : OpenClaim := { program := "ytfdlhlghcbeblaagreatdoor", sum := "241fb960989df2f9faeef174016fd7af7b79e0cb4b298483e89fae84ab482992", func := "ablaut/ablauttop.TopOrders", spec := "topOrders", inPlace := ["internal/bytealg.IndexByteString", "internal/bytealg.IndexString"], unfollowed := true, recurses := true, named := ["unicode/utf8.first", "unicode/utf8.acceptRanges", "math/bits.deBruijn64tab", "internal/bytealg.MaxLen"], loops := true, plainKeys := false, apart := false, laid := [("math/bits.deBruijn64tab", laid_math_bits_deBruijn64tab), ("unicode/utf8.acceptRanges", laid_unicode_utf8_acceptRanges), ("unicode/utf8.first", laid_unicode_utf8_first)], narrowed := true }
def TopOrdersUptoSaid : Prop := topOrdersUptoRow.holds Tryz.pinned (OpenSpec.upto topOrdersSpec)

/-- 'ablautlaw14.OrderFits', WHERE WHAT IT READS IS OF BULK AT MOST 1048576: true; the input reads as it did. -/
def orderFitsUptoRow : OpenClaim := { program := "ytfdlhlghcbeblaagreatdoor", sum := "241fb960989df2f9faeef174016fd7af7b79e0cb4b298483e89fae84ab482992", func := "ablaut/ablautlaw14.OrderFits", spec := "orderFits", inPlace := ["internal/bytealg.IndexByteString", "internal/bytealg.IndexString"], unfollowed := true, recurses := true, named := ["unicode/utf8.first", "unicode/utf8.acceptRanges", "math/bits.deBruijn64tab", "internal/bytealg.MaxLen"], loops := true, plainKeys := false, apart := false, laid := [("math/bits.deBruijn64tab", laid_math_bits_deBruijn64tab), ("unicode/utf8.acceptRanges", laid_unicode_utf8_acceptRanges), ("unicode/utf8.first", laid_unicode_utf8_first)], narrowed := true }
def OrderFitsUptoSaid : Prop := orderFitsUptoRow.holds Tryz.pinned (OpenSpec.upto orderFitsSpec)

/-- 'ablautlaw14.OrderAlls', WHERE WHAT IT READS IS OF BULK AT MOST 1048576: true; the input reads as it did. -/
def orderAllsUptoRow : OpenClaim := { program := "ytfdlhlghcbeblaagreatdoor", sum := "241fb960989df2f9faeef174016fd7af7b79e0cb4b298483e89fae84ab482992", func := "ablaut/ablautlaw14.OrderAlls", spec := "orderAlls", inPlace := ["internal/bytealg.IndexByteString", "internal/bytealg.IndexString"], unfollowed := true, recurses := true, named := ["unicode/utf8.first", "unicode/utf8.acceptRanges", "math/bits.deBruijn64tab", "internal/bytealg.MaxLen"], loops := true, plainKeys := false, apart := false, laid := [("math/bits.deBruijn64tab", laid_math_bits_deBruijn64tab), ("unicode/utf8.acceptRanges", laid_unicode_utf8_acceptRanges), ("unicode/utf8.first", laid_unicode_utf8_first)], narrowed := true }
def OrderAllsUptoSaid : Prop := orderAllsUptoRow.holds Tryz.pinned (OpenSpec.upto orderAllsSpec)

/-- 'ablautlaw14.OrderFirst', WHERE WHAT IT READS IS OF BULK AT MOST 1048576: true; the input reads as it did. -/
def orderFirstUptoRow : OpenClaim := { program := "ytfdlhlghcbeblaagreatdoor", sum := "241fb960989df2f9faeef174016fd7af7b79e0cb4b298483e89fae84ab482992", func := "ablaut/ablautlaw14.OrderFirst", spec := "orderFirst", inPlace := ["internal/bytealg.IndexByteString", "internal/bytealg.IndexString"], unfollowed := true, recurses := true, named := ["unicode/utf8.first", "unicode/utf8.acceptRanges", "math/bits.deBruijn64tab", "internal/bytealg.MaxLen"], loops := true, plainKeys := false, apart := false, laid := [("math/bits.deBruijn64tab", laid_math_bits_deBruijn64tab), ("unicode/utf8.acceptRanges", laid_unicode_utf8_acceptRanges), ("unicode/utf8.first", laid_unicode_utf8_first)], narrowed := true }
def OrderFirstUptoSaid : Prop := orderFirstUptoRow.holds Tryz.pinned (OpenSpec.upto orderFirstSpec)

/-- 'ablautlaw14.OrderBests', WHERE WHAT IT READS IS OF BULK AT MOST 1048576: true; the input reads as it did. -/
def orderBestsUptoRow : OpenClaim := { program := "ytfdlhlghcbeblaagreatdoor", sum := "241fb960989df2f9faeef174016fd7af7b79e0cb4b298483e89fae84ab482992", func := "ablaut/ablautlaw14.OrderBests", spec := "orderBests", inPlace := ["internal/bytealg.IndexByteString", "internal/bytealg.IndexString"], unfollowed := true, recurses := true, named := ["unicode/utf8.first", "unicode/utf8.acceptRanges", "math/bits.deBruijn64tab", "internal/bytealg.MaxLen"], loops := true, plainKeys := false, apart := false, laid := [("math/bits.deBruijn64tab", laid_math_bits_deBruijn64tab), ("unicode/utf8.acceptRanges", laid_unicode_utf8_acceptRanges), ("unicode/utf8.first", laid_unicode_utf8_first)], narrowed := true }
def OrderBestsUptoSaid : Prop := orderBestsUptoRow.holds Tryz.pinned (OpenSpec.upto orderBestsSpec)

/-- 'ablautlaw14.OrderNeeds', WHERE WHAT IT READS IS OF BULK AT MOST 1048576: true; the input reads as it did. -/
def orderNeedsUptoRow : OpenClaim := { program := "ytfdlhlghcbeblaagreatdoor", sum := "241fb960989df2f9faeef174016fd7af7b79e0cb4b298483e89fae84ab482992", func := "ablaut/ablautlaw14.OrderNeeds", spec := "orderNeeds", inPlace := ["internal/bytealg.IndexByteString", "internal/bytealg.IndexString"], unfollowed := true, recurses := true, named := ["unicode/utf8.first", "unicode/utf8.acceptRanges", "math/bits.deBruijn64tab", "internal/bytealg.MaxLen"], loops := true, plainKeys := false, apart := false, laid := [("math/bits.deBruijn64tab", laid_math_bits_deBruijn64tab), ("unicode/utf8.acceptRanges", laid_unicode_utf8_acceptRanges), ("unicode/utf8.first", laid_unicode_utf8_first)], narrowed := true }
def OrderNeedsUptoSaid : Prop := orderNeedsUptoRow.holds Tryz.pinned (OpenSpec.upto orderNeedsSpec)

/-- 'ablautlaw14.OrderMatters', WHERE WHAT IT READS IS OF BULK AT MOST 1048576: true; the input reads as it did. -/
def orderMattersUptoRow : OpenClaim := { program := "ytfdlhlghcbeblaagreatdoor", sum := "241fb960989df2f9faeef174016fd7af7b79e0cb4b298483e89fae84ab482992", func := "ablaut/ablautlaw14.OrderMatters", spec := "orderMatters", inPlace := ["internal/bytealg.IndexByteString", "internal/bytealg.IndexString"], unfollowed := true, recurses := true, named := ["unicode/utf8.first", "unicode/utf8.acceptRanges", "math/bits.deBruijn64tab", "internal/bytealg.MaxLen"], loops := true, plainKeys := false, apart := false, laid := [("math/bits.deBruijn64tab", laid_math_bits_deBruijn64tab), ("unicode/utf8.acceptRanges", laid_unicode_utf8_acceptRanges), ("unicode/utf8.first", laid_unicode_utf8_first)], narrowed := true }
def OrderMattersUptoSaid : Prop := orderMattersUptoRow.holds Tryz.pinned (OpenSpec.upto orderMattersSpec)

/-- 'ablautlaw14.OrderKnown', WHERE WHAT IT READS IS OF BULK AT MOST 1048576: true; the input reads as it did. -/
def orderKnownUptoRow : OpenClaim := { program := "ytfdlhlghcbeblaagreatdoor", sum := "241fb960989df2f9faeef174016fd7af7b79e0cb4b298483e89fae84ab482992", func := "ablaut/ablautlaw14.OrderKnown", spec := "orderKnown", inPlace := ["internal/bytealg.IndexByteString", "internal/bytealg.IndexString"], unfollowed := true, recurses := true, named := ["unicode/utf8.first", "unicode/utf8.acceptRanges", "math/bits.deBruijn64tab", "internal/bytealg.MaxLen"], plainKeys := false, apart := false, laid := [("math/bits.deBruijn64tab", laid_math_bits_deBruijn64tab), ("unicode/utf8.acceptRanges", laid_unicode_utf8_acceptRanges), ("unicode/utf8.first", laid_unicode_utf8_first)], narrowed := true }
def OrderKnownUptoSaid : Prop := orderKnownUptoRow.holds Tryz.pinned (OpenSpec.upto orderKnownSpec)

/-- 'ablautlaw14.OrderNeeded', WHERE WHAT IT READS IS OF BULK AT MOST 1048576: true; the input reads as it did. -/
def orderNeededUptoRow : OpenClaim := { program := "ytfdlhlghcbeblaagreatdoor", sum := "241fb960989df2f9faeef174016fd7af7b79e0cb4b298483e89fae84ab482992", func := "ablaut/ablautlaw14.OrderNeeded", spec := "orderNeeded", inPlace := ["internal/bytealg.IndexByteString", "internal/bytealg.IndexString"], unfollowed := true, recurses := true, named := ["unicode/utf8.first", "unicode/utf8.acceptRanges", "math/bits.deBruijn64tab", "internal/bytealg.MaxLen"], loops := true, plainKeys := false, apart := false, laid := [("math/bits.deBruijn64tab", laid_math_bits_deBruijn64tab), ("unicode/utf8.acceptRanges", laid_unicode_utf8_acceptRanges), ("unicode/utf8.first", laid_unicode_utf8_first)], narrowed := true }
def OrderNeededUptoSaid : Prop := orderNeededUptoRow.holds Tryz.pinned (OpenSpec.upto orderNeededSpec)

/-- 'ablautlaw14.OrderExplains', WHERE WHAT IT READS IS OF BULK AT MOST 1048576: true; the input reads as it did. -/
def orderExplainsUptoRow : OpenClaim := { program := "ytfdlhlghcbeblaagreatdoor", sum := "241fb960989df2f9faeef174016fd7af7b79e0cb4b298483e89fae84ab482992", func := "ablaut/ablautlaw14.OrderExplains", spec := "orderExplains", inPlace := ["internal/bytealg.IndexByteString", "internal/bytealg.IndexString"], unfollowed := true, recurses := true, named := ["unicode/utf8.first", "unicode/utf8.acceptRanges", "math/bits.deBruijn64tab", "internal/bytealg.MaxLen"], loops := true, plainKeys := false, apart := false, laid := [("math/bits.deBruijn64tab", laid_math_bits_deBruijn64tab), ("unicode/utf8.acceptRanges", laid_unicode_utf8_acceptRanges), ("unicode/utf8.first", laid_unicode_utf8_first)], narrowed := true }
def OrderExplainsUptoSaid : Prop := orderExplainsUptoRow.holds Tryz.pinned (OpenSpec.upto orderExplainsSpec)

/-- 'ablautlaw14.OrderMade', WHERE WHAT IT READS IS OF BULK AT MOST 1048576: true; the input reads as it did. -/
def orderMadeUptoRow : OpenClaim := { program := "ytfdlhlghcbeblaagreatdoor", sum := "241fb960989df2f9faeef174016fd7af7b79e0cb4b298483e89fae84ab482992", func := "ablaut/ablautlaw14.OrderMade", spec := "orderMade", inPlace := ["internal/bytealg.IndexByteString", "internal/bytealg.IndexString"], unfollowed := true, recurses := true, named := ["unicode/utf8.first", "unicode/utf8.acceptRanges", "math/bits.deBruijn64tab", "internal/bytealg.MaxLen"], loops := true, plainKeys := false, apart := false, laid := [("math/bits.deBruijn64tab", laid_math_bits_deBruijn64tab), ("unicode/utf8.acceptRanges", laid_unicode_utf8_acceptRanges), ("unicode/utf8.first", laid_unicode_utf8_first)], narrowed := true }
def OrderMadeUptoSaid : Prop := orderMadeUptoRow.holds Tryz.pinned (OpenSpec.upto orderMadeSpec)

end Rows
end Go.Proofs.YtfdlhlghcbeblaaGreatDoor
