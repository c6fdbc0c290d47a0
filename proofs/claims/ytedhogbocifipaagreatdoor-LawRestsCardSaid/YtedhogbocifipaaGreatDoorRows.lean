/-
  NARROWER THAN 'FOR EVERY INPUT', by the rows' own cells (each row's printed sentence says how): LawChecks: loops, laid · LawHits: loops, laid · LawTraces: loops, laid · LawLengths: loops, laid · LawAlone: loops, laid · LawOnce: loops, laid · LawApplies: loops, laid · LawMisses: loops, laid · LawMirrors: loops, laid · LawEquals: loops, laid · LawSettles: loops, laid · LawRests: loops, laid.
  DERIVED. THE GIVEN ROWS OF THIS SEAT. 12 by the template 'for every input the law returns true; each argument reads behind the call as it read before'; 0 by the template 'total and deterministic' (their statements: YtedhogbocifipaaGreatDoorTotals.lean).
  GIVEN WITH THE SEED: the statements are not yours to turn. If you find one false, say at which input.
  Laid BY PROGRAM, IN A SANDBOX (cutbox-rows.mjs): the forced cells as the released guide's own fill.sh prints them over the translation 65928dd28a663428… (all of the seat's roots in one cut). By AI agents, Wed Nov 11 2026. No macro, syntax, notation, axiom, sorry.
-/
import Derived.Test.YtedhogbocifipaaGreatDoorChecked
import GoSem.PinnedTables
import GoSem.Claim
import GoSem.ClaimJoined
import GoSem.ClaimMapViews
import Derived.JoinedTies
import Derived.KernelRfl
namespace Go.Proofs.YtedhogbocifipaaGreatDoor
/- THE CELL 'sum', in the pinned program and in every row, IS THE sha256 OF THE DUMP (.gsa) THAT YtedhogbocifipaaGreatDoorProg.lean LOADS. Nothing in Lean hashes anything: it is a label: what it is worth is what the hold of that sum in a sandbox is worth. -/
noncomputable def Tryz.pinned : Pinned := { name := "ytedhogbocifipaagreatdoor", sum := "65928dd28a663428d05812ea63890a7239aba3cbf811d765e2039cec458ee383", checked := Tryz.checked }
namespace Rows
def none {H : Type} : Left H := { results := [], args := [] }

/- WHAT THE LISTED PACKAGE-LEVEL VARIABLES READ AS WHEN THE CALL BEGINS. Each datum BY PROGRAM (the guide's laid-datum.mjs) off the statement by which the dump's own 'gosem.cut.vars' lays the variable. In a bare row this is a premise. The card (YtedhogbocifipaaGreatDoorCards.lean) ties it to the program's text. -/
def laid_math_bits_deBruijn64tab {H : Type} : DataW H := .agg [.lit (.int .u8 0), .lit (.int .u8 1), .lit (.int .u8 56), .lit (.int .u8 2), .lit (.int .u8 57), .lit (.int .u8 49), .lit (.int .u8 28), .lit (.int .u8 3), .lit (.int .u8 61), .lit (.int .u8 58), .lit (.int .u8 42), .lit (.int .u8 50), .lit (.int .u8 38), .lit (.int .u8 29), .lit (.int .u8 17), .lit (.int .u8 4), .lit (.int .u8 62), .lit (.int .u8 47), .lit (.int .u8 59), .lit (.int .u8 36), .lit (.int .u8 45), .lit (.int .u8 43), .lit (.int .u8 51), .lit (.int .u8 22), .lit (.int .u8 53), .lit (.int .u8 39), .lit (.int .u8 33), .lit (.int .u8 30), .lit (.int .u8 24), .lit (.int .u8 18), .lit (.int .u8 12), .lit (.int .u8 5), .lit (.int .u8 63), .lit (.int .u8 55), .lit (.int .u8 48), .lit (.int .u8 27), .lit (.int .u8 60), .lit (.int .u8 41), .lit (.int .u8 37), .lit (.int .u8 16), .lit (.int .u8 46), .lit (.int .u8 35), .lit (.int .u8 44), .lit (.int .u8 21), .lit (.int .u8 52), .lit (.int .u8 32), .lit (.int .u8 23), .lit (.int .u8 11), .lit (.int .u8 54), .lit (.int .u8 26), .lit (.int .u8 40), .lit (.int .u8 15), .lit (.int .u8 34), .lit (.int .u8 20), .lit (.int .u8 31), .lit (.int .u8 10), .lit (.int .u8 25), .lit (.int .u8 14), .lit (.int .u8 19), .lit (.int .u8 9), .lit (.int .u8 13), .lit (.int .u8 8), .lit (.int .u8 7), .lit (.int .u8 6)]
def laid_unicode_utf8_acceptRanges {H : Type} : DataW H := .agg [.agg [.lit (.int .u8 128), .lit (.int .u8 191)], .agg [.lit (.int .u8 160), .lit (.int .u8 191)], .agg [.lit (.int .u8 128), .lit (.int .u8 159)], .agg [.lit (.int .u8 144), .lit (.int .u8 191)], .agg [.lit (.int .u8 128), .lit (.int .u8 143)], .agg [.lit (.int .u8 0), .lit (.int .u8 0)], .agg [.lit (.int .u8 0), .lit (.int .u8 0)], .agg [.lit (.int .u8 0), .lit (.int .u8 0)], .agg [.lit (.int .u8 0), .lit (.int .u8 0)], .agg [.lit (.int .u8 0), .lit (.int .u8 0)], .agg [.lit (.int .u8 0), .lit (.int .u8 0)], .agg [.lit (.int .u8 0), .lit (.int .u8 0)], .agg [.lit (.int .u8 0), .lit (.int .u8 0)], .agg [.lit (.int .u8 0), .lit (.int .u8 0)], .agg [.lit (.int .u8 0), .lit (.int .u8 0)], .agg [.lit (.int .u8 0), .lit (.int .u8 0)]]
/-- One of Go's own tables, pinned by name: the form's constant. -/
def laid_unicode_utf8_first : DataW Unit := Go.Pinned.utf8First

/-- 'ablautlaw08.LawChecks': WHATEVER THE INPUT: true; the input reads as it did. -/
def lawChecksSpec : ChangeSpec := { name := "lawChecks", fn := fun _ => fun
  | [d] => { results := [.lit (.bool true)], args := [d] }
  | _ => none }
def lawChecksRow : OpenClaim := { program := "ytedhogbocifipaagreatdoor", sum := "65928dd28a663428d05812ea63890a7239aba3cbf811d765e2039cec458ee383", func := "ablaut/ablautlaw08.LawChecks", spec := "lawChecks", inPlace := ["internal/bytealg.IndexByteString", "internal/bytealg.IndexString"], unfollowed := true, recurses := true, named := ["unicode/utf8.first", "unicode/utf8.acceptRanges", "math/bits.deBruijn64tab", "internal/bytealg.MaxLen"], loops := true, apart := false, laid := [("math/bits.deBruijn64tab", laid_math_bits_deBruijn64tab), ("unicode/utf8.acceptRanges", laid_unicode_utf8_acceptRanges), ("unicode/utf8.first", laid_unicode_utf8_first)] }
def LawChecksSaid : Prop := lawChecksRow.holds Tryz.pinned (OpenSpec.ofChange lawChecksSpec)

/-- ITS FALSE NEIGHBOUR: 'it returns false'. Refute it at one input. -/
def lawChecksWrong : ChangeSpec := { name := "lawChecks", fn := fun _ => fun
  | [d] => { results := [.lit (.bool false)], args := [d] }
  | _ => none }
def LawChecksWrongFalsely : Prop := lawChecksRow.holds Tryz.pinned (OpenSpec.ofChange lawChecksWrong)

/-- 'ablautlaw08.LawHits': WHATEVER THE INPUT: true; the input reads as it did. -/
def lawHitsSpec : ChangeSpec := { name := "lawHits", fn := fun _ => fun
  | [d1, d2] => { results := [.lit (.bool true)], args := [d1, d2] }
  | _ => none }
def lawHitsRow : OpenClaim := { program := "ytedhogbocifipaagreatdoor", sum := "65928dd28a663428d05812ea63890a7239aba3cbf811d765e2039cec458ee383", func := "ablaut/ablautlaw08.LawHits", spec := "lawHits", inPlace := ["internal/bytealg.IndexByteString", "internal/bytealg.IndexString"], unfollowed := true, recurses := true, named := ["unicode/utf8.first", "unicode/utf8.acceptRanges", "math/bits.deBruijn64tab", "internal/bytealg.MaxLen"], loops := true, apart := false, laid := [("math/bits.deBruijn64tab", laid_math_bits_deBruijn64tab), ("unicode/utf8.acceptRanges", laid_unicode_utf8_acceptRanges), ("unicode/utf8.first", laid_unicode_utf8_first)] }
def LawHitsSaid : Prop := lawHitsRow.holds Tryz.pinned (OpenSpec.ofChange lawHitsSpec)

/-- ITS FALSE NEIGHBOUR: 'it returns false'. Refute it at one input. -/
def lawHitsWrong : ChangeSpec := { name := "lawHits", fn := fun _ => fun
  | [d1, d2] => { results := [.lit (.bool false)], args := [d1, d2] }
  | _ => none }
def LawHitsWrongFalsely : Prop := lawHitsRow.holds Tryz.pinned (OpenSpec.ofChange lawHitsWrong)

/-- 'ablautlaw08.LawTraces': WHATEVER THE INPUT: true; the input reads as it did. -/
def lawTracesSpec : ChangeSpec := { name := "lawTraces", fn := fun _ => fun
  | [d1, d2] => { results := [.lit (.bool true)], args := [d1, d2] }
  | _ => none }
def lawTracesRow : OpenClaim := { program := "ytedhogbocifipaagreatdoor", sum := "65928dd28a663428d05812ea63890a7239aba3cbf811d765e2039cec458ee383", func := "ablaut/ablautlaw08.LawTraces", spec := "lawTraces", inPlace := ["internal/bytealg.IndexByteString", "internal/bytealg.IndexString"], unfollowed := true, recurses := true, named := ["unicode/utf8.first", "unicode/utf8.acceptRanges", "math/bits.deBruijn64tab", "internal/bytealg.MaxLen"], loops := true, apart := false, laid := [("math/bits.deBruijn64tab", laid_math_bits_deBruijn64tab), ("unicode/utf8.acceptRanges", laid_unicode_utf8_acceptRanges), ("unicode/utf8.first", laid_unicode_utf8_first)] }
def LawTracesSaid : Prop := lawTracesRow.holds Tryz.pinned (OpenSpec.ofChange lawTracesSpec)

/-- ITS FALSE NEIGHBOUR: 'it returns false'. Refute it at one input. -/
def lawTracesWrong : ChangeSpec := { name := "lawTraces", fn := fun _ => fun
  | [d1, d2] => { results := [.lit (.bool false)], args := [d1, d2] }
  | _ => none }
def LawTracesWrongFalsely : Prop := lawTracesRow.holds Tryz.pinned (OpenSpec.ofChange lawTracesWrong)

/-- 'ablautlaw08.LawLengths': WHATEVER THE INPUT: true; the input reads as it did. -/
def lawLengthsSpec : ChangeSpec := { name := "lawLengths", fn := fun _ => fun
  | [d1, d2] => { results := [.lit (.bool true)], args := [d1, d2] }
  | _ => none }
def lawLengthsRow : OpenClaim := { program := "ytedhogbocifipaagreatdoor", sum := "65928dd28a663428d05812ea63890a7239aba3cbf811d765e2039cec458ee383", func := "ablaut/ablautlaw08.LawLengths", spec := "lawLengths", inPlace := ["internal/bytealg.IndexByteString", "internal/bytealg.IndexString"], unfollowed := true, recurses := true, named := ["unicode/utf8.first", "unicode/utf8.acceptRanges", "math/bits.deBruijn64tab", "internal/bytealg.MaxLen"], loops := true, apart := false, laid := [("math/bits.deBruijn64tab", laid_math_bits_deBruijn64tab), ("unicode/utf8.acceptRanges", laid_unicode_utf8_acceptRanges), ("unicode/utf8.first", laid_unicode_utf8_first)] }
def LawLengthsSaid : Prop := lawLengthsRow.holds Tryz.pinned (OpenSpec.ofChange lawLengthsSpec)

/-- ITS FALSE NEIGHBOUR: 'it returns false'. Refute it at one input. -/
def lawLengthsWrong : ChangeSpec := { name := "lawLengths", fn := fun _ => fun
  | [d1, d2] => { results := [.lit (.bool false)], args := [d1, d2] }
  | _ => none }
def LawLengthsWrongFalsely : Prop := lawLengthsRow.holds Tryz.pinned (OpenSpec.ofChange lawLengthsWrong)

/-- 'ablautlaw08.LawAlone': WHATEVER THE INPUT: true; the input reads as it did. -/
def lawAloneSpec : ChangeSpec := { name := "lawAlone", fn := fun _ => fun
  | [d1, d2, d3] => { results := [.lit (.bool true)], args := [d1, d2, d3] }
  | _ => none }
def lawAloneRow : OpenClaim := { program := "ytedhogbocifipaagreatdoor", sum := "65928dd28a663428d05812ea63890a7239aba3cbf811d765e2039cec458ee383", func := "ablaut/ablautlaw08.LawAlone", spec := "lawAlone", inPlace := ["internal/bytealg.IndexByteString", "internal/bytealg.IndexString"], unfollowed := true, recurses := true, named := ["unicode/utf8.first", "unicode/utf8.acceptRanges", "math/bits.deBruijn64tab", "internal/bytealg.MaxLen"], loops := true, apart := false, laid := [("math/bits.deBruijn64tab", laid_math_bits_deBruijn64tab), ("unicode/utf8.acceptRanges", laid_unicode_utf8_acceptRanges), ("unicode/utf8.first", laid_unicode_utf8_first)] }
def LawAloneSaid : Prop := lawAloneRow.holds Tryz.pinned (OpenSpec.ofChange lawAloneSpec)

/-- ITS FALSE NEIGHBOUR: 'it returns false'. Refute it at one input. -/
def lawAloneWrong : ChangeSpec := { name := "lawAlone", fn := fun _ => fun
  | [d1, d2, d3] => { results := [.lit (.bool false)], args := [d1, d2, d3] }
  | _ => none }
def LawAloneWrongFalsely : Prop := lawAloneRow.holds Tryz.pinned (OpenSpec.ofChange lawAloneWrong)

/-- 'ablautlaw08.LawOnce': WHATEVER THE INPUT: true; the input reads as it did. -/
def lawOnceSpec : ChangeSpec := { name := "lawOnce", fn := fun _ => fun
  | [d1, d2, d3] => { results := [.lit (.bool true)], args := [d1, d2, d3] }
  | _ => none }
def lawOnceRow : OpenClaim := { program := "ytedhogbocifipaagreatdoor", sum := "65928dd28a663428d05812ea63890a7239aba3cbf811d765e2039cec458ee383", func := "ablaut/ablautlaw08.LawOnce", spec := "lawOnce", inPlace := ["internal/bytealg.IndexByteString", "internal/bytealg.IndexString"], unfollowed := true, recurses := true, named := ["unicode/utf8.first", "unicode/utf8.acceptRanges", "math/bits.deBruijn64tab", "internal/bytealg.MaxLen"], loops := true, apart := false, laid := [("math/bits.deBruijn64tab", laid_math_bits_deBruijn64tab), ("unicode/utf8.acceptRanges", laid_unicode_utf8_acceptRanges), ("unicode/utf8.first", laid_unicode_utf8_first)] }
def LawOnceSaid : Prop := lawOnceRow.holds Tryz.pinned (OpenSpec.ofChange lawOnceSpec)

/-- ITS FALSE NEIGHBOUR: 'it returns false'. Refute it at one input. -/
def lawOnceWrong : ChangeSpec := { name := "lawOnce", fn := fun _ => fun
  | [d1, d2, d3] => { results := [.lit (.bool false)], args := [d1, d2, d3] }
  | _ => none }
def LawOnceWrongFalsely : Prop := lawOnceRow.holds Tryz.pinned (OpenSpec.ofChange lawOnceWrong)

/-- 'ablautlaw08.LawApplies': WHATEVER THE INPUT: true; the input reads as it did. -/
def lawAppliesSpec : ChangeSpec := { name := "lawApplies", fn := fun _ => fun
  | [d1, d2] => { results := [.lit (.bool true)], args := [d1, d2] }
  | _ => none }
def lawAppliesRow : OpenClaim := { program := "ytedhogbocifipaagreatdoor", sum := "65928dd28a663428d05812ea63890a7239aba3cbf811d765e2039cec458ee383", func := "ablaut/ablautlaw08.LawApplies", spec := "lawApplies", inPlace := ["internal/bytealg.IndexByteString", "internal/bytealg.IndexString"], unfollowed := true, recurses := true, named := ["unicode/utf8.first", "unicode/utf8.acceptRanges", "math/bits.deBruijn64tab", "internal/bytealg.MaxLen"], loops := true, apart := false, laid := [("math/bits.deBruijn64tab", laid_math_bits_deBruijn64tab), ("unicode/utf8.acceptRanges", laid_unicode_utf8_acceptRanges), ("unicode/utf8.first", laid_unicode_utf8_first)] }
def LawAppliesSaid : Prop := lawAppliesRow.holds Tryz.pinned (OpenSpec.ofChange lawAppliesSpec)

/-- ITS FALSE NEIGHBOUR: 'it returns false'. Refute it at one input. -/
def lawAppliesWrong : ChangeSpec := { name := "lawApplies", fn := fun _ => fun
  | [d1, d2] => { results := [.lit (.bool false)], args := [d1, d2] }
  | _ => none }
def LawAppliesWrongFalsely : Prop := lawAppliesRow.holds Tryz.pinned (OpenSpec.ofChange lawAppliesWrong)

/-- 'ablautlaw08.LawMisses': WHATEVER THE INPUT: true; the input reads as it did. -/
def lawMissesSpec : ChangeSpec := { name := "lawMisses", fn := fun _ => fun
  | [d1, d2] => { results := [.lit (.bool true)], args := [d1, d2] }
  | _ => none }
def lawMissesRow : OpenClaim := { program := "ytedhogbocifipaagreatdoor", sum := "65928dd28a663428d05812ea63890a7239aba3cbf811d765e2039cec458ee383", func := "ablaut/ablautlaw08.LawMisses", spec := "lawMisses", inPlace := ["internal/bytealg.IndexByteString", "internal/bytealg.IndexString"], unfollowed := true, recurses := true, named := ["unicode/utf8.first", "unicode/utf8.acceptRanges", "math/bits.deBruijn64tab", "internal/bytealg.MaxLen"], loops := true, apart := false, laid := [("math/bits.deBruijn64tab", laid_math_bits_deBruijn64tab), ("unicode/utf8.acceptRanges", laid_unicode_utf8_acceptRanges), ("unicode/utf8.first", laid_unicode_utf8_first)] }
def LawMissesSaid : Prop := lawMissesRow.holds Tryz.pinned (OpenSpec.ofChange lawMissesSpec)

/-- ITS FALSE NEIGHBOUR: 'it returns false'. Refute it at one input. -/
def lawMissesWrong : ChangeSpec := { name := "lawMisses", fn := fun _ => fun
  | [d1, d2] => { results := [.lit (.bool false)], args := [d1, d2] }
  | _ => none }
def LawMissesWrongFalsely : Prop := lawMissesRow.holds Tryz.pinned (OpenSpec.ofChange lawMissesWrong)

/-- 'ablautlaw08.LawMirrors': WHATEVER THE INPUT: true; the input reads as it did. -/
def lawMirrorsSpec : ChangeSpec := { name := "lawMirrors", fn := fun _ => fun
  | [d1, d2] => { results := [.lit (.bool true)], args := [d1, d2] }
  | _ => none }
def lawMirrorsRow : OpenClaim := { program := "ytedhogbocifipaagreatdoor", sum := "65928dd28a663428d05812ea63890a7239aba3cbf811d765e2039cec458ee383", func := "ablaut/ablautlaw08.LawMirrors", spec := "lawMirrors", inPlace := ["internal/bytealg.IndexByteString", "internal/bytealg.IndexString"], unfollowed := true, recurses := true, named := ["unicode/utf8.first", "unicode/utf8.acceptRanges", "math/bits.deBruijn64tab", "internal/bytealg.MaxLen"], loops := true, apart := false, laid := [("math/bits.deBruijn64tab", laid_math_bits_deBruijn64tab), ("unicode/utf8.acceptRanges", laid_unicode_utf8_acceptRanges), ("unicode/utf8.first", laid_unicode_utf8_first)] }
def LawMirrorsSaid : Prop := lawMirrorsRow.holds Tryz.pinned (OpenSpec.ofChange lawMirrorsSpec)

/-- ITS FALSE NEIGHBOUR: 'it returns false'. Refute it at one input. -/
def lawMirrorsWrong : ChangeSpec := { name := "lawMirrors", fn := fun _ => fun
  | [d1, d2] => { results := [.lit (.bool false)], args := [d1, d2] }
  | _ => none }
def LawMirrorsWrongFalsely : Prop := lawMirrorsRow.holds Tryz.pinned (OpenSpec.ofChange lawMirrorsWrong)

/-- 'ablautlaw08.LawEquals': WHATEVER THE INPUT: true; the input reads as it did. -/
def lawEqualsSpec : ChangeSpec := { name := "lawEquals", fn := fun _ => fun
  | [d1, d2] => { results := [.lit (.bool true)], args := [d1, d2] }
  | _ => none }
def lawEqualsRow : OpenClaim := { program := "ytedhogbocifipaagreatdoor", sum := "65928dd28a663428d05812ea63890a7239aba3cbf811d765e2039cec458ee383", func := "ablaut/ablautlaw08.LawEquals", spec := "lawEquals", inPlace := ["internal/bytealg.IndexByteString", "internal/bytealg.IndexString"], unfollowed := true, recurses := true, named := ["unicode/utf8.first", "unicode/utf8.acceptRanges", "math/bits.deBruijn64tab", "internal/bytealg.MaxLen"], loops := true, apart := false, laid := [("math/bits.deBruijn64tab", laid_math_bits_deBruijn64tab), ("unicode/utf8.acceptRanges", laid_unicode_utf8_acceptRanges), ("unicode/utf8.first", laid_unicode_utf8_first)] }
def LawEqualsSaid : Prop := lawEqualsRow.holds Tryz.pinned (OpenSpec.ofChange lawEqualsSpec)

/-- ITS FALSE NEIGHBOUR: 'it returns false'. Refute it at one input. -/
def lawEqualsWrong : ChangeSpec := { name := "lawEquals", fn := fun _ => fun
  | [d1, d2] => { results := [.lit (.bool false)], args := [d1, d2] }
  | _ => none }
def LawEqualsWrongFalsely : Prop := lawEqualsRow.holds Tryz.pinned (OpenSpec.ofChange lawEqualsWrong)

/-- 'ablautlaw08.LawSettles': WHATEVER THE INPUT: true; the input reads as it did. -/
def lawSettlesSpec : ChangeSpec := { name := "lawSettles", fn := fun _ => fun
  | [d1, d2, d3] => { results := [.lit (.bool true)], args := [d1, d2, d3] }
  | _ => none }
def lawSettlesRow : OpenClaim := { program := "ytedhogbocifipaagreatdoor", sum := "65928dd28a663428d05812ea63890a7239aba3cbf811d765e2039cec458ee383", func := "ablaut/ablautlaw08.LawSettles", spec := "lawSettles", inPlace := ["internal/bytealg.IndexByteString", "internal/bytealg.IndexString"], unfollowed := true, recurses := true, named := ["unicode/utf8.first", "unicode/utf8.acceptRanges", "math/bits.deBruijn64tab", "internal/bytealg.MaxLen"], loops := true, apart := false, laid := [("math/bits.deBruijn64tab", laid_math_bits_deBruijn64tab), ("unicode/utf8.acceptRanges", laid_unicode_utf8_acceptRanges), ("unicode/utf8.first", laid_unicode_utf8_first)] }
def LawSettlesSaid : Prop := lawSettlesRow.holds Tryz.pinned (OpenSpec.ofChange lawSettlesSpec)

/-- ITS FALSE NEIGHBOUR: 'it returns false'. Refute it at one input. -/
def lawSettlesWrong : ChangeSpec := { name := "lawSettles", fn := fun _ => fun
  | [d1, d2, d3] => { results := [.lit (.bool false)], args := [d1, d2, d3] }
  | _ => none }
def LawSettlesWrongFalsely : Prop := lawSettlesRow.holds Tryz.pinned (OpenSpec.ofChange lawSettlesWrong)

/-- 'ablautlaw08.LawRests': WHATEVER THE INPUT: true; the input reads as it did. -/
def lawRestsSpec : ChangeSpec := { name := "lawRests", fn := fun _ => fun
  | [d1, d2, d3] => { results := [.lit (.bool true)], args := [d1, d2, d3] }
  | _ => none }
def lawRestsRow : OpenClaim := { program := "ytedhogbocifipaagreatdoor", sum := "65928dd28a663428d05812ea63890a7239aba3cbf811d765e2039cec458ee383", func := "ablaut/ablautlaw08.LawRests", spec := "lawRests", inPlace := ["internal/bytealg.IndexByteString", "internal/bytealg.IndexString"], unfollowed := true, recurses := true, named := ["unicode/utf8.first", "unicode/utf8.acceptRanges", "math/bits.deBruijn64tab", "internal/bytealg.MaxLen"], loops := true, apart := false, laid := [("math/bits.deBruijn64tab", laid_math_bits_deBruijn64tab), ("unicode/utf8.acceptRanges", laid_unicode_utf8_acceptRanges), ("unicode/utf8.first", laid_unicode_utf8_first)] }
def LawRestsSaid : Prop := lawRestsRow.holds Tryz.pinned (OpenSpec.ofChange lawRestsSpec)

/-- ITS FALSE NEIGHBOUR: 'it returns false'. Refute it at one input. -/
def lawRestsWrong : ChangeSpec := { name := "lawRests", fn := fun _ => fun
  | [d1, d2, d3] => { results := [.lit (.bool false)], args := [d1, d2, d3] }
  | _ => none }
def LawRestsWrongFalsely : Prop := lawRestsRow.holds Tryz.pinned (OpenSpec.ofChange lawRestsWrong)

/- THE SECOND FORM. 'bulk': how many values and letters a reading holds, each counted each time it is reached (what is shared counts as often as it is met; a slice's spare places count too). A statement '..UptoSaid' is the law's where the arguments, and the package variables that the reading takes, are together of bulk at most 1048576: NARROWER than '..Said'. Prove '..Said' where nothing that the law and all that it calls make is longer than what came in: it says more and counts as full. Else prove '..UptoSaid'. A law counts once. -/
mutual
def uptoBulk {H : Type} : DataW H → Nat
  | .lit (.string bytes) => bytes.length + 1
  | .lit _ => 1
  | .nil => 1
  | .ptr d => uptoBulk d + 1
  | .slice elems spare => uptoBulkAll elems + uptoBulkAll spare + 1
  | .agg parts => uptoBulkAll parts + 1
  | .iface _ d => uptoBulk d + 1
  | .map entries => uptoBulkEntries entries + 1
  | .held _ => 1
def uptoBulkAll {H : Type} : List (DataW H) → Nat
  | [] => 0
  | d :: r => uptoBulk d + uptoBulkAll r
def uptoBulkEntries {H : Type} : List (Lit × DataW H) → Nat
  | [] => 0
  | x :: r => uptoBulkEntry x + uptoBulkEntries r
def uptoBulkEntry {H : Type} : Lit × DataW H → Nat
  | (.string bytes, d) => bytes.length + uptoBulk d + 1
  | (_, d) => uptoBulk d + 1
 end
def uptoSmall : (H : Type) → List (DataW H) → Bool := fun _ ds => decide (uptoBulkAll ds ≤ 1048576)
def OpenSpec.upto (s : _root_.Go.ChangeSpec) : _root_.Go.OpenSpec := { _root_.Go.OpenSpec.ofChange s with cond := some uptoSmall }

/-- 'ablautlaw08.LawChecks', WHERE WHAT IT READS IS OF BULK AT MOST 1048576: true; the input reads as it did. -/
def lawChecksUptoRow : OpenClaim := { program := "ytedhogbocifipaagreatdoor", sum := "65928dd28a663428d05812ea63890a7239aba3cbf811d765e2039cec458ee383", func := "ablaut/ablautlaw08.LawChecks", spec := "lawChecks", inPlace := ["internal/bytealg.IndexByteString", "internal/bytealg.IndexString"], unfollowed := true, recurses := true, named := ["unicode/utf8.first", "unicode/utf8.acceptRanges", "math/bits.deBruijn64tab", "internal/bytealg.MaxLen"], loops := true, apart := false, laid := [("math/bits.deBruijn64tab", laid_math_bits_deBruijn64tab), ("unicode/utf8.acceptRanges", laid_unicode_utf8_acceptRanges), ("unicode/utf8.first", laid_unicode_utf8_first)], narrowed := true }
def LawChecksUptoSaid : Prop := lawChecksUptoRow.holds Tryz.pinned (OpenSpec.upto lawChecksSpec)

/-- 'ablautlaw08.LawHits', WHERE WHAT IT READS IS OF BULK AT MOST 1048576: true; the input reads as it did. -/
def lawHitsUptoRow : OpenClaim := { program := "ytedhogbocifipaagreatdoor", sum := "65928dd28a663428d05812ea63890a7239aba3cbf811d765e2039cec458ee383", func := "ablaut/ablautlaw08.LawHits", spec := "lawHits", inPlace := ["internal/bytealg.IndexByteString", "internal/bytealg.IndexString"], unfollowed := true, recurses := true, named := ["unicode/utf8.first", "unicode/utf8.acceptRanges", "math/bits.deBruijn64tab", "internal/bytealg.MaxLen"], loops := true, apart := false, laid := [("math/bits.deBruijn64tab", laid_math_bits_deBruijn64tab), ("unicode/utf8.acceptRanges", laid_unicode_utf8_acceptRanges), ("unicode/utf8.first", laid_unicode_utf8_first)], narrowed := true }
def LawHitsUptoSaid : Prop := lawHitsUptoRow.holds Tryz.pinned (OpenSpec.upto lawHitsSpec)

/-- 'ablautlaw08.LawTraces', WHERE WHAT IT READS IS OF BULK AT MOST 1048576: true; the input reads as it did. -/
def lawTracesUptoRow : OpenClaim := { program := "ytedhogbocifipaagreatdoor", sum := "65928dd28a663428d05812ea63890a7239aba3cbf811d765e2039cec458ee383", func := "ablaut/ablautlaw08.LawTraces", spec := "lawTraces", inPlace := ["internal/bytealg.IndexByteString", "internal/bytealg.IndexString"], unfollowed := true, recurses := true, named := ["unicode/utf8.first", "unicode/utf8.acceptRanges", "math/bits.deBruijn64tab", "internal/bytealg.MaxLen"], loops := true, apart := false, laid := [("math/bits.deBruijn64tab", laid_math_bits_deBruijn64tab), ("unicode/utf8.acceptRanges", laid_unicode_utf8_acceptRanges), ("unicode/utf8.first", laid_unicode_utf8_first)], narrowed := true }
def LawTracesUptoSaid : Prop := lawTracesUptoRow.holds Tryz.pinned (OpenSpec.upto lawTracesSpec)

/-- 'ablautlaw08.LawLengths', WHERE WHAT IT READS IS OF BULK AT MOST 1048576: true; the input reads as it did. -/
def lawLengthsUptoRow : OpenClaim := { program := "ytedhogbocifipaagreatdoor", sum := "65928dd28a663428d05812ea63890a7239aba3cbf811d765e2039cec458ee383", func := "ablaut/ablautlaw08.LawLengths", spec := "lawLengths", inPlace := ["internal/bytealg.IndexByteString", "internal/bytealg.IndexString"], unfollowed := true, recurses := true, named := ["unicode/utf8.first", "unicode/utf8.acceptRanges", "math/bits.deBruijn64tab", "internal/bytealg.MaxLen"], loops := true, apart := false, laid := [("math/bits.deBruijn64tab", laid_math_bits_deBruijn64tab), ("unicode/utf8.acceptRanges", laid_unicode_utf8_acceptRanges), ("unicode/utf8.first", laid_unicode_utf8_first)], narrowed := true }
def LawLengthsUptoSaid : Prop := lawLengthsUptoRow.holds Tryz.pinned (OpenSpec.upto lawLengthsSpec)

/-- 'ablautlaw08.LawAlone', WHERE WHAT IT READS IS OF BULK AT MOST 1048576: true; the input reads as it did. -/
def lawAloneUptoRow : OpenClaim := { program := "ytedhogbocifipaagreatdoor", sum := "65928dd28a663428d05812ea63890a7239aba3cbf811d765e2039cec458ee383", func := "ablaut/ablautlaw08.LawAlone", spec := "lawAlone", inPlace := ["internal/bytealg.IndexByteString", "internal/bytealg.IndexString"], unfollowed := true, recurses := true, named := ["unicode/utf8.first", "unicode/utf8.acceptRanges", "math/bits.deBruijn64tab", "internal/bytealg.MaxLen"], loops := true, apart := false, laid := [("math/bits.deBruijn64tab", laid_math_bits_deBruijn64tab), ("unicode/utf8.acceptRanges", laid_unicode_utf8_acceptRanges), ("unicode/utf8.first", laid_unicode_utf8_first)], narrowed := true }
def LawAloneUptoSaid : Prop := lawAloneUptoRow.holds Tryz.pinned (OpenSpec.upto lawAloneSpec)

/-- 'ablautlaw08.LawOnce', WHERE WHAT IT READS IS OF BULK AT MOST 1048576: true; the input reads as it did. -/
def lawOnceUptoRow : OpenClaim := { program := "ytedhogbocifipaagreatdoor", sum := "65928dd28a663428d05812ea63890a7239aba3cbf811d765e2039cec458ee383", func := "ablaut/ablautlaw08.LawOnce", spec := "lawOnce", inPlace := ["internal/bytealg.IndexByteString", "internal/bytealg.IndexString"], unfollowed := true, recurses := true, named := ["unicode/utf8.first", "unicode/utf8.acceptRanges", "math/bits.deBruijn64tab", "internal/bytealg.MaxLen"], loops := true, apart := false, laid := [("math/bits.deBruijn64tab", laid_math_bits_deBruijn64tab), ("unicode/utf8.acceptRanges", laid_unicode_utf8_acceptRanges), ("unicode/utf8.first", laid_unicode_utf8_first)], narrowed := true }
def LawOnceUptoSaid : Prop := lawOnceUptoRow.holds Tryz.pinned (OpenSpec.upto lawOnceSpec)

/-- 'ablautlaw08.LawApplies', WHERE WHAT IT READS IS OF BULK AT MOST 1048576: true; the input reads as it did. -/
def lawAppliesUptoRow : OpenClaim := { program := "ytedhogbocifipaagreatdoor", sum := "65928dd28a663428d05812ea63890a7239aba3cbf811d765e2039cec458ee383", func := "ablaut/ablautlaw08.LawApplies", spec := "lawApplies", inPlace := ["internal/bytealg.IndexByteString", "internal/bytealg.IndexString"], unfollowed := true, recurses := true, named := ["unicode/utf8.first", "unicode/utf8.acceptRanges", "math/bits.deBruijn64tab", "internal/bytealg.MaxLen"], loops := true, apart := false, laid := [("math/bits.deBruijn64tab", laid_math_bits_deBruijn64tab), ("unicode/utf8.acceptRanges", laid_unicode_utf8_acceptRanges), ("unicode/utf8.first", laid_unicode_utf8_first)], narrowed := true }
def LawAppliesUptoSaid : Prop := lawAppliesUptoRow.holds Tryz.pinned (OpenSpec.upto lawAppliesSpec)

/-- 'ablautlaw08.LawMisses', WHERE WHAT IT READS IS OF BULK AT MOST 1048576: true; the input reads as it did. -/
def lawMissesUptoRow : OpenClaim := { program := "ytedhogbocifipaagreatdoor", sum := "65928dd28a663428d05812ea63890a7239aba3cbf811d765e2039cec458ee383", func := "ablaut/ablautlaw08.LawMisses", spec := "lawMisses", inPlace := ["internal/bytealg.IndexByteString", "internal/bytealg.IndexString"], unfollowed := true, recurses := true, named := ["unicode/utf8.first", "unicode/utf8.acceptRanges", "math/bits.deBruijn64tab", "internal/bytealg.MaxLen"], loops := true, apart := false, laid := [("math/bits.deBruijn64tab", laid_math_bits_deBruijn64tab), ("unicode/utf8.acceptRanges", laid_unicode_utf8_acceptRanges), ("unicode/utf8.first", laid_unicode_utf8_first)], narrowed := true }
def LawMissesUptoSaid : Prop := lawMissesUptoRow.holds Tryz.pinned (OpenSpec.upto lawMissesSpec)

/-- 'ablautlaw08.LawMirrors', WHERE WHAT IT READS IS OF BULK AT MOST 1048576: true; the input reads as it did. -/
def lawMirrorsUptoRow : OpenClaim := { program := "ytedhogbocifipaagreatdoor", sum := "65928dd28a663428d05812ea63890a7239aba3cbf811d765e2039cec458ee383", func := "ablaut/ablautlaw08.LawMirrors", spec := "lawMirrors", inPlace := ["internal/bytealg.IndexByteString", "internal/bytealg.IndexString"], unfollowed := true, recurses := true, named := ["unicode/utf8.first", "unicode/utf8.acceptRanges", "math/bits.deBruijn64tab", "internal/bytealg.MaxLen"], loops := true, apart := false, laid := [("math/bits.deBruijn64tab", laid_math_bits_deBruijn64tab), ("unicode/utf8.acceptRanges", laid_unicode_utf8_acceptRanges), ("unicode/utf8.first", laid_unicode_utf8_first)], narrowed := true }
def LawMirrorsUptoSaid : Prop := lawMirrorsUptoRow.holds Tryz.pinned (OpenSpec.upto lawMirrorsSpec)

/-- 'ablautlaw08.LawEquals', WHERE WHAT IT READS IS OF BULK AT MOST 1048576: true; the input reads as it did. -/
def lawEqualsUptoRow : OpenClaim := { program := "ytedhogbocifipaagreatdoor", sum := "65928dd28a663428d05812ea63890a7239aba3cbf811d765e2039cec458ee383", func := "ablaut/ablautlaw08.LawEquals", spec := "lawEquals", inPlace := ["internal/bytealg.IndexByteString", "internal/bytealg.IndexString"], unfollowed := true, recurses := true, named := ["unicode/utf8.first", "unicode/utf8.acceptRanges", "math/bits.deBruijn64tab", "internal/bytealg.MaxLen"], loops := true, apart := false, laid := [("math/bits.deBruijn64tab", laid_math_bits_deBruijn64tab), ("unicode/utf8.acceptRanges", laid_unicode_utf8_acceptRanges), ("unicode/utf8.first", laid_unicode_utf8_first)], narrowed := true }
def LawEqualsUptoSaid : Prop := lawEqualsUptoRow.holds Tryz.pinned (OpenSpec.upto lawEqualsSpec)

/-- 'ablautlaw08.LawSettles', WHERE WHAT IT READS IS OF BULK AT MOST 1048576: true; the input reads as it did. -/
def lawSettlesUptoRow : OpenClaim := { program := "ytedhogbocifipaagreatdoor", sum := "65928dd28a663428d05812ea63890a7239aba3cbf811d765e2039cec458ee383", func := "ablaut/ablautlaw08.LawSettles", spec := "lawSettles", inPlace := ["internal/bytealg.IndexByteString", "internal/bytealg.IndexString"], unfollowed := true, recurses := true, named := ["unicode/utf8.first", "unicode/utf8.acceptRanges", "math/bits.deBruijn64tab", "internal/bytealg.MaxLen"], loops := true, apart := false, laid := [("math/bits.deBruijn64tab", laid_math_bits_deBruijn64tab), ("unicode/utf8.acceptRanges", laid_unicode_utf8_acceptRanges), ("unicode/utf8.first", laid_unicode_utf8_first)], narrowed := true }
def LawSettlesUptoSaid : Prop := lawSettlesUptoRow.holds Tryz.pinned (OpenSpec.upto lawSettlesSpec)

/-- 'ablautlaw08.LawRests', WHERE WHAT IT READS IS OF BULK AT MOST 1048576: true; the input reads as it did. -/
def lawRestsUptoRow : OpenClaim := { program := "ytedhogbocifipaagreatdoor", sum := "65928dd28a663428d05812ea63890a7239aba3cbf811d765e2039cec458ee383", func := "ablaut/ablautlaw08.LawRests", spec := "lawRests", inPlace := ["internal/bytealg.IndexByteString", "internal/bytealg.IndexString"], unfollowed := true, recurses := true, named := ["unicode/utf8.first", "unicode/utf8.acceptRanges", "math/bits.deBruijn64tab", "internal/bytealg.MaxLen"], loops := true, apart := false, laid := [("math/bits.deBruijn64tab", laid_math_bits_deBruijn64tab), ("unicode/utf8.acceptRanges", laid_unicode_utf8_acceptRanges), ("unicode/utf8.first", laid_unicode_utf8_first)], narrowed := true }
def LawRestsUptoSaid : Prop := lawRestsUptoRow.holds Tryz.pinned (OpenSpec.upto lawRestsSpec)

end Rows
end Go.Proofs.YtedhogbocifipaaGreatDoor
