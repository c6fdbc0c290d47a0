/-
  NARROWER THAN 'FOR EVERY INPUT', by the rows' own cells (each row's printed sentence says how): MergersOutcomes: loops, laid · MergersSounds: loops, laid · MergersMore: loops, laid · MergersSizes: laid · MergersChains: laid · MergersFrames: loops, laid · MergersSteps: laid · MergersLabels: loops, laid · MergersPhonemes: loops, laid · MergersNothing: laid · MergersMany: laid · MergersTurns: laid.
  DERIVED. THE GIVEN ROWS OF THIS SEAT. 12 by the template 'for every input the law returns true; each argument reads behind the call as it read before'; 0 by the template 'total and deterministic' (their statements: YtejenndedjabhaaGreatDoorTotals.lean).
  GIVEN WITH THE SEED: the statements are not yours to turn. If you find one false, say at which input.
  Laid BY PROGRAM, IN A SANDBOX (cutbox-rows.mjs): the forced cells as the released guide's own fill.sh prints them over the translation 7df3fd0c8fd393e9… (all of the seat's roots in one cut). By AI agents, Wed Nov 11 2026. No macro, syntax, notation, axiom, sorry.
-/
import Derived.Test.YtejenndedjabhaaGreatDoorChecked
import GoSem.PinnedTables
import GoSem.Claim
import GoSem.ClaimJoined
import GoSem.ClaimMapViews
import Derived.JoinedTies
import Derived.KernelRfl
namespace Go.Proofs.YtejenndedjabhaaGreatDoor
/- THE CELL 'sum', in the pinned program and in every row, IS THE sha256 OF THE DUMP (.gsa) THAT YtejenndedjabhaaGreatDoorProg.lean LOADS. Nothing in Lean hashes anything: it is a label: what it is worth is what the hold of that sum in a sandbox is worth. -/
noncomputable def Tryz.pinned : Pinned := { name := "ytejenndedjabhaagreatdoor", sum := "7df3fd0c8fd393e904a31fdc30a74ed80b84191d6f6a1df762e983dcea667e9b", checked := Tryz.checked }
namespace Rows
def none {H : Type} : Left H := { results := [], args := [] }

/- WHAT THE LISTED PACKAGE-LEVEL VARIABLES READ AS WHEN THE CALL BEGINS. Each datum BY PROGRAM (the guide's laid-datum.mjs) off the statement by which the dump's own 'gosem.cut.vars' lays the variable. In a bare row this is a premise. The card (YtejenndedjabhaaGreatDoorCards.lean) ties it to the program's text. -/
def laid_math_bits_deBruijn64tab {H : Type} : DataW H := .agg [.lit (.int .u8 0), .lit (.int .u8 1), .lit (.int .u8 56), .lit (.int .u8 2), .lit (.int .u8 57), .lit (.int .u8 49), .lit (.int .u8 28), .lit (.int .u8 3), .lit (.int .u8 61), .lit (.int .u8 58), .lit (.int .u8 42), .lit (.int .u8 50), .lit (.int .u8 38), .lit (.int .u8 29), .lit (.int .u8 17), .lit (.int .u8 4), .lit (.int .u8 62), .lit (.int .u8 47), .lit (.int .u8 59), .lit (.int .u8 36), .lit (.int .u8 45), .lit (.int .u8 43), .lit (.int .u8 51), .lit (.int .u8 22), .lit (.int .u8 53), .lit (.int .u8 39), .lit (.int .u8 33), .lit (.int .u8 30), .lit (.int .u8 24), .lit (.int .u8 18), .lit (.int .u8 12), .lit (.int .u8 5), .lit (.int .u8 63), .lit (.int .u8 55), .lit (.int .u8 48), .lit (.int .u8 27), .lit (.int .u8 60), .lit (.int .u8 41), .lit (.int .u8 37), .lit (.int .u8 16), .lit (.int .u8 46), .lit (.int .u8 35), .lit (.int .u8 44), .lit (.int .u8 21), .lit (.int .u8 52), .lit (.int .u8 32), .lit (.int .u8 23), .lit (.int .u8 11), .lit (.int .u8 54), .lit (.int .u8 26), .lit (.int .u8 40), .lit (.int .u8 15), .lit (.int .u8 34), .lit (.int .u8 20), .lit (.int .u8 31), .lit (.int .u8 10), .lit (.int .u8 25), .lit (.int .u8 14), .lit (.int .u8 19), .lit (.int .u8 9), .lit (.int .u8 13), .lit (.int .u8 8), .lit (.int .u8 7), .lit (.int .u8 6)]
def laid_unicode_utf8_acceptRanges {H : Type} : DataW H := .agg [.agg [.lit (.int .u8 128), .lit (.int .u8 191)], .agg [.lit (.int .u8 160), .lit (.int .u8 191)], .agg [.lit (.int .u8 128), .lit (.int .u8 159)], .agg [.lit (.int .u8 144), .lit (.int .u8 191)], .agg [.lit (.int .u8 128), .lit (.int .u8 143)], .agg [.lit (.int .u8 0), .lit (.int .u8 0)], .agg [.lit (.int .u8 0), .lit (.int .u8 0)], .agg [.lit (.int .u8 0), .lit (.int .u8 0)], .agg [.lit (.int .u8 0), .lit (.int .u8 0)], .agg [.lit (.int .u8 0), .lit (.int .u8 0)], .agg [.lit (.int .u8 0), .lit (.int .u8 0)], .agg [.lit (.int .u8 0), .lit (.int .u8 0)], .agg [.lit (.int .u8 0), .lit (.int .u8 0)], .agg [.lit (.int .u8 0), .lit (.int .u8 0)], .agg [.lit (.int .u8 0), .lit (.int .u8 0)], .agg [.lit (.int .u8 0), .lit (.int .u8 0)]]
/-- One of Go's own tables, pinned by name: the form's constant. -/
def laid_unicode_utf8_first : DataW Unit := Go.Pinned.utf8First

/-- 'ablautlaw15.MergersOutcomes': WHATEVER THE INPUT: true; the input reads as it did. -/
def mergersOutcomesSpec : ChangeSpec := { name := "mergersOutcomes", fn := fun _ => fun
  | [d] => { results := [.lit (.bool true)], args := [d] }
  | _ => none }
def mergersOutcomesRow : OpenClaim := { program := "ytejenndedjabhaagreatdoor", sum := "7df3fd0c8fd393e904a31fdc30a74ed80b84191d6f6a1df762e983dcea667e9b", func := "ablaut/ablautlaw15.MergersOutcomes", spec := "mergersOutcomes", inPlace := ["internal/bytealg.IndexByteString", "internal/bytealg.IndexString", "internal/abi.NoEscape"], unfollowed := true, recurses := true, named := ["unicode/utf8.first", "unicode/utf8.acceptRanges", "math/bits.deBruijn64tab", "internal/bytealg.MaxLen"], loops := true, apart := false, laid := [("math/bits.deBruijn64tab", laid_math_bits_deBruijn64tab), ("unicode/utf8.acceptRanges", laid_unicode_utf8_acceptRanges), ("unicode/utf8.first", laid_unicode_utf8_first)] }
def MergersOutcomesSaid : Prop := mergersOutcomesRow.holds Tryz.pinned (OpenSpec.ofChange mergersOutcomesSpec)

/-- ITS FALSE NEIGHBOUR: 'it returns false'. Refute it at one input. -/
def mergersOutcomesWrong : ChangeSpec := { name := "mergersOutcomes", fn := fun _ => fun
  | [d] => { results := [.lit (.bool false)], args := [d] }
  | _ => none }
def MergersOutcomesWrongFalsely : Prop := mergersOutcomesRow.holds Tryz.pinned (OpenSpec.ofChange mergersOutcomesWrong)

/-- 'ablautlaw15.MergersSounds': WHATEVER THE INPUT: true; the input reads as it did. -/
def mergersSoundsSpec : ChangeSpec := { name := "mergersSounds", fn := fun _ => fun
  | [d] => { results := [.lit (.bool true)], args := [d] }
  | _ => none }
def mergersSoundsRow : OpenClaim := { program := "ytejenndedjabhaagreatdoor", sum := "7df3fd0c8fd393e904a31fdc30a74ed80b84191d6f6a1df762e983dcea667e9b", func := "ablaut/ablautlaw15.MergersSounds", spec := "mergersSounds", inPlace := ["internal/bytealg.IndexByteString", "internal/bytealg.IndexString", "internal/abi.NoEscape"], unfollowed := true, recurses := true, named := ["unicode/utf8.first", "unicode/utf8.acceptRanges", "math/bits.deBruijn64tab", "internal/bytealg.MaxLen"], loops := true, apart := false, laid := [("math/bits.deBruijn64tab", laid_math_bits_deBruijn64tab), ("unicode/utf8.acceptRanges", laid_unicode_utf8_acceptRanges), ("unicode/utf8.first", laid_unicode_utf8_first)] }
def MergersSoundsSaid : Prop := mergersSoundsRow.holds Tryz.pinned (OpenSpec.ofChange mergersSoundsSpec)

/-- ITS FALSE NEIGHBOUR: 'it returns false'. Refute it at one input. -/
def mergersSoundsWrong : ChangeSpec := { name := "mergersSounds", fn := fun _ => fun
  | [d] => { results := [.lit (.bool false)], args := [d] }
  | _ => none }
def MergersSoundsWrongFalsely : Prop := mergersSoundsRow.holds Tryz.pinned (OpenSpec.ofChange mergersSoundsWrong)

/-- 'ablautlaw15.MergersMore': WHATEVER THE INPUT: true; the input reads as it did. -/
def mergersMoreSpec : ChangeSpec := { name := "mergersMore", fn := fun _ => fun
  | [d1, d2, d3, d4] => { results := [.lit (.bool true)], args := [d1, d2, d3, d4] }
  | _ => none }
def mergersMoreRow : OpenClaim := { program := "ytejenndedjabhaagreatdoor", sum := "7df3fd0c8fd393e904a31fdc30a74ed80b84191d6f6a1df762e983dcea667e9b", func := "ablaut/ablautlaw15.MergersMore", spec := "mergersMore", inPlace := ["internal/bytealg.IndexByteString", "internal/bytealg.IndexString", "internal/abi.NoEscape"], unfollowed := true, recurses := true, named := ["unicode/utf8.first", "unicode/utf8.acceptRanges", "math/bits.deBruijn64tab", "internal/bytealg.MaxLen"], loops := true, apart := false, laid := [("math/bits.deBruijn64tab", laid_math_bits_deBruijn64tab), ("unicode/utf8.acceptRanges", laid_unicode_utf8_acceptRanges), ("unicode/utf8.first", laid_unicode_utf8_first)] }
def MergersMoreSaid : Prop := mergersMoreRow.holds Tryz.pinned (OpenSpec.ofChange mergersMoreSpec)

/-- ITS FALSE NEIGHBOUR: 'it returns false'. Refute it at one input. -/
def mergersMoreWrong : ChangeSpec := { name := "mergersMore", fn := fun _ => fun
  | [d1, d2, d3, d4] => { results := [.lit (.bool false)], args := [d1, d2, d3, d4] }
  | _ => none }
def MergersMoreWrongFalsely : Prop := mergersMoreRow.holds Tryz.pinned (OpenSpec.ofChange mergersMoreWrong)

/-- 'ablautlaw15.MergersSizes': WHATEVER THE INPUT: true; the input reads as it did. -/
def mergersSizesSpec : ChangeSpec := { name := "mergersSizes", fn := fun _ => fun
  | [d] => { results := [.lit (.bool true)], args := [d] }
  | _ => none }
def mergersSizesRow : OpenClaim := { program := "ytejenndedjabhaagreatdoor", sum := "7df3fd0c8fd393e904a31fdc30a74ed80b84191d6f6a1df762e983dcea667e9b", func := "ablaut/ablautlaw15.MergersSizes", spec := "mergersSizes", inPlace := ["internal/bytealg.IndexByteString", "internal/bytealg.IndexString", "internal/abi.NoEscape"], unfollowed := true, recurses := true, named := ["unicode/utf8.first", "unicode/utf8.acceptRanges", "math/bits.deBruijn64tab", "internal/bytealg.MaxLen"], apart := false, laid := [("math/bits.deBruijn64tab", laid_math_bits_deBruijn64tab), ("unicode/utf8.acceptRanges", laid_unicode_utf8_acceptRanges), ("unicode/utf8.first", laid_unicode_utf8_first)] }
def MergersSizesSaid : Prop := mergersSizesRow.holds Tryz.pinned (OpenSpec.ofChange mergersSizesSpec)

/-- ITS FALSE NEIGHBOUR: 'it returns false'. Refute it at one input. -/
def mergersSizesWrong : ChangeSpec := { name := "mergersSizes", fn := fun _ => fun
  | [d] => { results := [.lit (.bool false)], args := [d] }
  | _ => none }
def MergersSizesWrongFalsely : Prop := mergersSizesRow.holds Tryz.pinned (OpenSpec.ofChange mergersSizesWrong)

/-- 'ablautlaw15.MergersChains': WHATEVER THE INPUT: true; the input reads as it did. -/
def mergersChainsSpec : ChangeSpec := { name := "mergersChains", fn := fun _ => fun
  | [d] => { results := [.lit (.bool true)], args := [d] }
  | _ => none }
def mergersChainsRow : OpenClaim := { program := "ytejenndedjabhaagreatdoor", sum := "7df3fd0c8fd393e904a31fdc30a74ed80b84191d6f6a1df762e983dcea667e9b", func := "ablaut/ablautlaw15.MergersChains", spec := "mergersChains", inPlace := ["internal/bytealg.IndexByteString", "internal/bytealg.IndexString", "internal/abi.NoEscape"], unfollowed := true, recurses := true, named := ["unicode/utf8.first", "unicode/utf8.acceptRanges", "math/bits.deBruijn64tab", "internal/bytealg.MaxLen"], apart := false, laid := [("math/bits.deBruijn64tab", laid_math_bits_deBruijn64tab), ("unicode/utf8.acceptRanges", laid_unicode_utf8_acceptRanges), ("unicode/utf8.first", laid_unicode_utf8_first)] }
def MergersChainsSaid : Prop := mergersChainsRow.holds Tryz.pinned (OpenSpec.ofChange mergersChainsSpec)

/-- ITS FALSE NEIGHBOUR: 'it returns false'. Refute it at one input. -/
def mergersChainsWrong : ChangeSpec := { name := "mergersChains", fn := fun _ => fun
  | [d] => { results := [.lit (.bool false)], args := [d] }
  | _ => none }
def MergersChainsWrongFalsely : Prop := mergersChainsRow.holds Tryz.pinned (OpenSpec.ofChange mergersChainsWrong)

/-- 'ablautlaw15.MergersFrames': WHATEVER THE INPUT: true; the input reads as it did. -/
def mergersFramesSpec : ChangeSpec := { name := "mergersFrames", fn := fun _ => fun
  | [d1, d2, d3] => { results := [.lit (.bool true)], args := [d1, d2, d3] }
  | _ => none }
def mergersFramesRow : OpenClaim := { program := "ytejenndedjabhaagreatdoor", sum := "7df3fd0c8fd393e904a31fdc30a74ed80b84191d6f6a1df762e983dcea667e9b", func := "ablaut/ablautlaw15.MergersFrames", spec := "mergersFrames", inPlace := ["internal/bytealg.IndexByteString", "internal/bytealg.IndexString", "internal/abi.NoEscape"], unfollowed := true, recurses := true, named := ["unicode/utf8.first", "unicode/utf8.acceptRanges", "math/bits.deBruijn64tab", "internal/bytealg.MaxLen"], loops := true, apart := false, laid := [("math/bits.deBruijn64tab", laid_math_bits_deBruijn64tab), ("unicode/utf8.acceptRanges", laid_unicode_utf8_acceptRanges), ("unicode/utf8.first", laid_unicode_utf8_first)] }
def MergersFramesSaid : Prop := mergersFramesRow.holds Tryz.pinned (OpenSpec.ofChange mergersFramesSpec)

/-- ITS FALSE NEIGHBOUR: 'it returns false'. Refute it at one input. -/
def mergersFramesWrong : ChangeSpec := { name := "mergersFrames", fn := fun _ => fun
  | [d1, d2, d3] => { results := [.lit (.bool false)], args := [d1, d2, d3] }
  | _ => none }
def MergersFramesWrongFalsely : Prop := mergersFramesRow.holds Tryz.pinned (OpenSpec.ofChange mergersFramesWrong)

/-- 'ablautlaw15.MergersSteps': WHATEVER THE INPUT: true; the input reads as it did. -/
def mergersStepsSpec : ChangeSpec := { name := "mergersSteps", fn := fun _ => fun
  | [d] => { results := [.lit (.bool true)], args := [d] }
  | _ => none }
def mergersStepsRow : OpenClaim := { program := "ytejenndedjabhaagreatdoor", sum := "7df3fd0c8fd393e904a31fdc30a74ed80b84191d6f6a1df762e983dcea667e9b", func := "ablaut/ablautlaw15.MergersSteps", spec := "mergersSteps", inPlace := ["internal/bytealg.IndexByteString", "internal/bytealg.IndexString", "internal/abi.NoEscape"], unfollowed := true, recurses := true, named := ["unicode/utf8.first", "unicode/utf8.acceptRanges", "math/bits.deBruijn64tab", "internal/bytealg.MaxLen"], apart := false, laid := [("math/bits.deBruijn64tab", laid_math_bits_deBruijn64tab), ("unicode/utf8.acceptRanges", laid_unicode_utf8_acceptRanges), ("unicode/utf8.first", laid_unicode_utf8_first)] }
def MergersStepsSaid : Prop := mergersStepsRow.holds Tryz.pinned (OpenSpec.ofChange mergersStepsSpec)

/-- ITS FALSE NEIGHBOUR: 'it returns false'. Refute it at one input. -/
def mergersStepsWrong : ChangeSpec := { name := "mergersSteps", fn := fun _ => fun
  | [d] => { results := [.lit (.bool false)], args := [d] }
  | _ => none }
def MergersStepsWrongFalsely : Prop := mergersStepsRow.holds Tryz.pinned (OpenSpec.ofChange mergersStepsWrong)

/-- 'ablautlaw15.MergersLabels': WHATEVER THE INPUT: true; the input reads as it did. -/
def mergersLabelsSpec : ChangeSpec := { name := "mergersLabels", fn := fun _ => fun
  | [d1, d2, d3] => { results := [.lit (.bool true)], args := [d1, d2, d3] }
  | _ => none }
def mergersLabelsRow : OpenClaim := { program := "ytejenndedjabhaagreatdoor", sum := "7df3fd0c8fd393e904a31fdc30a74ed80b84191d6f6a1df762e983dcea667e9b", func := "ablaut/ablautlaw15.MergersLabels", spec := "mergersLabels", inPlace := ["internal/bytealg.IndexByteString", "internal/bytealg.IndexString", "internal/abi.NoEscape"], unfollowed := true, recurses := true, named := ["unicode/utf8.first", "unicode/utf8.acceptRanges", "math/bits.deBruijn64tab", "internal/bytealg.MaxLen"], loops := true, apart := false, laid := [("math/bits.deBruijn64tab", laid_math_bits_deBruijn64tab), ("unicode/utf8.acceptRanges", laid_unicode_utf8_acceptRanges), ("unicode/utf8.first", laid_unicode_utf8_first)] }
def MergersLabelsSaid : Prop := mergersLabelsRow.holds Tryz.pinned (OpenSpec.ofChange mergersLabelsSpec)

/-- ITS FALSE NEIGHBOUR: 'it returns false'. Refute it at one input. -/
def mergersLabelsWrong : ChangeSpec := { name := "mergersLabels", fn := fun _ => fun
  | [d1, d2, d3] => { results := [.lit (.bool false)], args := [d1, d2, d3] }
  | _ => none }
def MergersLabelsWrongFalsely : Prop := mergersLabelsRow.holds Tryz.pinned (OpenSpec.ofChange mergersLabelsWrong)

/-- 'ablautlaw15.MergersPhonemes': WHATEVER THE INPUT: true; the input reads as it did. -/
def mergersPhonemesSpec : ChangeSpec := { name := "mergersPhonemes", fn := fun _ => fun
  | [d1, d2, d3] => { results := [.lit (.bool true)], args := [d1, d2, d3] }
  | _ => none }
def mergersPhonemesRow : OpenClaim := { program := "ytejenndedjabhaagreatdoor", sum := "7df3fd0c8fd393e904a31fdc30a74ed80b84191d6f6a1df762e983dcea667e9b", func := "ablaut/ablautlaw15.MergersPhonemes", spec := "mergersPhonemes", inPlace := ["internal/bytealg.IndexByteString", "internal/bytealg.IndexString", "internal/abi.NoEscape"], unfollowed := true, recurses := true, named := ["unicode/utf8.first", "unicode/utf8.acceptRanges", "math/bits.deBruijn64tab", "internal/bytealg.MaxLen"], loops := true, apart := false, laid := [("math/bits.deBruijn64tab", laid_math_bits_deBruijn64tab), ("unicode/utf8.acceptRanges", laid_unicode_utf8_acceptRanges), ("unicode/utf8.first", laid_unicode_utf8_first)] }
def MergersPhonemesSaid : Prop := mergersPhonemesRow.holds Tryz.pinned (OpenSpec.ofChange mergersPhonemesSpec)

/-- ITS FALSE NEIGHBOUR: 'it returns false'. Refute it at one input. -/
def mergersPhonemesWrong : ChangeSpec := { name := "mergersPhonemes", fn := fun _ => fun
  | [d1, d2, d3] => { results := [.lit (.bool false)], args := [d1, d2, d3] }
  | _ => none }
def MergersPhonemesWrongFalsely : Prop := mergersPhonemesRow.holds Tryz.pinned (OpenSpec.ofChange mergersPhonemesWrong)

/-- 'ablautlaw15.MergersNothing': WHATEVER THE INPUT: true; the input reads as it did. -/
def mergersNothingSpec : ChangeSpec := { name := "mergersNothing", fn := fun _ => fun
  | [d1, d2, d3, d4] => { results := [.lit (.bool true)], args := [d1, d2, d3, d4] }
  | _ => none }
def mergersNothingRow : OpenClaim := { program := "ytejenndedjabhaagreatdoor", sum := "7df3fd0c8fd393e904a31fdc30a74ed80b84191d6f6a1df762e983dcea667e9b", func := "ablaut/ablautlaw15.MergersNothing", spec := "mergersNothing", inPlace := ["internal/bytealg.IndexByteString", "internal/bytealg.IndexString", "internal/abi.NoEscape"], unfollowed := true, recurses := true, named := ["unicode/utf8.first", "unicode/utf8.acceptRanges", "math/bits.deBruijn64tab", "internal/bytealg.MaxLen"], apart := false, laid := [("math/bits.deBruijn64tab", laid_math_bits_deBruijn64tab), ("unicode/utf8.acceptRanges", laid_unicode_utf8_acceptRanges), ("unicode/utf8.first", laid_unicode_utf8_first)] }
def MergersNothingSaid : Prop := mergersNothingRow.holds Tryz.pinned (OpenSpec.ofChange mergersNothingSpec)

/-- ITS FALSE NEIGHBOUR: 'it returns false'. Refute it at one input. -/
def mergersNothingWrong : ChangeSpec := { name := "mergersNothing", fn := fun _ => fun
  | [d1, d2, d3, d4] => { results := [.lit (.bool false)], args := [d1, d2, d3, d4] }
  | _ => none }
def MergersNothingWrongFalsely : Prop := mergersNothingRow.holds Tryz.pinned (OpenSpec.ofChange mergersNothingWrong)

/-- 'ablautlaw15.MergersMany': WHATEVER THE INPUT: true; the input reads as it did. -/
def mergersManySpec : ChangeSpec := { name := "mergersMany", fn := fun _ => fun
  | [d1, d2] => { results := [.lit (.bool true)], args := [d1, d2] }
  | _ => none }
def mergersManyRow : OpenClaim := { program := "ytejenndedjabhaagreatdoor", sum := "7df3fd0c8fd393e904a31fdc30a74ed80b84191d6f6a1df762e983dcea667e9b", func := "ablaut/ablautlaw15.MergersMany", spec := "mergersMany", inPlace := ["internal/bytealg.IndexByteString", "internal/bytealg.IndexString", "internal/abi.NoEscape"], unfollowed := true, recurses := true, named := ["unicode/utf8.first", "unicode/utf8.acceptRanges", "math/bits.deBruijn64tab", "internal/bytealg.MaxLen"], apart := false, laid := [("math/bits.deBruijn64tab", laid_math_bits_deBruijn64tab), ("unicode/utf8.acceptRanges", laid_unicode_utf8_acceptRanges), ("unicode/utf8.first", laid_unicode_utf8_first)] }
def MergersManySaid : Prop := mergersManyRow.holds Tryz.pinned (OpenSpec.ofChange mergersManySpec)

/-- ITS FALSE NEIGHBOUR: 'it returns false'. Refute it at one input. -/
def mergersManyWrong : ChangeSpec := { name := "mergersMany", fn := fun _ => fun
  | [d1, d2] => { results := [.lit (.bool false)], args := [d1, d2] }
  | _ => none }
def MergersManyWrongFalsely : Prop := mergersManyRow.holds Tryz.pinned (OpenSpec.ofChange mergersManyWrong)

/-- 'ablautlaw15.MergersTurns': WHATEVER THE INPUT: true; the input reads as it did. -/
def mergersTurnsSpec : ChangeSpec := { name := "mergersTurns", fn := fun _ => fun
  | [d1, d2] => { results := [.lit (.bool true)], args := [d1, d2] }
  | _ => none }
def mergersTurnsRow : OpenClaim := { program := "ytejenndedjabhaagreatdoor", sum := "7df3fd0c8fd393e904a31fdc30a74ed80b84191d6f6a1df762e983dcea667e9b", func := "ablaut/ablautlaw15.MergersTurns", spec := "mergersTurns", inPlace := ["internal/bytealg.IndexByteString", "internal/bytealg.IndexString", "internal/abi.NoEscape"], unfollowed := true, recurses := true, named := ["unicode/utf8.first", "unicode/utf8.acceptRanges", "math/bits.deBruijn64tab", "internal/bytealg.MaxLen"], apart := false, laid := [("math/bits.deBruijn64tab", laid_math_bits_deBruijn64tab), ("unicode/utf8.acceptRanges", laid_unicode_utf8_acceptRanges), ("unicode/utf8.first", laid_unicode_utf8_first)] }
def MergersTurnsSaid : Prop := mergersTurnsRow.holds Tryz.pinned (OpenSpec.ofChange mergersTurnsSpec)

/-- ITS FALSE NEIGHBOUR: 'it returns false'. Refute it at one input. -/
def mergersTurnsWrong : ChangeSpec := { name := "mergersTurns", fn := fun _ => fun
  | [d1, d2] => { results := [.lit (.bool false)], args := [d1, d2] }
  | _ => none }
def MergersTurnsWrongFalsely : Prop := mergersTurnsRow.holds Tryz.pinned (OpenSpec.ofChange mergersTurnsWrong)

/- THE SECOND FORM. 'bulk': how many values and letters a reading holds, each counted each time it is reached (what is shared counts as often as it is met; a slice's spare places count too). A statement '..UptoSaid' is the law's where the arguments, and the package variables that the reading takes, are together of bulk at most 1048576: NARROWER than '..Said'. Prove '..Said' where nothing that the law and all that it calls make is longer than what came in: it says more and counts as full. Else prove '..UptoSaid'. A law counts once. -/
mutual
def uptoBulk {H : Type} : DataW H → Nat
  | .lit (.string bytes) => bytes.length + 1
  | .lit _ => 1
  | .nil => 1
  | .ptr d => uptoBulk d + 1
  | .slice elems spare => uptoBulkAll elems + uptoBulkAll spare + 1
  | .agg parts => uptoBulkAll parts + 1
  | .iface _ d => uptoBulk d + 1
  | .map entries => uptoBulkEntries entries + 1
  | .held _ => 1
def uptoBulkAll {H : Type} : List (DataW H) → Nat
  | [] => 0
  | d :: r => uptoBulk d + uptoBulkAll r
def uptoBulkEntries {H : Type} : List (Lit × DataW H) → Nat
  | [] => 0
  | x :: r => uptoBulkEntry x + uptoBulkEntries r
def uptoBulkEntry {H : Type} : Lit × DataW H → Nat
  | (.string bytes, d) => bytes.length + uptoBulk d + 1
  | (_, d) => uptoBulk d + 1
 end
def uptoSmall : (H : Type) → List (DataW H) → Bool := fun _ ds => decide (uptoBulkAll ds ≤ 1048576)
def OpenSpec.upto (s : _root_.Go.ChangeSpec) : _root_.Go.OpenSpec := { _root_.Go.OpenSpec.ofChange s with cond := some uptoSmall }

/-- 'ablautlaw15.MergersOutcomes', WHERE WHAT IT READS IS OF BULK AT MOST 1048576: true; the input reads as it did. -/
def mergersOutcomesUptoRow : OpenClaim := { program := "ytejenndedjabhaagreatdoor", sum := "7df3fd0c8fd393e904a31fdc30a74ed80b84191d6f6a1df762e983dcea667e9b", func := "ablaut/ablautlaw15.MergersOutcomes", spec := "mergersOutcomes", inPlace := ["internal/bytealg.IndexByteString", "internal/bytealg.IndexString", "internal/abi.NoEscape"], unfollowed := true, recurses := true, named := ["unicode/utf8.first", "unicode/utf8.acceptRanges", "math/bits.deBruijn64tab", "internal/bytealg.MaxLen"], loops := true, apart := false, laid := [("math/bits.deBruijn64tab", laid_math_bits_deBruijn64tab), ("unicode/utf8.acceptRanges", laid_unicode_utf8_acceptRanges), ("unicode/utf8.first", laid_unicode_utf8_first)], narrowed := true }
def MergersOutcomesUptoSaid : Prop := mergersOutcomesUptoRow.holds Tryz.pinned (OpenSpec.upto mergersOutcomesSpec)

/-- 'ablautlaw15.MergersSounds', WHERE WHAT IT READS IS OF BULK AT MOST 1048576: true; the input reads as it did. -/
def mergersSoundsUptoRow : OpenClaim := { program := "ytejenndedjabhaagreatdoor", sum := "7df3fd0c8fd393e904a31fdc30a74ed80b84191d6f6a1df762e983dcea667e9b", func := "ablaut/ablautlaw15.MergersSounds", spec := "mergersSounds", inPlace := ["internal/bytealg.IndexByteString", "internal/bytealg.IndexString", "internal/abi.NoEscape"], unfollowed := true, recurses := true, named := ["unicode/utf8.first", "unicode/utf8.acceptRanges", "math/bits.deBruijn64tab", "internal/bytealg.MaxLen"], loops := true, apart := false, laid := [("math/bits.deBruijn64tab", laid_math_bits_deBruijn64tab), ("unicode/utf8.acceptRanges", laid_unicode_utf8_acceptRanges), ("unicode/utf8.first", laid_unicode_utf8_first)], narrowed := true }
def MergersSoundsUptoSaid : Prop := mergersSoundsUptoRow.holds Tryz.pinned (OpenSpec.upto mergersSoundsSpec)

/-- 'ablautlaw15.MergersMore', WHERE WHAT IT READS IS OF BULK AT MOST 1048576: true; the input reads as it did. -/
def mergersMoreUptoRow : OpenClaim := { program := "ytejenndedjabhaagreatdoor", sum := "7df3fd0c8fd393e904a31fdc30a74ed80b84191d6f6a1df762e983dcea667e9b", func := "ablaut/ablautlaw15.MergersMore", spec := "mergersMore", inPlace := ["internal/bytealg.IndexByteString", "internal/bytealg.IndexString", "internal/abi.NoEscape"], unfollowed := true, recurses := true, named := ["unicode/utf8.first", "unicode/utf8.acceptRanges", "math/bits.deBruijn64tab", "internal/bytealg.MaxLen"], loops := true, apart := false, laid := [("math/bits.deBruijn64tab", laid_math_bits_deBruijn64tab), ("unicode/utf8.acceptRanges", laid_unicode_utf8_acceptRanges), ("unicode/utf8.first", laid_unicode_utf8_first)], narrowed := true }
def MergersMoreUptoSaid : Prop := mergersMoreUptoRow.holds Tryz.pinned (OpenSpec.upto mergersMoreSpec)

/-- 'ablautlaw15.MergersSizes', WHERE WHAT IT READS IS OF BULK AT MOST 1048576: true; the input reads as it did. -/
def mergersSizesUptoRow : OpenClaim := { program := "ytejenndedjabhaagreatdoor", sum := "7df3fd0c8fd393e904a31fdc30a74ed80b84191d6f6a1df762e983dcea667e9b", func := "ablaut/ablautlaw15.MergersSizes", spec := "mergersSizes", inPlace := ["internal/bytealg.IndexByteString", "internal/bytealg.IndexString", "internal/abi.NoEscape"], unfollowed := true, recurses := true, named := ["unicode/utf8.first", "unicode/utf8.acceptRanges", "math/bits.deBruijn64tab", "internal/bytealg.MaxLen"], apart := false, laid := [("math/bits.deBruijn64tab", laid_math_bits_deBruijn64tab), ("unicode/utf8.acceptRanges", laid_unicode_utf8_acceptRanges), ("unicode/utf8.first", laid_unicode_utf8_first)], narrowed := true }
def MergersSizesUptoSaid : Prop := mergersSizesUptoRow.holds Tryz.pinned (OpenSpec.upto mergersSizesSpec)

/-- 'ablautlaw15.MergersChains', WHERE WHAT IT READS IS OF BULK AT MOST 1048576: true; the input reads as it did. -/
def mergersChainsUptoRow : OpenClaim := { program := "ytejenndedjabhaagreatdoor", sum := "7df3fd0c8fd393e904a31fdc30a74ed80b84191d6f6a1df762e983dcea667e9b", func := "ablaut/ablautlaw15.MergersChains", spec := "mergersChains", inPlace := ["internal/bytealg.IndexByteString", "internal/bytealg.IndexString", "internal/abi.NoEscape"], unfollowed := true, recurses := true, named := ["unicode/utf8.first", "unicode/utf8.acceptRanges", "math/bits.deBruijn64tab", "internal/bytealg.MaxLen"], apart := false, laid := [("math/bits.deBruijn64tab", laid_math_bits_deBruijn64tab), ("unicode/utf8.acceptRanges", laid_unicode_utf8_acceptRanges), ("unicode/utf8.first", laid_unicode_utf8_first)], narrowed := true }
def MergersChainsUptoSaid : Prop := mergersChainsUptoRow.holds Tryz.pinned (OpenSpec.upto mergersChainsSpec)

/-- 'ablautlaw15.MergersFrames', WHERE WHAT IT READS IS OF BULK AT MOST 1048576: true; the input reads as it did. -/
def mergersFramesUptoRow : OpenClaim := { program := "ytejenndedjabhaagreatdoor", sum := "7df3fd0c8fd393e904a31fdc30a74ed80b84191d6f6a1df762e983dcea667e9b", func := "ablaut/ablautlaw15.MergersFrames", spec := "mergersFrames", inPlace := ["internal/bytealg.IndexByteString", "internal/bytealg.IndexString", "internal/abi.NoEscape"], unfollowed := true, recurses := true, named := ["unicode/utf8.first", "unicode/utf8.acceptRanges", "math/bits.deBruijn64tab", "internal/bytealg.MaxLen"], loops := true, apart := false, laid := [("math/bits.deBruijn64tab", laid_math_bits_deBruijn64tab), ("unicode/utf8.acceptRanges", laid_unicode_utf8_acceptRanges), ("unicode/utf8.first", laid_unicode_utf8_first)], narrowed := true }
def MergersFramesUptoSaid : Prop := mergersFramesUptoRow.holds Tryz.pinned (OpenSpec.upto mergersFramesSpec)

/-- 'ablautlaw15.MergersSteps', WHERE WHAT IT READS IS OF BULK AT MOST 1048576: true; the input reads as it did. -/
def mergersStepsUptoRow : OpenClaim := { program := "ytejenndedjabhaagreatdoor", sum := "7df3fd0c8fd393e904a31fdc30a74ed80b84191d6f6a1df762e983dcea667e9b", func := "ablaut/ablautlaw15.MergersSteps", spec := "mergersSteps", inPlace := ["internal/bytealg.IndexByteString", "internal/bytealg.IndexString", "internal/abi.NoEscape"], unfollowed := true, recurses := true, named := ["unicode/utf8.first", "unicode/utf8.acceptRanges", "math/bits.deBruijn64tab", "internal/bytealg.MaxLen"], apart := false, laid := [("math/bits.deBruijn64tab", laid_math_bits_deBruijn64tab), ("unicode/utf8.acceptRanges", laid_unicode_utf8_acceptRanges), ("unicode/utf8.first", laid_unicode_utf8_first)], narrowed := true }
def MergersStepsUptoSaid : Prop := mergersStepsUptoRow.holds Tryz.pinned (OpenSpec.upto mergersStepsSpec)

/-- 'ablautlaw15.MergersLabels', WHERE WHAT IT READS IS OF BULK AT MOST 1048576: true; the input reads as it did. -/
def mergersLabelsUptoRow : OpenClaim := { program := "ytejenndedjabhaagreatdoor", sum := "7df3fd0c8fd393e904a31fdc30a74ed80b84191d6f6a1df762e983dcea667e9b", func := "ablaut/ablautlaw15.MergersLabels", spec := "mergersLabels", inPlace := ["internal/bytealg.IndexByteString", "internal/bytealg.IndexString", "internal/abi.NoEscape"], unfollowed := true, recurses := true, named := ["unicode/utf8.first", "unicode/utf8.acceptRanges", "math/bits.deBruijn64tab", "internal/bytealg.MaxLen"], loops := true, apart := false, laid := [("math/bits.deBruijn64tab", laid_math_bits_deBruijn64tab), ("unicode/utf8.acceptRanges", laid_unicode_utf8_acceptRanges), ("unicode/utf8.first", laid_unicode_utf8_first)], narrowed := true }
def MergersLabelsUptoSaid : Prop := mergersLabelsUptoRow.holds Tryz.pinned (OpenSpec.upto mergersLabelsSpec)

/-- 'ablautlaw15.MergersPhonemes', WHERE WHAT IT READS IS OF BULK AT MOST 1048576: true; the input reads as it did. -/
def mergersPhonemesUptoRow : OpenClaim := { program := "ytejenndedjabhaagreatdoor", sum := "7df3fd0c8fd393e904a31fdc30a74ed80b84191d6f6a1df762e983dcea667e9b", func := "ablaut/ablautlaw15.MergersPhonemes", spec := "mergersPhonemes", inPlace := ["internal/bytealg.IndexByteString", "internal/bytealg.IndexString", "internal/abi.NoEscape"], unfollowed := true, recurses := true, named := ["unicode/utf8.first", "unicode/utf8.acceptRanges", "math/bits.deBruijn64tab", "internal/bytealg.MaxLen"], loops := true, apart := false, laid := [("math/bits.deBruijn64tab", laid_math_bits_deBruijn64tab), ("unicode/utf8.acceptRanges", laid_unicode_utf8_acceptRanges), ("unicode/utf8.first", laid_unicode_utf8_first)], narrowed := true }
def MergersPhonemesUptoSaid : Prop := mergersPhonemesUptoRow.holds Tryz.pinned (OpenSpec.upto mergersPhonemesSpec)

/-- 'ablautlaw15.MergersNothing', WHERE WHAT IT READS IS OF BULK AT MOST 1048576: true; the input reads as it did. -/
def mergersNothingUptoRow : OpenClaim := { program := "ytejenndedjabhaagreatdoor", sum := "7df3fd0c8fd393e904a31fdc30a74ed80b84191d6f6a1df762e983dcea667e9b", func := "ablaut/ablautlaw15.MergersNothing", spec := "mergersNothing", inPlace := ["internal/bytealg.IndexByteString", "internal/bytealg.IndexString", "internal/abi.NoEscape"], unfollowed := true, recurses := true, named := ["unicode/utf8.first", "unicode/utf8.acceptRanges", "math/bits.deBruijn64tab", "internal/bytealg.MaxLen"], apart := false, laid := [("math/bits.deBruijn64tab", laid_math_bits_deBruijn64tab), ("unicode/utf8.acceptRanges", laid_unicode_utf8_acceptRanges), ("unicode/utf8.first", laid_unicode_utf8_first)], narrowed := true }
def MergersNothingUptoSaid : Prop := mergersNothingUptoRow.holds Tryz.pinned (OpenSpec.upto mergersNothingSpec)

/-- 'ablautlaw15.MergersMany', WHERE WHAT IT READS IS OF BULK AT MOST 1048576: true; the input reads as it did. -/
def mergersManyUptoRow : OpenClaim := { program := "ytejenndedjabhaagreatdoor", sum := "7df3fd0c8fd393e904a31fdc30a74ed80b84191d6f6a1df762e983dcea667e9b", func := "ablaut/ablautlaw15.MergersMany", spec := "mergersMany", inPlace := ["internal/bytealg.IndexByteString", "internal/bytealg.IndexString", "internal/abi.NoEscape"], unfollowed := true, recurses := true, named := ["unicode/utf8.first", "unicode/utf8.acceptRanges", "math/bits.deBruijn64tab", "internal/bytealg.MaxLen"], apart := false, laid := [("math/bits.deBruijn64tab", laid_math_bits_deBruijn64tab), ("unicode/utf8.acceptRanges", laid_unicode_utf8_acceptRanges), ("unicode/utf8.first", laid_unicode_utf8_first)], narrowed := true }
def MergersManyUptoSaid : Prop := mergersManyUptoRow.holds Tryz.pinned (OpenSpec.upto mergersManySpec)

/-- 'ablautlaw15.MergersTurns', WHERE WHAT IT READS IS OF BULK AT MOST 1048576: true; the input reads as it did. -/
def mergersTurnsUptoRow : OpenClaim := { program := "ytejenndedjabhaagreatdoor", sum := "7df3fd0c8fd393e904a31fdc30a74ed80b84191d6f6a1df762e983dcea667e9b", func := "ablaut/ablautlaw15.MergersTurns", spec := "mergersTurns", inPlace := ["internal/bytealg.IndexByteString", "internal/bytealg.IndexString", "internal/abi.NoEscape"], unfollowed := true, recurses := true, named := ["unicode/utf8.first", "unicode/utf8.acceptRanges", "math/bits.deBruijn64tab", "internal/bytealg.MaxLen"], apart := false, laid := [("math/bits.deBruijn64tab", laid_math_bits_deBruijn64tab), ("unicode/utf8.acceptRanges", laid_unicode_utf8_acceptRanges), ("unicode/utf8.first", laid_unicode_utf8_first)], narrowed := true }
def MergersTurnsUptoSaid : Prop := mergersTurnsUptoRow.holds Tryz.pinned (OpenSpec.upto mergersTurnsSpec)

end Rows
end Go.Proofs.YtejenndedjabhaaGreatDoor
