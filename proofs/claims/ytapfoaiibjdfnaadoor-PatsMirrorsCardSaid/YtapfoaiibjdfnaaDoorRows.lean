/-
  NARROWER THAN 'FOR EVERY INPUT', by the rows' own cells (each row's printed sentence says how): PatsEnds: loops, laid · PatsFinds: loops, laid · PatsBoth: loops, laid · PatsEmpty: loops, laid · PatsFirst: loops, laid · PatsSums: loops, laid · PatsTimes: loops, laid · PatsChecks: loops, laid · PatsMirrors: loops, laid · PatsKnown: laid · PatsBack: loops, laid.
  DERIVED. THE GIVEN ROWS OF THIS SEAT. 11 by the template 'for every input the law returns true; each argument reads behind the call as it read before'; 0 by the template 'total and deterministic' (their statements: YtapfoaiibjdfnaaDoorTotals.lean).
  GIVEN WITH THE SEED: the statements are not yours to turn. If you find one false, say at which input.
  Laid BY PROGRAM, IN A SANDBOX (cutbox-rows.mjs): the forced cells as the released guide's own fill.sh prints them over the translation 38f31834574f634d… (all of the seat's roots in one cut). By AI agents, Wed Nov 11 2026. No macro, syntax, notation, axiom, sorry.
-/
import Derived.Test.YtapfoaiibjdfnaaDoorChecked
import GoSem.Claim
import GoSem.ClaimJoined
import GoSem.ClaimMapViews
import Derived.JoinedTies
import Derived.KernelRfl
namespace Go.Proofs.YtapfoaiibjdfnaaDoor
/- THE CELL 'sum', in the pinned program and in every row, IS THE sha256 OF THE DUMP (.gsa) THAT YtapfoaiibjdfnaaDoorProg.lean LOADS. Nothing in Lean hashes anything: it is a label: what it is worth is what the hold of that sum in a sandbox is worth. -/
noncomputable def Tryd.pinned : Pinned := { name := "ytapfoaiibjdfnaadoor", sum := "38f31834574f634d505521c5085ffb4fb66dae7e628e4bd1139a1d41210c714a", checked := Tryd.checked }
namespace Rows
def none {H : Type} : Left H := { results := [], args := [] }

/- WHAT THE LISTED PACKAGE-LEVEL VARIABLES READ AS WHEN THE CALL BEGINS. Each datum BY PROGRAM (the guide's laid-datum.mjs) off the statement by which the dump's own 'gosem.cut.vars' lays the variable. In a bare row this is a premise. The card (YtapfoaiibjdfnaaDoorCards.lean) ties it to the program's text. -/
def laid_math_bits_deBruijn64tab {H : Type} : DataW H := .agg [.lit (.int .u8 0), .lit (.int .u8 1), .lit (.int .u8 56), .lit (.int .u8 2), .lit (.int .u8 57), .lit (.int .u8 49), .lit (.int .u8 28), .lit (.int .u8 3), .lit (.int .u8 61), .lit (.int .u8 58), .lit (.int .u8 42), .lit (.int .u8 50), .lit (.int .u8 38), .lit (.int .u8 29), .lit (.int .u8 17), .lit (.int .u8 4), .lit (.int .u8 62), .lit (.int .u8 47), .lit (.int .u8 59), .lit (.int .u8 36), .lit (.int .u8 45), .lit (.int .u8 43), .lit (.int .u8 51), .lit (.int .u8 22), .lit (.int .u8 53), .lit (.int .u8 39), .lit (.int .u8 33), .lit (.int .u8 30), .lit (.int .u8 24), .lit (.int .u8 18), .lit (.int .u8 12), .lit (.int .u8 5), .lit (.int .u8 63), .lit (.int .u8 55), .lit (.int .u8 48), .lit (.int .u8 27), .lit (.int .u8 60), .lit (.int .u8 41), .lit (.int .u8 37), .lit (.int .u8 16), .lit (.int .u8 46), .lit (.int .u8 35), .lit (.int .u8 44), .lit (.int .u8 21), .lit (.int .u8 52), .lit (.int .u8 32), .lit (.int .u8 23), .lit (.int .u8 11), .lit (.int .u8 54), .lit (.int .u8 26), .lit (.int .u8 40), .lit (.int .u8 15), .lit (.int .u8 34), .lit (.int .u8 20), .lit (.int .u8 31), .lit (.int .u8 10), .lit (.int .u8 25), .lit (.int .u8 14), .lit (.int .u8 19), .lit (.int .u8 9), .lit (.int .u8 13), .lit (.int .u8 8), .lit (.int .u8 7), .lit (.int .u8 6)]

/-- 'ablautlaw06.PatsEnds': WHATEVER THE INPUT: true; the input reads as it did. -/
def patsEndsSpec : ChangeSpec := { name := "patsEnds", fn := fun _ => fun
  | [d1, d2, d3] => { results := [.lit (.bool true)], args := [d1, d2, d3] }
  | _ => none }
def patsEndsRow : OpenClaim := { program := "ytapfoaiibjdfnaadoor", sum := "38f31834574f634d505521c5085ffb4fb66dae7e628e4bd1139a1d41210c714a", func := "ablaut/ablautlaw06.PatsEnds", spec := "patsEnds", unfollowed := true, recurses := true, named := ["math/bits.deBruijn64tab"], loops := true, apart := false, laid := [("math/bits.deBruijn64tab", laid_math_bits_deBruijn64tab)] }
def PatsEndsSaid : Prop := patsEndsRow.holds Tryd.pinned (OpenSpec.ofChange patsEndsSpec)

/-- ITS FALSE NEIGHBOUR: 'it returns false'. Refute it at one input. -/
def patsEndsWrong : ChangeSpec := { name := "patsEnds", fn := fun _ => fun
  | [d1, d2, d3] => { results := [.lit (.bool false)], args := [d1, d2, d3] }
  | _ => none }
def PatsEndsWrongFalsely : Prop := patsEndsRow.holds Tryd.pinned (OpenSpec.ofChange patsEndsWrong)

/-- 'ablautlaw06.PatsFinds': WHATEVER THE INPUT: true; the input reads as it did. -/
def patsFindsSpec : ChangeSpec := { name := "patsFinds", fn := fun _ => fun
  | [d1, d2, d3] => { results := [.lit (.bool true)], args := [d1, d2, d3] }
  | _ => none }
def patsFindsRow : OpenClaim := { program := "ytapfoaiibjdfnaadoor", sum := "38f31834574f634d505521c5085ffb4fb66dae7e628e4bd1139a1d41210c714a", func := "ablaut/ablautlaw06.PatsFinds", spec := "patsFinds", unfollowed := true, recurses := true, named := ["math/bits.deBruijn64tab"], loops := true, apart := false, laid := [("math/bits.deBruijn64tab", laid_math_bits_deBruijn64tab)] }
def PatsFindsSaid : Prop := patsFindsRow.holds Tryd.pinned (OpenSpec.ofChange patsFindsSpec)

/-- ITS FALSE NEIGHBOUR: 'it returns false'. Refute it at one input. -/
def patsFindsWrong : ChangeSpec := { name := "patsFinds", fn := fun _ => fun
  | [d1, d2, d3] => { results := [.lit (.bool false)], args := [d1, d2, d3] }
  | _ => none }
def PatsFindsWrongFalsely : Prop := patsFindsRow.holds Tryd.pinned (OpenSpec.ofChange patsFindsWrong)

/-- 'ablautlaw06.PatsBoth': WHATEVER THE INPUT: true; the input reads as it did. -/
def patsBothSpec : ChangeSpec := { name := "patsBoth", fn := fun _ => fun
  | [d1, d2] => { results := [.lit (.bool true)], args := [d1, d2] }
  | _ => none }
def patsBothRow : OpenClaim := { program := "ytapfoaiibjdfnaadoor", sum := "38f31834574f634d505521c5085ffb4fb66dae7e628e4bd1139a1d41210c714a", func := "ablaut/ablautlaw06.PatsBoth", spec := "patsBoth", unfollowed := true, recurses := true, named := ["math/bits.deBruijn64tab"], loops := true, apart := false, laid := [("math/bits.deBruijn64tab", laid_math_bits_deBruijn64tab)] }
def PatsBothSaid : Prop := patsBothRow.holds Tryd.pinned (OpenSpec.ofChange patsBothSpec)

/-- ITS FALSE NEIGHBOUR: 'it returns false'. Refute it at one input. -/
def patsBothWrong : ChangeSpec := { name := "patsBoth", fn := fun _ => fun
  | [d1, d2] => { results := [.lit (.bool false)], args := [d1, d2] }
  | _ => none }
def PatsBothWrongFalsely : Prop := patsBothRow.holds Tryd.pinned (OpenSpec.ofChange patsBothWrong)

/-- 'ablautlaw06.PatsEmpty': WHATEVER THE INPUT: true; the input reads as it did. -/
def patsEmptySpec : ChangeSpec := { name := "patsEmpty", fn := fun _ => fun
  | [d1, d2] => { results := [.lit (.bool true)], args := [d1, d2] }
  | _ => none }
def patsEmptyRow : OpenClaim := { program := "ytapfoaiibjdfnaadoor", sum := "38f31834574f634d505521c5085ffb4fb66dae7e628e4bd1139a1d41210c714a", func := "ablaut/ablautlaw06.PatsEmpty", spec := "patsEmpty", unfollowed := true, recurses := true, named := ["math/bits.deBruijn64tab"], loops := true, apart := false, laid := [("math/bits.deBruijn64tab", laid_math_bits_deBruijn64tab)] }
def PatsEmptySaid : Prop := patsEmptyRow.holds Tryd.pinned (OpenSpec.ofChange patsEmptySpec)

/-- ITS FALSE NEIGHBOUR: 'it returns false'. Refute it at one input. -/
def patsEmptyWrong : ChangeSpec := { name := "patsEmpty", fn := fun _ => fun
  | [d1, d2] => { results := [.lit (.bool false)], args := [d1, d2] }
  | _ => none }
def PatsEmptyWrongFalsely : Prop := patsEmptyRow.holds Tryd.pinned (OpenSpec.ofChange patsEmptyWrong)

/-- 'ablautlaw06.PatsFirst': WHATEVER THE INPUT: true; the input reads as it did. -/
def patsFirstSpec : ChangeSpec := { name := "patsFirst", fn := fun _ => fun
  | [d1, d2, d3] => { results := [.lit (.bool true)], args := [d1, d2, d3] }
  | _ => none }
def patsFirstRow : OpenClaim := { program := "ytapfoaiibjdfnaadoor", sum := "38f31834574f634d505521c5085ffb4fb66dae7e628e4bd1139a1d41210c714a", func := "ablaut/ablautlaw06.PatsFirst", spec := "patsFirst", unfollowed := true, recurses := true, named := ["math/bits.deBruijn64tab"], loops := true, apart := false, laid := [("math/bits.deBruijn64tab", laid_math_bits_deBruijn64tab)] }
def PatsFirstSaid : Prop := patsFirstRow.holds Tryd.pinned (OpenSpec.ofChange patsFirstSpec)

/-- ITS FALSE NEIGHBOUR: 'it returns false'. Refute it at one input. -/
def patsFirstWrong : ChangeSpec := { name := "patsFirst", fn := fun _ => fun
  | [d1, d2, d3] => { results := [.lit (.bool false)], args := [d1, d2, d3] }
  | _ => none }
def PatsFirstWrongFalsely : Prop := patsFirstRow.holds Tryd.pinned (OpenSpec.ofChange patsFirstWrong)

/-- 'ablautlaw06.PatsSums': WHATEVER THE INPUT: true; the input reads as it did. -/
def patsSumsSpec : ChangeSpec := { name := "patsSums", fn := fun _ => fun
  | [d1, d2, d3] => { results := [.lit (.bool true)], args := [d1, d2, d3] }
  | _ => none }
def patsSumsRow : OpenClaim := { program := "ytapfoaiibjdfnaadoor", sum := "38f31834574f634d505521c5085ffb4fb66dae7e628e4bd1139a1d41210c714a", func := "ablaut/ablautlaw06.PatsSums", spec := "patsSums", unfollowed := true, recurses := true, named := ["math/bits.deBruijn64tab"], loops := true, apart := false, laid := [("math/bits.deBruijn64tab", laid_math_bits_deBruijn64tab)] }
def PatsSumsSaid : Prop := patsSumsRow.holds Tryd.pinned (OpenSpec.ofChange patsSumsSpec)

/-- ITS FALSE NEIGHBOUR: 'it returns false'. Refute it at one input. -/
def patsSumsWrong : ChangeSpec := { name := "patsSums", fn := fun _ => fun
  | [d1, d2, d3] => { results := [.lit (.bool false)], args := [d1, d2, d3] }
  | _ => none }
def PatsSumsWrongFalsely : Prop := patsSumsRow.holds Tryd.pinned (OpenSpec.ofChange patsSumsWrong)

/-- 'ablautlaw06.PatsTimes': WHATEVER THE INPUT: true; the input reads as it did. -/
def patsTimesSpec : ChangeSpec := { name := "patsTimes", fn := fun _ => fun
  | [d1, d2, d3] => { results := [.lit (.bool true)], args := [d1, d2, d3] }
  | _ => none }
def patsTimesRow : OpenClaim := { program := "ytapfoaiibjdfnaadoor", sum := "38f31834574f634d505521c5085ffb4fb66dae7e628e4bd1139a1d41210c714a", func := "ablaut/ablautlaw06.PatsTimes", spec := "patsTimes", unfollowed := true, recurses := true, named := ["math/bits.deBruijn64tab"], loops := true, apart := false, laid := [("math/bits.deBruijn64tab", laid_math_bits_deBruijn64tab)] }
def PatsTimesSaid : Prop := patsTimesRow.holds Tryd.pinned (OpenSpec.ofChange patsTimesSpec)

/-- ITS FALSE NEIGHBOUR: 'it returns false'. Refute it at one input. -/
def patsTimesWrong : ChangeSpec := { name := "patsTimes", fn := fun _ => fun
  | [d1, d2, d3] => { results := [.lit (.bool false)], args := [d1, d2, d3] }
  | _ => none }
def PatsTimesWrongFalsely : Prop := patsTimesRow.holds Tryd.pinned (OpenSpec.ofChange patsTimesWrong)

/-- 'ablautlaw06.PatsChecks': WHATEVER THE INPUT: true; the input reads as it did. -/
def patsChecksSpec : ChangeSpec := { name := "patsChecks", fn := fun _ => fun
  | [d1, d2] => { results := [.lit (.bool true)], args := [d1, d2] }
  | _ => none }
def patsChecksRow : OpenClaim := { program := "ytapfoaiibjdfnaadoor", sum := "38f31834574f634d505521c5085ffb4fb66dae7e628e4bd1139a1d41210c714a", func := "ablaut/ablautlaw06.PatsChecks", spec := "patsChecks", unfollowed := true, recurses := true, named := ["math/bits.deBruijn64tab"], loops := true, apart := false, laid := [("math/bits.deBruijn64tab", laid_math_bits_deBruijn64tab)] }
def PatsChecksSaid : Prop := patsChecksRow.holds Tryd.pinned (OpenSpec.ofChange patsChecksSpec)

/-- ITS FALSE NEIGHBOUR: 'it returns false'. Refute it at one input. -/
def patsChecksWrong : ChangeSpec := { name := "patsChecks", fn := fun _ => fun
  | [d1, d2] => { results := [.lit (.bool false)], args := [d1, d2] }
  | _ => none }
def PatsChecksWrongFalsely : Prop := patsChecksRow.holds Tryd.pinned (OpenSpec.ofChange patsChecksWrong)

/-- 'ablautlaw06.PatsMirrors': WHATEVER THE INPUT: true; the input reads as it did. -/
def patsMirrorsSpec : ChangeSpec := { name := "patsMirrors", fn := fun _ => fun
  | [d] => { results := [.lit (.bool true)], args := [d] }
  | _ => none }
def patsMirrorsRow : OpenClaim := { program := "ytapfoaiibjdfnaadoor", sum := "38f31834574f634d505521c5085ffb4fb66dae7e628e4bd1139a1d41210c714a", func := "ablaut/ablautlaw06.PatsMirrors", spec := "patsMirrors", unfollowed := true, recurses := true, named := ["math/bits.deBruijn64tab"], loops := true, apart := false, laid := [("math/bits.deBruijn64tab", laid_math_bits_deBruijn64tab)] }
def PatsMirrorsSaid : Prop := patsMirrorsRow.holds Tryd.pinned (OpenSpec.ofChange patsMirrorsSpec)

/-- ITS FALSE NEIGHBOUR: 'it returns false'. Refute it at one input. -/
def patsMirrorsWrong : ChangeSpec := { name := "patsMirrors", fn := fun _ => fun
  | [d] => { results := [.lit (.bool false)], args := [d] }
  | _ => none }
def PatsMirrorsWrongFalsely : Prop := patsMirrorsRow.holds Tryd.pinned (OpenSpec.ofChange patsMirrorsWrong)

/-- 'ablautlaw06.PatsKnown': WHATEVER THE INPUT: true; the input reads as it did. -/
def patsKnownSpec : ChangeSpec := { name := "patsKnown", fn := fun _ => fun
  | [] => { results := [.lit (.bool true)], args := [] }
  | _ => none }
def patsKnownRow : OpenClaim := { program := "ytapfoaiibjdfnaadoor", sum := "38f31834574f634d505521c5085ffb4fb66dae7e628e4bd1139a1d41210c714a", func := "ablaut/ablautlaw06.PatsKnown", spec := "patsKnown", unfollowed := true, recurses := true, named := ["math/bits.deBruijn64tab"], apart := false, laid := [("math/bits.deBruijn64tab", laid_math_bits_deBruijn64tab)] }
def PatsKnownSaid : Prop := patsKnownRow.holds Tryd.pinned (OpenSpec.ofChange patsKnownSpec)

/-- ITS FALSE NEIGHBOUR: 'it returns false'. Refute it at one input. -/
def patsKnownWrong : ChangeSpec := { name := "patsKnown", fn := fun _ => fun
  | [] => { results := [.lit (.bool false)], args := [] }
  | _ => none }
def PatsKnownWrongFalsely : Prop := patsKnownRow.holds Tryd.pinned (OpenSpec.ofChange patsKnownWrong)

/-- 'ablautlaw06.PatsBack': WHATEVER THE INPUT: true; the input reads as it did. -/
def patsBackSpec : ChangeSpec := { name := "patsBack", fn := fun _ => fun
  | [d1, d2] => { results := [.lit (.bool true)], args := [d1, d2] }
  | _ => none }
def patsBackRow : OpenClaim := { program := "ytapfoaiibjdfnaadoor", sum := "38f31834574f634d505521c5085ffb4fb66dae7e628e4bd1139a1d41210c714a", func := "ablaut/ablautlaw06.PatsBack", spec := "patsBack", unfollowed := true, recurses := true, named := ["math/bits.deBruijn64tab"], loops := true, apart := false, laid := [("math/bits.deBruijn64tab", laid_math_bits_deBruijn64tab)] }
def PatsBackSaid : Prop := patsBackRow.holds Tryd.pinned (OpenSpec.ofChange patsBackSpec)

/-- ITS FALSE NEIGHBOUR: 'it returns false'. Refute it at one input. -/
def patsBackWrong : ChangeSpec := { name := "patsBack", fn := fun _ => fun
  | [d1, d2] => { results := [.lit (.bool false)], args := [d1, d2] }
  | _ => none }
def PatsBackWrongFalsely : Prop := patsBackRow.holds Tryd.pinned (OpenSpec.ofChange patsBackWrong)

/- THE SECOND FORM. 'bulk': how many values and letters a reading holds, each counted each time it is reached (what is shared counts as often as it is met; a slice's spare places count too). A statement '..UptoSaid' is the law's where the arguments, and the package variables that the reading takes, are together of bulk at most 1048576: NARROWER than '..Said'. Prove '..Said' where nothing that the law and all that it calls make is longer than what came in: it says more and counts as full. Else prove '..UptoSaid'. A law counts once. -/
mutual
def uptoBulk {H : Type} : DataW H → Nat
  | .lit (.string bytes) => bytes.length + 1
  | .lit _ => 1
  | .nil => 1
  | .ptr d => uptoBulk d + 1
  | .slice elems spare => uptoBulkAll elems + uptoBulkAll spare + 1
  | .agg parts => uptoBulkAll parts + 1
  | .iface _ d => uptoBulk d + 1
  | .map entries => uptoBulkEntries entries + 1
  | .held _ => 1
def uptoBulkAll {H : Type} : List (DataW H) → Nat
  | [] => 0
  | d :: r => uptoBulk d + uptoBulkAll r
def uptoBulkEntries {H : Type} : List (Lit × DataW H) → Nat
  | [] => 0
  | x :: r => uptoBulkEntry x + uptoBulkEntries r
def uptoBulkEntry {H : Type} : Lit × DataW H → Nat
  | (.string bytes, d) => bytes.length + uptoBulk d + 1
  | (_, d) => uptoBulk d + 1
 end
def uptoSmall : (H : Type) → List (DataW H) → Bool := fun _ ds => decide (uptoBulkAll ds ≤ 1048576)
def OpenSpec.upto (s : _root_.Go.ChangeSpec) : _root_.Go.OpenSpec := { _root_.Go.OpenSpec.ofChange s with cond := some uptoSmall }

/-- 'ablautlaw06.PatsEnds', WHERE WHAT IT READS IS OF BULK AT MOST 1048576: true; the input reads as it did. -/
def patsEndsUptoRow : OpenClaim := { program := "ytapfoaiibjdfnaadoor", sum := "38f31834574f634d505521c5085ffb4fb66dae7e628e4bd1139a1d41210c714a", func := "ablaut/ablautlaw06.PatsEnds", spec := "patsEnds", unfollowed := true, recurses := true, named := ["math/bits.deBruijn64tab"], loops := true, apart := false, laid := [("math/bits.deBruijn64tab", laid_math_bits_deBruijn64tab)], narrowed := true }
def PatsEndsUptoSaid : Prop := patsEndsUptoRow.holds Tryd.pinned (OpenSpec.upto patsEndsSpec)

/-- 'ablautlaw06.PatsFinds', WHERE WHAT IT READS IS OF BULK AT MOST 1048576: true; the input reads as it did. -/
def patsFindsUptoRow : OpenClaim := { program := "ytapfoaiibjdfnaadoor", sum := "38f31834574f634d505521c5085ffb4fb66dae7e628e4bd1139a1d41210c714a", func := "ablaut/ablautlaw06.PatsFinds", spec := "patsFinds", unfollowed := true, recurses := true, named := ["math/bits.deBruijn64tab"], loops := true, apart := false, laid := [("math/bits.deBruijn64tab", laid_math_bits_deBruijn64tab)], narrowed := true }
def PatsFindsUptoSaid : Prop := patsFindsUptoRow.holds Tryd.pinned (OpenSpec.upto patsFindsSpec)

/-- 'ablautlaw06.PatsBoth', WHERE WHAT IT READS IS OF BULK AT MOST 1048576: true; the input reads as it did. -/
def patsBothUptoRow : OpenClaim := { program := "ytapfoaiibjdfnaadoor", sum := "38f31834574f634d505521c5085ffb4fb66dae7e628e4bd1139a1d41210c714a", func := "ablaut/ablautlaw06.PatsBoth", spec := "patsBoth", unfollowed := true, recurses := true, named := ["math/bits.deBruijn64tab"], loops := true, apart := false, laid := [("math/bits.deBruijn64tab", laid_math_bits_deBruijn64tab)], narrowed := true }
def PatsBothUptoSaid : Prop := patsBothUptoRow.holds Tryd.pinned (OpenSpec.upto patsBothSpec)

/-- 'ablautlaw06.PatsEmpty', WHERE WHAT IT READS IS OF BULK AT MOST 1048576: true; the input reads as it did. -/
def patsEmptyUptoRow : OpenClaim := { program := "ytapfoaiibjdfnaadoor", sum := "38f31834574f634d505521c5085ffb4fb66dae7e628e4bd1139a1d41210c714a", func := "ablaut/ablautlaw06.PatsEmpty", spec := "patsEmpty", unfollowed := true, recurses := true, named := ["math/bits.deBruijn64tab"], loops := true, apart := false, laid := [("math/bits.deBruijn64tab", laid_math_bits_deBruijn64tab)], narrowed := true }
def PatsEmptyUptoSaid : Prop := patsEmptyUptoRow.holds Tryd.pinned (OpenSpec.upto patsEmptySpec)

/-- 'ablautlaw06.PatsFirst', WHERE WHAT IT READS IS OF BULK AT MOST 1048576: true; the input reads as it did. -/
def patsFirstUptoRow : OpenClaim := { program := "ytapfoaiibjdfnaadoor", sum := "38f31834574f634d505521c5085ffb4fb66dae7e628e4bd1139a1d41210c714a", func := "ablaut/ablautlaw06.PatsFirst", spec := "patsFirst", unfollowed := true, recurses := true, named := ["math/bits.deBruijn64tab"], loops := true, apart := false, laid := [("math/bits.deBruijn64tab", laid_math_bits_deBruijn64tab)], narrowed := true }
def PatsFirstUptoSaid : Prop := patsFirstUptoRow.holds Tryd.pinned (OpenSpec.upto patsFirstSpec)

/-- 'ablautlaw06.PatsSums', WHERE WHAT IT READS IS OF BULK AT MOST 1048576: true; the input reads as it did. -/
def patsSumsUptoRow : OpenClaim := { program := "ytapfoaiibjdfnaadoor", sum := "38f31834574f634d505521c5085ffb4fb66dae7e628e4bd1139a1d41210c714a", func := "ablaut/ablautlaw06.PatsSums", spec := "patsSums", unfollowed := true, recurses := true, named := ["math/bits.deBruijn64tab"], loops := true, apart := false, laid := [("math/bits.deBruijn64tab", laid_math_bits_deBruijn64tab)], narrowed := true }
def PatsSumsUptoSaid : Prop := patsSumsUptoRow.holds Tryd.pinned (OpenSpec.upto patsSumsSpec)

/-- 'ablautlaw06.PatsTimes', WHERE WHAT IT READS IS OF BULK AT MOST 1048576: true; the input reads as it did. -/
def patsTimesUptoRow : OpenClaim := { program := "ytapfoaiibjdfnaadoor", sum := "38f31834574f634d505521c5085ffb4fb66dae7e628e4bd1139a1d41210c714a", func := "ablaut/ablautlaw06.PatsTimes", spec := "patsTimes", unfollowed := true, recurses := true, named := ["math/bits.deBruijn64tab"], loops := true, apart := false, laid := [("math/bits.deBruijn64tab", laid_math_bits_deBruijn64tab)], narrowed := true }
def PatsTimesUptoSaid : Prop := patsTimesUptoRow.holds Tryd.pinned (OpenSpec.upto patsTimesSpec)

/-- 'ablautlaw06.PatsChecks', WHERE WHAT IT READS IS OF BULK AT MOST 1048576: true; the input reads as it did. -/
def patsChecksUptoRow : OpenClaim := { program := "ytapfoaiibjdfnaadoor", sum := "38f31834574f634d505521c5085ffb4fb66dae7e628e4bd1139a1d41210c714a", func := "ablaut/ablautlaw06.PatsChecks", spec := "patsChecks", unfollowed := true, recurses := true, named := ["math/bits.deBruijn64tab"], loops := true, apart := false, laid := [("math/bits.deBruijn64tab", laid_math_bits_deBruijn64tab)], narrowed := true }
def PatsChecksUptoSaid : Prop := patsChecksUptoRow.holds Tryd.pinned (OpenSpec.upto patsChecksSpec)

/-- 'ablautlaw06.PatsMirrors', WHERE WHAT IT READS IS OF BULK AT MOST 1048576: true; the input reads as it did. -/
def patsMirrorsUptoRow : OpenClaim := { program := "ytapfoaiibjdfnaadoor", sum := "38f31834574f634d505521c5085ffb4fb66dae7e628e4bd1139a1d41210c714a", func := "ablaut/ablautlaw06.PatsMirrors", spec := "patsMirrors", unfollowed := true, recurses := true, named := ["math/bits.deBruijn64tab"], loops := true, apart := false, laid := [("math/bits.deBruijn64tab", laid_math_bits_deBruijn64tab)], narrowed := true }
def PatsMirrorsUptoSaid : Prop := patsMirrorsUptoRow.holds Tryd.pinned (OpenSpec.upto patsMirrorsSpec)

/-- 'ablautlaw06.PatsKnown', WHERE WHAT IT READS IS OF BULK AT MOST 1048576: true; the input reads as it did. -/
def patsKnownUptoRow : OpenClaim := { program := "ytapfoaiibjdfnaadoor", sum := "38f31834574f634d505521c5085ffb4fb66dae7e628e4bd1139a1d41210c714a", func := "ablaut/ablautlaw06.PatsKnown", spec := "patsKnown", unfollowed := true, recurses := true, named := ["math/bits.deBruijn64tab"], apart := false, laid := [("math/bits.deBruijn64tab", laid_math_bits_deBruijn64tab)], narrowed := true }
def PatsKnownUptoSaid : Prop := patsKnownUptoRow.holds Tryd.pinned (OpenSpec.upto patsKnownSpec)

/-- 'ablautlaw06.PatsBack', WHERE WHAT IT READS IS OF BULK AT MOST 1048576: true; the input reads as it did. -/
def patsBackUptoRow : OpenClaim := { program := "ytapfoaiibjdfnaadoor", sum := "38f31834574f634d505521c5085ffb4fb66dae7e628e4bd1139a1d41210c714a", func := "ablaut/ablautlaw06.PatsBack", spec := "patsBack", unfollowed := true, recurses := true, named := ["math/bits.deBruijn64tab"], loops := true, apart := false, laid := [("math/bits.deBruijn64tab", laid_math_bits_deBruijn64tab)], narrowed := true }
def PatsBackUptoSaid : Prop := patsBackUptoRow.holds Tryd.pinned (OpenSpec.upto patsBackSpec)

end Rows
end Go.Proofs.YtapfoaiibjdfnaaDoor
