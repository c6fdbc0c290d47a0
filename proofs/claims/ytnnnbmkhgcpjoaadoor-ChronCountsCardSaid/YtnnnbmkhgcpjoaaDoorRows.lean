/-
  NARROWER THAN 'FOR EVERY INPUT', by the rows' own cells (each row's printed sentence says how): ChronCounts: laid · ChronReduces: laid · ChronLevels: laid · ChronChains: laid · ChronTurns: laid · ChronNews: laid · ChronFollows: laid · ChronKnown: laid · ChronPlays: laid · ChronNil: laid · ChronAdds: laid.
  DERIVED. THE GIVEN ROWS OF THIS SEAT. 11 by the template 'for every input the law returns true; each argument reads behind the call as it read before'; 0 by the template 'total and deterministic' (their statements: YtnnnbmkhgcpjoaaDoorTotals.lean).
  GIVEN WITH THE SEED: the statements are not yours to turn. If you find one false, say at which input.
  Laid BY PROGRAM, IN A SANDBOX (cutbox-rows.mjs): the forced cells as the released guide's own fill.sh prints them over the translation 8a9095ffbe3e724a… (all of the seat's roots in one cut). By AI agents, Wed Nov 11 2026. No macro, syntax, notation, axiom, sorry.
-/
import Derived.Test.YtnnnbmkhgcpjoaaDoorChecked
import GoSem.Claim
import GoSem.ClaimJoined
import GoSem.ClaimMapViews
import Derived.JoinedTies
import Derived.KernelRfl
namespace Go.Proofs.YtnnnbmkhgcpjoaaDoor
/- THE CELL 'sum', in the pinned program and in every row, IS THE sha256 OF THE DUMP (.gsa) THAT YtnnnbmkhgcpjoaaDoorProg.lean LOADS. Nothing in Lean hashes anything: it is a label: what it is worth is what the hold of that sum in a sandbox is worth. -/
noncomputable def Tryd.pinned : Pinned := { name := "ytnnnbmkhgcpjoaadoor", sum := "8a9095ffbe3e724a833c7498ddc10df275c746bfe439b914680666d5c5917fde", checked := Tryd.checked }
namespace Rows
def none {H : Type} : Left H := { results := [], args := [] }

/- WHAT THE LISTED PACKAGE-LEVEL VARIABLES READ AS WHEN THE CALL BEGINS. Each datum BY PROGRAM (the guide's laid-datum.mjs) off the statement by which the dump's own 'gosem.cut.vars' lays the variable. In a bare row this is a premise. The card (YtnnnbmkhgcpjoaaDoorCards.lean) ties it to the program's text. -/
def laid_math_bits_deBruijn64tab {H : Type} : DataW H := .agg [.lit (.int .u8 0), .lit (.int .u8 1), .lit (.int .u8 56), .lit (.int .u8 2), .lit (.int .u8 57), .lit (.int .u8 49), .lit (.int .u8 28), .lit (.int .u8 3), .lit (.int .u8 61), .lit (.int .u8 58), .lit (.int .u8 42), .lit (.int .u8 50), .lit (.int .u8 38), .lit (.int .u8 29), .lit (.int .u8 17), .lit (.int .u8 4), .lit (.int .u8 62), .lit (.int .u8 47), .lit (.int .u8 59), .lit (.int .u8 36), .lit (.int .u8 45), .lit (.int .u8 43), .lit (.int .u8 51), .lit (.int .u8 22), .lit (.int .u8 53), .lit (.int .u8 39), .lit (.int .u8 33), .lit (.int .u8 30), .lit (.int .u8 24), .lit (.int .u8 18), .lit (.int .u8 12), .lit (.int .u8 5), .lit (.int .u8 63), .lit (.int .u8 55), .lit (.int .u8 48), .lit (.int .u8 27), .lit (.int .u8 60), .lit (.int .u8 41), .lit (.int .u8 37), .lit (.int .u8 16), .lit (.int .u8 46), .lit (.int .u8 35), .lit (.int .u8 44), .lit (.int .u8 21), .lit (.int .u8 52), .lit (.int .u8 32), .lit (.int .u8 23), .lit (.int .u8 11), .lit (.int .u8 54), .lit (.int .u8 26), .lit (.int .u8 40), .lit (.int .u8 15), .lit (.int .u8 34), .lit (.int .u8 20), .lit (.int .u8 31), .lit (.int .u8 10), .lit (.int .u8 25), .lit (.int .u8 14), .lit (.int .u8 19), .lit (.int .u8 9), .lit (.int .u8 13), .lit (.int .u8 8), .lit (.int .u8 7), .lit (.int .u8 6)]

/-- 'ablautlaw13.ChronCounts': WHATEVER THE INPUT: true; the input reads as it did. -/
def chronCountsSpec : ChangeSpec := { name := "chronCounts", fn := fun _ => fun
  | [d1, d2, d3] => { results := [.lit (.bool true)], args := [d1, d2, d3] }
  | _ => none }
def chronCountsRow : OpenClaim := { program := "ytnnnbmkhgcpjoaadoor", sum := "8a9095ffbe3e724a833c7498ddc10df275c746bfe439b914680666d5c5917fde", func := "ablaut/ablautlaw13.ChronCounts", spec := "chronCounts", unfollowed := true, recurses := true, named := ["math/bits.deBruijn64tab"], apart := false, laid := [("math/bits.deBruijn64tab", laid_math_bits_deBruijn64tab)] }
def ChronCountsSaid : Prop := chronCountsRow.holds Tryd.pinned (OpenSpec.ofChange chronCountsSpec)

/-- ITS FALSE NEIGHBOUR: 'it returns false'. Refute it at one input. -/
def chronCountsWrong : ChangeSpec := { name := "chronCounts", fn := fun _ => fun
  | [d1, d2, d3] => { results := [.lit (.bool false)], args := [d1, d2, d3] }
  | _ => none }
def ChronCountsWrongFalsely : Prop := chronCountsRow.holds Tryd.pinned (OpenSpec.ofChange chronCountsWrong)

/-- 'ablautlaw13.ChronReduces': WHATEVER THE INPUT: true; the input reads as it did. -/
def chronReducesSpec : ChangeSpec := { name := "chronReduces", fn := fun _ => fun
  | [d1, d2] => { results := [.lit (.bool true)], args := [d1, d2] }
  | _ => none }
def chronReducesRow : OpenClaim := { program := "ytnnnbmkhgcpjoaadoor", sum := "8a9095ffbe3e724a833c7498ddc10df275c746bfe439b914680666d5c5917fde", func := "ablaut/ablautlaw13.ChronReduces", spec := "chronReduces", unfollowed := true, recurses := true, named := ["math/bits.deBruijn64tab"], apart := false, laid := [("math/bits.deBruijn64tab", laid_math_bits_deBruijn64tab)] }
def ChronReducesSaid : Prop := chronReducesRow.holds Tryd.pinned (OpenSpec.ofChange chronReducesSpec)

/-- ITS FALSE NEIGHBOUR: 'it returns false'. Refute it at one input. -/
def chronReducesWrong : ChangeSpec := { name := "chronReduces", fn := fun _ => fun
  | [d1, d2] => { results := [.lit (.bool false)], args := [d1, d2] }
  | _ => none }
def ChronReducesWrongFalsely : Prop := chronReducesRow.holds Tryd.pinned (OpenSpec.ofChange chronReducesWrong)

/-- 'ablautlaw13.ChronLevels': WHATEVER THE INPUT: true; the input reads as it did. -/
def chronLevelsSpec : ChangeSpec := { name := "chronLevels", fn := fun _ => fun
  | [d] => { results := [.lit (.bool true)], args := [d] }
  | _ => none }
def chronLevelsRow : OpenClaim := { program := "ytnnnbmkhgcpjoaadoor", sum := "8a9095ffbe3e724a833c7498ddc10df275c746bfe439b914680666d5c5917fde", func := "ablaut/ablautlaw13.ChronLevels", spec := "chronLevels", unfollowed := true, recurses := true, named := ["math/bits.deBruijn64tab"], apart := false, laid := [("math/bits.deBruijn64tab", laid_math_bits_deBruijn64tab)] }
def ChronLevelsSaid : Prop := chronLevelsRow.holds Tryd.pinned (OpenSpec.ofChange chronLevelsSpec)

/-- ITS FALSE NEIGHBOUR: 'it returns false'. Refute it at one input. -/
def chronLevelsWrong : ChangeSpec := { name := "chronLevels", fn := fun _ => fun
  | [d] => { results := [.lit (.bool false)], args := [d] }
  | _ => none }
def ChronLevelsWrongFalsely : Prop := chronLevelsRow.holds Tryd.pinned (OpenSpec.ofChange chronLevelsWrong)

/-- 'ablautlaw13.ChronChains': WHATEVER THE INPUT: true; the input reads as it did. -/
def chronChainsSpec : ChangeSpec := { name := "chronChains", fn := fun _ => fun
  | [d1, d2] => { results := [.lit (.bool true)], args := [d1, d2] }
  | _ => none }
def chronChainsRow : OpenClaim := { program := "ytnnnbmkhgcpjoaadoor", sum := "8a9095ffbe3e724a833c7498ddc10df275c746bfe439b914680666d5c5917fde", func := "ablaut/ablautlaw13.ChronChains", spec := "chronChains", unfollowed := true, recurses := true, named := ["math/bits.deBruijn64tab"], apart := false, laid := [("math/bits.deBruijn64tab", laid_math_bits_deBruijn64tab)] }
def ChronChainsSaid : Prop := chronChainsRow.holds Tryd.pinned (OpenSpec.ofChange chronChainsSpec)

/-- ITS FALSE NEIGHBOUR: 'it returns false'. Refute it at one input. -/
def chronChainsWrong : ChangeSpec := { name := "chronChains", fn := fun _ => fun
  | [d1, d2] => { results := [.lit (.bool false)], args := [d1, d2] }
  | _ => none }
def ChronChainsWrongFalsely : Prop := chronChainsRow.holds Tryd.pinned (OpenSpec.ofChange chronChainsWrong)

/-- 'ablautlaw13.ChronTurns': WHATEVER THE INPUT: true; the input reads as it did. -/
def chronTurnsSpec : ChangeSpec := { name := "chronTurns", fn := fun _ => fun
  | [d] => { results := [.lit (.bool true)], args := [d] }
  | _ => none }
def chronTurnsRow : OpenClaim := { program := "ytnnnbmkhgcpjoaadoor", sum := "8a9095ffbe3e724a833c7498ddc10df275c746bfe439b914680666d5c5917fde", func := "ablaut/ablautlaw13.ChronTurns", spec := "chronTurns", unfollowed := true, recurses := true, named := ["math/bits.deBruijn64tab"], apart := false, laid := [("math/bits.deBruijn64tab", laid_math_bits_deBruijn64tab)] }
def ChronTurnsSaid : Prop := chronTurnsRow.holds Tryd.pinned (OpenSpec.ofChange chronTurnsSpec)

/-- ITS FALSE NEIGHBOUR: 'it returns false'. Refute it at one input. -/
def chronTurnsWrong : ChangeSpec := { name := "chronTurns", fn := fun _ => fun
  | [d] => { results := [.lit (.bool false)], args := [d] }
  | _ => none }
def ChronTurnsWrongFalsely : Prop := chronTurnsRow.holds Tryd.pinned (OpenSpec.ofChange chronTurnsWrong)

/-- 'ablautlaw13.ChronNews': WHATEVER THE INPUT: true; the input reads as it did. -/
def chronNewsSpec : ChangeSpec := { name := "chronNews", fn := fun _ => fun
  | [d1, d2] => { results := [.lit (.bool true)], args := [d1, d2] }
  | _ => none }
def chronNewsRow : OpenClaim := { program := "ytnnnbmkhgcpjoaadoor", sum := "8a9095ffbe3e724a833c7498ddc10df275c746bfe439b914680666d5c5917fde", func := "ablaut/ablautlaw13.ChronNews", spec := "chronNews", unfollowed := true, recurses := true, named := ["math/bits.deBruijn64tab"], apart := false, laid := [("math/bits.deBruijn64tab", laid_math_bits_deBruijn64tab)] }
def ChronNewsSaid : Prop := chronNewsRow.holds Tryd.pinned (OpenSpec.ofChange chronNewsSpec)

/-- ITS FALSE NEIGHBOUR: 'it returns false'. Refute it at one input. -/
def chronNewsWrong : ChangeSpec := { name := "chronNews", fn := fun _ => fun
  | [d1, d2] => { results := [.lit (.bool false)], args := [d1, d2] }
  | _ => none }
def ChronNewsWrongFalsely : Prop := chronNewsRow.holds Tryd.pinned (OpenSpec.ofChange chronNewsWrong)

/-- 'ablautlaw13.ChronFollows': WHATEVER THE INPUT: true; the input reads as it did. -/
def chronFollowsSpec : ChangeSpec := { name := "chronFollows", fn := fun _ => fun
  | [d] => { results := [.lit (.bool true)], args := [d] }
  | _ => none }
def chronFollowsRow : OpenClaim := { program := "ytnnnbmkhgcpjoaadoor", sum := "8a9095ffbe3e724a833c7498ddc10df275c746bfe439b914680666d5c5917fde", func := "ablaut/ablautlaw13.ChronFollows", spec := "chronFollows", unfollowed := true, recurses := true, named := ["math/bits.deBruijn64tab"], apart := false, laid := [("math/bits.deBruijn64tab", laid_math_bits_deBruijn64tab)] }
def ChronFollowsSaid : Prop := chronFollowsRow.holds Tryd.pinned (OpenSpec.ofChange chronFollowsSpec)

/-- ITS FALSE NEIGHBOUR: 'it returns false'. Refute it at one input. -/
def chronFollowsWrong : ChangeSpec := { name := "chronFollows", fn := fun _ => fun
  | [d] => { results := [.lit (.bool false)], args := [d] }
  | _ => none }
def ChronFollowsWrongFalsely : Prop := chronFollowsRow.holds Tryd.pinned (OpenSpec.ofChange chronFollowsWrong)

/-- 'ablautlaw13.ChronKnown': WHATEVER THE INPUT: true; the input reads as it did. -/
def chronKnownSpec : ChangeSpec := { name := "chronKnown", fn := fun _ => fun
  | [] => { results := [.lit (.bool true)], args := [] }
  | _ => none }
def chronKnownRow : OpenClaim := { program := "ytnnnbmkhgcpjoaadoor", sum := "8a9095ffbe3e724a833c7498ddc10df275c746bfe439b914680666d5c5917fde", func := "ablaut/ablautlaw13.ChronKnown", spec := "chronKnown", unfollowed := true, recurses := true, named := ["math/bits.deBruijn64tab"], apart := false, laid := [("math/bits.deBruijn64tab", laid_math_bits_deBruijn64tab)] }
def ChronKnownSaid : Prop := chronKnownRow.holds Tryd.pinned (OpenSpec.ofChange chronKnownSpec)

/-- ITS FALSE NEIGHBOUR: 'it returns false'. Refute it at one input. -/
def chronKnownWrong : ChangeSpec := { name := "chronKnown", fn := fun _ => fun
  | [] => { results := [.lit (.bool false)], args := [] }
  | _ => none }
def ChronKnownWrongFalsely : Prop := chronKnownRow.holds Tryd.pinned (OpenSpec.ofChange chronKnownWrong)

/-- 'ablautlaw13.ChronPlays': WHATEVER THE INPUT: true; the input reads as it did. -/
def chronPlaysSpec : ChangeSpec := { name := "chronPlays", fn := fun _ => fun
  | [d1, d2, d3] => { results := [.lit (.bool true)], args := [d1, d2, d3] }
  | _ => none }
def chronPlaysRow : OpenClaim := { program := "ytnnnbmkhgcpjoaadoor", sum := "8a9095ffbe3e724a833c7498ddc10df275c746bfe439b914680666d5c5917fde", func := "ablaut/ablautlaw13.ChronPlays", spec := "chronPlays", unfollowed := true, recurses := true, named := ["math/bits.deBruijn64tab"], apart := false, laid := [("math/bits.deBruijn64tab", laid_math_bits_deBruijn64tab)] }
def ChronPlaysSaid : Prop := chronPlaysRow.holds Tryd.pinned (OpenSpec.ofChange chronPlaysSpec)

/-- ITS FALSE NEIGHBOUR: 'it returns false'. Refute it at one input. -/
def chronPlaysWrong : ChangeSpec := { name := "chronPlays", fn := fun _ => fun
  | [d1, d2, d3] => { results := [.lit (.bool false)], args := [d1, d2, d3] }
  | _ => none }
def ChronPlaysWrongFalsely : Prop := chronPlaysRow.holds Tryd.pinned (OpenSpec.ofChange chronPlaysWrong)

/-- 'ablautlaw13.ChronNil': WHATEVER THE INPUT: true; the input reads as it did. -/
def chronNilSpec : ChangeSpec := { name := "chronNil", fn := fun _ => fun
  | [d] => { results := [.lit (.bool true)], args := [d] }
  | _ => none }
def chronNilRow : OpenClaim := { program := "ytnnnbmkhgcpjoaadoor", sum := "8a9095ffbe3e724a833c7498ddc10df275c746bfe439b914680666d5c5917fde", func := "ablaut/ablautlaw13.ChronNil", spec := "chronNil", unfollowed := true, recurses := true, named := ["math/bits.deBruijn64tab"], apart := false, laid := [("math/bits.deBruijn64tab", laid_math_bits_deBruijn64tab)] }
def ChronNilSaid : Prop := chronNilRow.holds Tryd.pinned (OpenSpec.ofChange chronNilSpec)

/-- ITS FALSE NEIGHBOUR: 'it returns false'. Refute it at one input. -/
def chronNilWrong : ChangeSpec := { name := "chronNil", fn := fun _ => fun
  | [d] => { results := [.lit (.bool false)], args := [d] }
  | _ => none }
def ChronNilWrongFalsely : Prop := chronNilRow.holds Tryd.pinned (OpenSpec.ofChange chronNilWrong)

/-- 'ablautlaw13.ChronAdds': WHATEVER THE INPUT: true; the input reads as it did. -/
def chronAddsSpec : ChangeSpec := { name := "chronAdds", fn := fun _ => fun
  | [d1, d2, d3, d4] => { results := [.lit (.bool true)], args := [d1, d2, d3, d4] }
  | _ => none }
def chronAddsRow : OpenClaim := { program := "ytnnnbmkhgcpjoaadoor", sum := "8a9095ffbe3e724a833c7498ddc10df275c746bfe439b914680666d5c5917fde", func := "ablaut/ablautlaw13.ChronAdds", spec := "chronAdds", unfollowed := true, recurses := true, named := ["math/bits.deBruijn64tab"], apart := false, laid := [("math/bits.deBruijn64tab", laid_math_bits_deBruijn64tab)] }
def ChronAddsSaid : Prop := chronAddsRow.holds Tryd.pinned (OpenSpec.ofChange chronAddsSpec)

/-- ITS FALSE NEIGHBOUR: 'it returns false'. Refute it at one input. -/
def chronAddsWrong : ChangeSpec := { name := "chronAdds", fn := fun _ => fun
  | [d1, d2, d3, d4] => { results := [.lit (.bool false)], args := [d1, d2, d3, d4] }
  | _ => none }
def ChronAddsWrongFalsely : Prop := chronAddsRow.holds Tryd.pinned (OpenSpec.ofChange chronAddsWrong)

/- THE SECOND FORM. 'bulk': how many values and letters a reading holds, each counted each time it is reached (what is shared counts as often as it is met; a slice's spare places count too). A statement '..UptoSaid' is the law's where the arguments, and the package variables that the reading takes, are together of bulk at most 1048576: NARROWER than '..Said'. Prove '..Said' where nothing that the law and all that it calls make is longer than what came in: it says more and counts as full. Else prove '..UptoSaid'. A law counts once. -/
mutual
def uptoBulk {H : Type} : DataW H → Nat
  | .lit (.string bytes) => bytes.length + 1
  | .lit _ => 1
  | .nil => 1
  | .ptr d => uptoBulk d + 1
  | .slice elems spare => uptoBulkAll elems + uptoBulkAll spare + 1
  | .agg parts => uptoBulkAll parts + 1
  | .iface _ d => uptoBulk d + 1
  | .map entries => uptoBulkEntries entries + 1
  | .held _ => 1
def uptoBulkAll {H : Type} : List (DataW H) → Nat
  | [] => 0
  | d :: r => uptoBulk d + uptoBulkAll r
def uptoBulkEntries {H : Type} : List (Lit × DataW H) → Nat
  | [] => 0
  | x :: r => uptoBulkEntry x + uptoBulkEntries r
def uptoBulkEntry {H : Type} : Lit × DataW H → Nat
  | (.string bytes, d) => bytes.length + uptoBulk d + 1
  | (_, d) => uptoBulk d + 1
 end
def uptoSmall : (H : Type) → List (DataW H) → Bool := fun _ ds => decide (uptoBulkAll ds ≤ 1048576)
def OpenSpec.upto (s : _root_.Go.ChangeSpec) : _root_.Go.OpenSpec := { _root_.Go.OpenSpec.ofChange s with cond := some uptoSmall }

/-- 'ablautlaw13.ChronCounts', WHERE WHAT IT READS IS OF BULK AT MOST 1048576: true; the input reads as it did. -/
def chronCountsUptoRow : OpenClaim := { program := "ytnnnbmkhgcpjoaadoor", sum := "8a9095ffbe3e724a833c7498ddc10df275c746bfe439b914680666d5c5917fde", func := "ablaut/ablautlaw13.ChronCounts", spec := "chronCounts", unfollowed := true, recurses := true, named := ["math/bits.deBruijn64tab"], apart := false, laid := [("math/bits.deBruijn64tab", laid_math_bits_deBruijn64tab)], narrowed := true }
def ChronCountsUptoSaid : Prop := chronCountsUptoRow.holds Tryd.pinned (OpenSpec.upto chronCountsSpec)

/-- 'ablautlaw13.ChronReduces', WHERE WHAT IT READS IS OF BULK AT MOST 1048576: true; the input reads as it did. -/
def chronReducesUptoRow : OpenClaim := { program := "ytnnnbmkhgcpjoaadoor", sum := "8a9095ffbe3e724a833c7498ddc10df275c746bfe439b914680666d5c5917fde", func := "ablaut/ablautlaw13.ChronReduces", spec := "chronReduces", unfollowed := true, recurses := true, named := ["math/bits.deBruijn64tab"], apart := false, laid := [("math/bits.deBruijn64tab", laid_math_bits_deBruijn64tab)], narrowed := true }
def ChronReducesUptoSaid : Prop := chronReducesUptoRow.holds Tryd.pinned (OpenSpec.upto chronReducesSpec)

/-- 'ablautlaw13.ChronLevels', WHERE WHAT IT READS IS OF BULK AT MOST 1048576: true; the input reads as it did. -/
def chronLevelsUptoRow : OpenClaim := { program := "ytnnnbmkhgcpjoaadoor", sum := "8a9095ffbe3e724a833c7498ddc10df275c746bfe439b914680666d5c5917fde", func := "ablaut/ablautlaw13.ChronLevels", spec := "chronLevels", unfollowed := true, recurses := true, named := ["math/bits.deBruijn64tab"], apart := false, laid := [("math/bits.deBruijn64tab", laid_math_bits_deBruijn64tab)], narrowed := true }
def ChronLevelsUptoSaid : Prop := chronLevelsUptoRow.holds Tryd.pinned (OpenSpec.upto chronLevelsSpec)

/-- 'ablautlaw13.ChronChains', WHERE WHAT IT READS IS OF BULK AT MOST 1048576: true; the input reads as it did. -/
def chronChainsUptoRow : OpenClaim := { program := "ytnnnbmkhgcpjoaadoor", sum := "8a9095ffbe3e724a833c7498ddc10df275c746bfe439b914680666d5c5917fde", func := "ablaut/ablautlaw13.ChronChains", spec := "chronChains", unfollowed := true, recurses := true, named := ["math/bits.deBruijn64tab"], apart := false, laid := [("math/bits.deBruijn64tab", laid_math_bits_deBruijn64tab)], narrowed := true }
def ChronChainsUptoSaid : Prop := chronChainsUptoRow.holds Tryd.pinned (OpenSpec.upto chronChainsSpec)

/-- 'ablautlaw13.ChronTurns', WHERE WHAT IT READS IS OF BULK AT MOST 1048576: true; the input reads as it did. -/
def chronTurnsUptoRow : OpenClaim := { program := "ytnnnbmkhgcpjoaadoor", sum := "8a9095ffbe3e724a833c7498ddc10df275c746bfe439b914680666d5c5917fde", func := "ablaut/ablautlaw13.ChronTurns", spec := "chronTurns", unfollowed := true, recurses := true, named := ["math/bits.deBruijn64tab"], apart := false, laid := [("math/bits.deBruijn64tab", laid_math_bits_deBruijn64tab)], narrowed := true }
def ChronTurnsUptoSaid : Prop := chronTurnsUptoRow.holds Tryd.pinned (OpenSpec.upto chronTurnsSpec)

/-- 'ablautlaw13.ChronNews', WHERE WHAT IT READS IS OF BULK AT MOST 1048576: true; the input reads as it did. -/
def chronNewsUptoRow : OpenClaim := { program := "ytnnnbmkhgcpjoaadoor", sum := "8a9095ffbe3e724a833c7498ddc10df275c746bfe439b914680666d5c5917fde", func := "ablaut/ablautlaw13.ChronNews", spec := "chronNews", unfollowed := true, recurses := true, named := ["math/bits.deBruijn64tab"], apart := false, laid := [("math/bits.deBruijn64tab", laid_math_bits_deBruijn64tab)], narrowed := true }
def ChronNewsUptoSaid : Prop := chronNewsUptoRow.holds Tryd.pinned (OpenSpec.upto chronNewsSpec)

/-- 'ablautlaw13.ChronFollows', WHERE WHAT IT READS IS OF BULK AT MOST 1048576: true; the input reads as it did. -/
def chronFollowsUptoRow : OpenClaim := { program := "ytnnnbmkhgcpjoaadoor", sum := "8a9095ffbe3e724a833c7498ddc10df275c746bfe439b914680666d5c5917fde", func := "ablaut/ablautlaw13.ChronFollows", spec := "chronFollows", unfollowed := true, recurses := true, named := ["math/bits.deBruijn64tab"], apart := false, laid := [("math/bits.deBruijn64tab", laid_math_bits_deBruijn64tab)], narrowed := true }
def ChronFollowsUptoSaid : Prop := chronFollowsUptoRow.holds Tryd.pinned (OpenSpec.upto chronFollowsSpec)

/-- 'ablautlaw13.ChronKnown', WHERE WHAT IT READS IS OF BULK AT MOST 1048576: true; the input reads as it did. -/
def chronKnownUptoRow : OpenClaim := { program := "ytnnnbmkhgcpjoaadoor", sum := "8a9095ffbe3e724a833c7498ddc10df275c746bfe439b914680666d5c5917fde", func := "ablaut/ablautlaw13.ChronKnown", spec := "chronKnown", unfollowed := true, recurses := true, named := ["math/bits.deBruijn64tab"], apart := false, laid := [("math/bits.deBruijn64tab", laid_math_bits_deBruijn64tab)], narrowed := true }
def ChronKnownUptoSaid : Prop := chronKnownUptoRow.holds Tryd.pinned (OpenSpec.upto chronKnownSpec)

/-- 'ablautlaw13.ChronPlays', WHERE WHAT IT READS IS OF BULK AT MOST 1048576: true; the input reads as it did. -/
def chronPlaysUptoRow : OpenClaim := { program := "ytnnnbmkhgcpjoaadoor", sum := "8a9095ffbe3e724a833c7498ddc10df275c746bfe439b914680666d5c5917fde", func := "ablaut/ablautlaw13.ChronPlays", spec := "chronPlays", unfollowed := true, recurses := true, named := ["math/bits.deBruijn64tab"], apart := false, laid := [("math/bits.deBruijn64tab", laid_math_bits_deBruijn64tab)], narrowed := true }
def ChronPlaysUptoSaid : Prop := chronPlaysUptoRow.holds Tryd.pinned (OpenSpec.upto chronPlaysSpec)

/-- 'ablautlaw13.ChronNil', WHERE WHAT IT READS IS OF BULK AT MOST 1048576: true; the input reads as it did. -/
def chronNilUptoRow : OpenClaim := { program := "ytnnnbmkhgcpjoaadoor", sum := "8a9095ffbe3e724a833c7498ddc10df275c746bfe439b914680666d5c5917fde", func := "ablaut/ablautlaw13.ChronNil", spec := "chronNil", unfollowed := true, recurses := true, named := ["math/bits.deBruijn64tab"], apart := false, laid := [("math/bits.deBruijn64tab", laid_math_bits_deBruijn64tab)], narrowed := true }
def ChronNilUptoSaid : Prop := chronNilUptoRow.holds Tryd.pinned (OpenSpec.upto chronNilSpec)

/-- 'ablautlaw13.ChronAdds', WHERE WHAT IT READS IS OF BULK AT MOST 1048576: true; the input reads as it did. -/
def chronAddsUptoRow : OpenClaim := { program := "ytnnnbmkhgcpjoaadoor", sum := "8a9095ffbe3e724a833c7498ddc10df275c746bfe439b914680666d5c5917fde", func := "ablaut/ablautlaw13.ChronAdds", spec := "chronAdds", unfollowed := true, recurses := true, named := ["math/bits.deBruijn64tab"], apart := false, laid := [("math/bits.deBruijn64tab", laid_math_bits_deBruijn64tab)], narrowed := true }
def ChronAddsUptoSaid : Prop := chronAddsUptoRow.holds Tryd.pinned (OpenSpec.upto chronAddsSpec)

end Rows
end Go.Proofs.YtnnnbmkhgcpjoaaDoor
