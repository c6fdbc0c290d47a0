/- The lengths of words that a machine can hold. -/
import Derived.Test.YtedhogbocifipaaGreatDoorGa23
import Derived.SizedLaws
set_option maxRecDepth 100000
namespace Go.Proofs.YtedhogbocifipaaGreatDoor
open Go.RowKit Go.Ab Go.ChangeShapes Go.WideShapes
section
variable {H : Type} {enc : TypeId × Value → H} {w : World} {base b0 : Nat} {held : Bool} {d : DataW H} {ps : List MemPlace}
theorem bytes8 : Tryz.prog.bytesOf 24 = 8 := by kernel_rfl
theorem reach_word {vo : Option Addr} {n vc : Nat} (hd : DataW.Trod enc Tryz.prog w base (fun _ => true) held 28 (.slice vo n vc) d ps)
  (hr : ∀ elems spare, d = .slice elems spare → (elems.length + spare.length) * Tryz.prog.bytesOf 24 ≤ reachBytes) : n ≤ 17592186044416 := by
 obtain ⟨fuel, hf⟩ := hd
 have hf : DataW.trod enc Tryz.prog w base (fun _ => true) held fuel 28 [.slice vo n vc] = some (d, ps) := by simpa [Value.cells] using hf
 rcases DataW.trod_slice Tryz.underlying28 hf with ⟨h, _⟩ | ⟨A, len, cap, elems, rest, n2, _, h, hx, _, _, _, hel, _⟩
 ·simp at h
  omega
 ·simp at h
  have hd : d = .slice (elems.map (·.1)) (rest.map (·.1)) := congrArg Prod.fst hx
  have := hr _ _ hd
  rw [bytes8, List.length_map] at this
  unfold reachBytes at this
  omega
end
end Go.Proofs.YtedhogbocifipaaGreatDoor
