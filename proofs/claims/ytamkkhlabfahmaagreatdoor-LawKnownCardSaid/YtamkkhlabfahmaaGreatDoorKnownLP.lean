/- PLAIN: the examples of LawKnown. -/
import Derived.Test.YtamkkhlabfahmaaGreatDoorGa20
import Derived.Test.YtamkkhlabfahmaaGreatDoorGa35
import Derived.Test.YtamkkhlabfahmaaGreatDoorGa31
namespace Go.Proofs.YtamkkhlabfahmaaGreatDoor
open Go.RowKit Go.Ab

abbrev beginP : Pat := .node 2 0 0 false 0 0 []
abbrev growD : LawD := ⟨⟨#[69]⟩, beginP, noneP, [], [⟨-1, 0, (5, 2), 0, 0⟩], 1⟩
abbrev swapD : LawD := ⟨⟨#[77]⟩, noneP, noneP, [(2, 0), (4, 0)], [⟨1, 0, (0, 0), 0, 0⟩, ⟨0, 0, (0, 0), 0, 0⟩], 1⟩
abbrev takeD : LawD := ⟨⟨#[84]⟩, noneP, noneP, [(2, 0), (2, 0)], [⟨0, 0, (0, 0), 1, 1⟩, ⟨1, 0, (0, 0), 0, 0⟩], 3⟩
abbrev wPa : Wd := [(2, 5), (5, 2)]
abbrev wAaapa : Wd := [(5, 2), (5, 2), (5, 2), (2, 5), (5, 2)]
abbrev wPapa : Wd := [(2, 5), (5, 2), (2, 5), (5, 2)]
abbrev wApap : Wd := [(5, 2), (2, 5), (5, 2), (2, 5)]
abbrev wPpb : Wd := [(2, 5), (2, 5), (3, 4)]
abbrev wPbb : Wd := [(2, 5), (3, 4), (3, 4)]
theorem knownL_1 : trE growD wPa = 0 ∧ appL growD wPa = wApaL := by decide +kernel
theorem knownL_2 : setV growD wPa 3 = (wAaapa, 3, 0) := by decide +kernel
theorem knownL_3 : lawE growD = 0 ∧ kindV growD = 3 := by decide +kernel
theorem knownL_4 : trE swapD wPapa = 0 ∧ appL swapD wPapa = wApap := by decide +kernel
theorem knownL_5 : lawE swapD = 0 ∧ kindV swapD = 4 := by decide +kernel
theorem knownL_6 : trE takeD wPpb = 0 ∧ appL takeD wPpb = wPbb := by decide +kernel
theorem knownL_7 : onceE swapD wPa 1 = 5 ∧ onceW swapD wPa 1 = [] := by decide +kernel
end Go.Proofs.YtamkkhlabfahmaaGreatDoor
