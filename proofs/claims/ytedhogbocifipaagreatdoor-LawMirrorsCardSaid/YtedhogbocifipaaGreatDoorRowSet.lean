/- A block of cells, some of which are set. -/
import Derived.Test.YtedhogbocifipaaGreatDoorGa06
namespace Go.Proofs.YtedhogbocifipaaGreatDoor
open Go.RowKit Go.Ab

theorem row_set {W : World} {b : Nat} {xs : Array Value} {t : TypeId} {fr : Nat × Nat} (o : Nat) (v : Value) (h : W.heap[b]? = some (.cells xs t fr)) : (W.setCell ⟨b, o, none⟩ v).heap[b]? = some (.cells (xs.setIfInBounds o v) t fr) := by
 simp only [World.setCell, Array.getElem?_modify, h]; simp
def overA : Array Value → Nat → List Value → Array Value
 | xs, _, [] => xs
 | xs, o, v :: r => overA (xs.setIfInBounds o v) (o + 1) r
theorem row_sets {b : Nat} {t : TypeId} {fr : Nat × Nat} : ∀ (vs : List Value) (o : Nat) {W : World} {xs : Array Value}, W.heap[b]? = some (.cells xs t fr) → (W.setCells b o vs).heap[b]? = some (.cells (overA xs o vs) t fr)
 | [], _, _, _, h => h
 | v :: r, o, _, _, h => row_sets r (o + 1) (row_set o v h)
theorem there_row {W : World} {b : Nat} {xs : Array Value} {t : TypeId} (h : W.heap[b]? = some (.cells xs t (0, 0))) {o n : Nat} (hn : o + n ≤ xs.size) : W.there b o n := fun j hj => by
 have hx : o + j < xs.size := by omega
 constructor
 ·simp [World.cell?, h, hx]
 ·simp [World.frozen?, h]
theorem left_set {W : World} {b : Nat} {t : TypeId} {c0 c1 c2 c3 c4 c5 c6 c7 c8 c9 c10 c11 c12 c13 c14 c15 c16 c17 z0 z1 z2 z3 z4 z5 z6 : Value} (h : W.heap[b]? = some (.cells #[c0, c1, c2, c3, c4, c5, c6, c7, c8, c9, c10, c11, c12, c13, c14, c15, c16, c17] t (0, 0))) : (W.setCells b 1 [z0, z1, z2, z3, z4, z5, z6]).heap[b]? = some (.cells #[c0, z0, z1, z2, z3, z4, z5, z6, c8, c9, c10, c11, c12, c13, c14, c15, c16, c17] t (0, 0)) := by
 have := row_sets [z0, z1, z2, z3, z4, z5, z6] 1 h
 simpa [overA] using this
theorem right_set {W : World} {b : Nat} {t : TypeId} {c0 c1 c2 c3 c4 c5 c6 c7 c8 c9 c10 c11 c12 c13 c14 c15 c16 c17 z0 z1 z2 z3 z4 z5 z6 : Value} (h : W.heap[b]? = some (.cells #[c0, c1, c2, c3, c4, c5, c6, c7, c8, c9, c10, c11, c12, c13, c14, c15, c16, c17] t (0, 0))) : (W.setCells b 8 [z0, z1, z2, z3, z4, z5, z6]).heap[b]? = some (.cells #[c0, c1, c2, c3, c4, c5, c6, c7, z0, z1, z2, z3, z4, z5, z6, c15, c16, c17] t (0, 0)) := by
 have := row_sets [z0, z1, z2, z3, z4, z5, z6] 8 h
 simpa [overA] using this
theorem ifs_set {W : World} {b : Nat} {t : TypeId} {c0 c1 c2 c3 c4 c5 c6 c7 c8 c9 c10 c11 c12 c13 c14 c15 c16 c17 z0 : Value} (h : W.heap[b]? = some (.cells #[c0, c1, c2, c3, c4, c5, c6, c7, c8, c9, c10, c11, c12, c13, c14, c15, c16, c17] t (0, 0))) : (W.setCell ⟨b, 15, none⟩ z0).heap[b]? = some (.cells #[c0, c1, c2, c3, c4, c5, c6, c7, c8, c9, c10, c11, c12, c13, c14, z0, c16, c17] t (0, 0)) := by
 have := row_set 15 z0 h
 simpa [overA] using this
theorem outs_set {W : World} {b : Nat} {t : TypeId} {c0 c1 c2 c3 c4 c5 c6 c7 c8 c9 c10 c11 c12 c13 c14 c15 c16 c17 z0 : Value} (h : W.heap[b]? = some (.cells #[c0, c1, c2, c3, c4, c5, c6, c7, c8, c9, c10, c11, c12, c13, c14, c15, c16, c17] t (0, 0))) : (W.setCell ⟨b, 16, none⟩ z0).heap[b]? = some (.cells #[c0, c1, c2, c3, c4, c5, c6, c7, c8, c9, c10, c11, c12, c13, c14, c15, z0, c17] t (0, 0)) := by
 have := row_set 16 z0 h
 simpa [overA] using this
theorem mode_set {W : World} {b : Nat} {t : TypeId} {c0 c1 c2 c3 c4 c5 c6 c7 c8 c9 c10 c11 c12 c13 c14 c15 c16 c17 z0 : Value} (h : W.heap[b]? = some (.cells #[c0, c1, c2, c3, c4, c5, c6, c7, c8, c9, c10, c11, c12, c13, c14, c15, c16, c17] t (0, 0))) : (W.setCell ⟨b, 17, none⟩ z0).heap[b]? = some (.cells #[c0, c1, c2, c3, c4, c5, c6, c7, c8, c9, c10, c11, c12, c13, c14, c15, c16, z0] t (0, 0)) := by
 have := row_set 17 z0 h
 simpa [overA] using this
theorem out0_set {W : World} {b : Nat} {t : TypeId} {c0 c1 c2 c3 c4 c5 z0 : Value} (h : W.heap[b]? = some (.cells #[c0, c1, c2, c3, c4, c5] t (0, 0))) : (W.setCell ⟨b, 0, none⟩ z0).heap[b]? = some (.cells #[z0, c1, c2, c3, c4, c5] t (0, 0)) := by
 have := row_set 0 z0 h
 simpa [overA] using this
theorem out5_set {W : World} {b : Nat} {t : TypeId} {c0 c1 c2 c3 c4 c5 z0 : Value} (h : W.heap[b]? = some (.cells #[c0, c1, c2, c3, c4, c5] t (0, 0))) : (W.setCell ⟨b, 5, none⟩ z0).heap[b]? = some (.cells #[c0, c1, c2, c3, c4, z0] t (0, 0)) := by
 have := row_set 5 z0 h
 simpa [overA] using this
theorem froz_row {W : World} {b : Nat} {xs : Array Value} {t : TypeId} (h : W.heap[b]? = some (.cells xs t (0, 0))) {o : Nat} (hn : o < xs.size) : W.frozen? ⟨b, o, none⟩ = false := (there_row h (o := o) (n := 1) (by omega) 0 (by omega)).2
end Go.Proofs.YtedhogbocifipaaGreatDoor
