/- What pats answers for a valid pattern and a valid word; the cells of a table of bools. -/
import Derived.Test.YtapfoaiibjdfnaaDoorOuts
import Derived.Test.YtapfoaiibjdfnaaDoorFind
import Derived.Test.YtapfoaiibjdfnaaDoorWorks6
namespace Go.Proofs.YtapfoaiibjdfnaaDoor
open Go.RowKit Go.Ab
attribute [local go_sem] Oper.semAt_some wide_fn wide_depth

/-- The cells of a table. -/
def GridC (w : World) (g m n : Nat) (R : Bin2) : Prop := ∀ i, i < m → ∃ gi ci, w.cell? ⟨g, i, none⟩ = some (.slice (some ⟨gi, 0, none⟩) n ci) ∧ ∀ k, k < n → w.cell? ⟨gi, k, none⟩ = some (.bool (R i k))
theorem GridC.ext {A B : World} {g m n : Nat} {R : Bin2} (h : GridC A g m n R) (ht : Ext A B) : GridC B g m n R := fun i hi => by
  obtain ⟨gi, ci, b, c⟩ := h i hi
  exact ⟨gi, ci, ht.cell_some b id, fun k hk => ht.cell_some (c k hk) id⟩
theorem Grid.open {w : World} {v : Value} {m n : Nat} {R : Bin2} (h : Grid w v (m + 1) n R) : ∃ g cap, v = .slice (some ⟨g, 0, none⟩) (m + 1) cap ∧ GridC w g (m + 1) n R := by
  obtain ⟨_, ao, cap, rfl, h2⟩ := h
  obtain ⟨g, _, _, rfl, _, _⟩ := h2 0 (by omega)
  refine ⟨g, cap, rfl, fun i hi => ?_⟩
  obtain ⟨g', gi, ci, e, b, c⟩ := h2 i hi
  cases e
  exact ⟨gi, ci, b, c⟩

section
variable {K : Nat → Prop} {w : World} {p : Pat} {cs : List Value} {v : Value} {ws : Wd}
theorem place_good (h : relE p ws = 0) {k : Nat} (hk : k ≤ ws.length) : placeE p ws k = 0 := (endL_good h hk).1
theorem matches_good (hp : PatAt K w p cs) (hK : ∀ g, K g → g < w.heap.size) (hv : WordAt w v ws) (hT : Tab w) (h : relE p ws = 0) :
    Calls Tryd.prog 21 #[.agg cs.toArray, v] w fun e w' => e = .returned (.tuple #[.bool (relP ws p 0 ws.length), .int .i64 0]) ∧ Ext w w' := by
  have := matches_any hp hK hv hT
  have e : matV p ws = relP ws p 0 ws.length := by unfold matV; rw [relR_good h, decide_eq_true h, Bool.true_and]
  rw [e, h] at this
  exact this
theorem begins_good (hp : PatAt K w p cs) (hK : ∀ g, K g → g < w.heap.size) (hv : WordAt w v ws) (hT : Tab w) (h : relE p ws = 0) {k : Nat} (hk : k ≤ ws.length) :
    Calls Tryd.prog 17 #[.agg cs.toArray, v, .int .i64 k] w fun e w' => ∃ u, e = .returned (.tuple #[u, .int .i64 0]) ∧ Rd w' u ((List.range (ws.length + 1)).filter (fun a => relP ws p a k)).length 1 (natV ((List.range (ws.length + 1)).filter (fun a => relP ws p a k))) ∧ Ext w w' := by
  refine (begins_any hp hK hv hT (k : Int)).mono ?_
  rintro e w' ⟨u, he, h1, h2⟩
  have hb : begL p ws k = (List.range (ws.length + 1)).filter (fun a => relP ws p a k) := by
    unfold begL
    rw [if_pos (place_good h hk), relR_good h, show ((k : Int)).toNat = k by omega]
  rw [hb] at h1
  rw [place_good h hk] at he
  exact ⟨u, he, Rd.of_own h1, h2⟩
theorem find_good (hp : PatAt K w p cs) (hK : ∀ g, K g → g < w.heap.size) (hv : WordAt w v ws) (hT : Tab w) (h : relE p ws = 0) {k : Nat} (hk : k ≤ ws.length) :
    Calls Tryd.prog 23 #[.agg cs.toArray, v, .int .i64 k] w fun e w' => (∃ x y ok, e = .returned (.tuple #[.int .i64 x, .int .i64 y, .bool ok, .int .i64 0]) ∧ FindIs (relP ws p) ws.length k x y ok) ∧ Ext w w' := by
  refine (find_any hp hK hv hT (k : Int)).mono ?_
  rintro e w' ⟨⟨x, y, ok, he, h1⟩, h2⟩
  rw [place_good h hk] at he h1
  rw [if_pos rfl, relR_good h, show ((k : Int)).toNat = k by omega] at h1
  exact ⟨⟨x, y, ok, he, h1⟩, h2⟩
theorem empty_good (hp : PatAt K w p cs) (hK : ∀ g, K g → g < w.heap.size) (hT : Tab w) (h : relE p ws = 0) :
    Calls Tryd.prog 28 #[.agg cs.toArray] w fun e w' => e = .returned (.bool (emptyP p)) ∧ Ext w w' := by
  have := isempty_any hp hK hT
  have e : emptyV p = emptyP p := by unfold emptyV; rw [decide_eq_true (relE_zero.1 h).1, Bool.true_and]
  rw [e] at this
  exact this
end

/-- What stands at its place in a list of places. -/
theorem filter_at {n a : Nat} (f : Nat → Bool) (ha : a ≤ n) (h : f a = true) : ∃ hk : ((List.range a).filter f).length < ((List.range (n + 1)).filter f).length, ((List.range (n + 1)).filter f)[((List.range a).filter f).length] = a := by
  have e : (List.range (n + 1)).filter f = (List.range a).filter f ++ (a :: (((List.range (n - a)).map Nat.succ).map (a + ·)).filter f) := by
    have e1 : List.range (n + 1) = List.range a ++ (List.range (n - a + 1)).map (a + ·) := by
      rw [← List.range_add]; congr 1; omega
    rw [e1, List.filter_append, List.range_succ_eq_map, List.map_cons, Nat.add_zero, List.filter_cons, if_pos h]
  refine ⟨by rw [e, List.length_append, List.length_cons]; omega, ?_⟩
  simp only [e]
  rw [List.getElem_append_right (Nat.le_refl _)]
  simp
end Go.Proofs.YtapfoaiibjdfnaaDoor
