/- Rows of bools, as ablautlaw06.ends makes them. No program is named. -/
import Derived.Test.YtapfoaiibjdfnaaDoorOwn
import Derived.Test.YtapfoaiibjdfnaaDoorPatRel
namespace Go.Ab
open Go.RowKit

/-- n bools. -/
def boolV (n : Nat) (f : Nat → Bool) : List Value := (List.range n).map fun k => Value.bool (f k)
theorem boolV_length (n : Nat) (f : Nat → Bool) : (boolV n f).length = n := by simp [boolV]
theorem boolV_get {n k : Nat} (f : Nat → Bool) (h : k < n) : (boolV n f)[k]? = some (.bool (f k)) := by simp [boolV, h]
theorem boolV_set (n : Nat) (f : Nat → Bool) (k : Nat) : (boolV n f).set k (.bool true) = boolV n (fun j => f j || j == k) := by
  apply List.ext_getElem?
  intro j
  rw [List.getElem?_set]
  by_cases hj : j < n
  · by_cases e : k = j
    · subst e
      rw [if_pos rfl, if_pos (by rw [boolV_length]; exact hj), boolV_get _ hj]; simp
    · rw [if_neg e, boolV_get _ hj, boolV_get _ hj]
      have : (j == k) = false := by rw [beq_eq_false_iff_ne]; exact fun h => e h.symm
      rw [this, Bool.or_false]
  · have h1 : ∀ f : Nat → Bool, (boolV n f)[j]? = none := fun f => List.getElem?_eq_none (by rw [boolV_length]; omega)
    rw [h1, h1]
    split
    · rename_i e; subst e; rw [if_neg (by rw [boolV_length]; exact hj)]
    · rfl
theorem boolV_false (n : Nat) : List.replicate n (Value.bool false) = boolV n (fun _ => false) := by
  apply List.ext_getElem?
  intro j
  by_cases hj : j < n
  · rw [boolV_get _ hj]; simp [hj]
  · rw [List.getElem?_eq_none (by simpa using Nat.le_of_not_lt hj), List.getElem?_eq_none (by rw [boolV_length]; omega)]

/-- m rows of n bools that may be read. -/
def Grid (w : World) (v : Value) (m n : Nat) (R : Bin2) : Prop :=
  m ≤ maxLen ∧ ∃ ao cap, v = .slice ao m cap ∧ ∀ i, i < m → ∃ g gi ci, ao = some ⟨g, 0, none⟩ ∧ w.cell? ⟨g, i, none⟩ = some (.slice (some ⟨gi, 0, none⟩) n ci) ∧ ∀ k, k < n → w.cell? ⟨gi, k, none⟩ = some (.bool (R i k))
theorem Grid.ext {A B : World} {v : Value} {m n : Nat} {R : Bin2} (h : Grid A v m n R) (ht : Ext A B) : Grid B v m n R := by
  obtain ⟨h1, ao, cap, hv, h2⟩ := h
  refine ⟨h1, ao, cap, hv, fun i hi => ?_⟩
  obtain ⟨g, gi, ci, a, b, c⟩ := h2 i hi
  exact ⟨g, gi, ci, a, ht.cell_some b id, fun k hk => ht.cell_some (c k hk) id⟩
theorem Grid.congr {A : World} {v : Value} {m n : Nat} {R S : Bin2} (h : Grid A v m n R) (e : ∀ i k, i < m → k < n → R i k = S i k) : Grid A v m n S := by
  obtain ⟨h1, ao, cap, hv, h2⟩ := h
  refine ⟨h1, ao, cap, hv, fun i hi => ?_⟩
  obtain ⟨g, gi, ci, a, b, c⟩ := h2 i hi
  exact ⟨g, gi, ci, a, b, fun k hk => by rw [c k hk, e i k hi hk]⟩

/-- m rows that a call has made: the row of rows is its own; the rows lie in blocks of tb. -/
def Built (w : World) (base : Nat) (te tb : TypeId) (v : Value) (m n : Nat) (R : Bin2) : Prop :=
  ∃ us : List Value, w.ownsRow base te 1 v m us ∧ ∀ i, i < m → ∃ gi ci cur, us[i]? = some (.slice (some ⟨gi, 0, none⟩) n ci) ∧ base ≤ gi ∧ w.heap[gi]? = some (.cells cur tb (0, 0)) ∧ ∀ k, k < n → cur[k]? = some (.bool (R i k))
theorem Built.keep {S : Nat → Prop} {A B : World} {base : Nat} {te tb : TypeId} {v : Value} {m n : Nat} {R : Bin2} (h : Built A base te tb v m n R) (ht : Turn S A B) (hS : ∀ g, base ≤ g → g < A.heap.size → ¬ S g) : Built B base te tb v m n R := by
  obtain ⟨us, h1, h2⟩ := h
  refine ⟨us, own_keep h1 ht (fun g hg => hS g (h1.lt g hg).1 (h1.lt g hg).2), fun i hi => ?_⟩
  obtain ⟨gi, ci, cur, a, b, c, d⟩ := h2 i hi
  exact ⟨gi, ci, cur, a, b, ht.heap c (hS gi b (Array.getElem?_eq_some_iff.1 c).1), d⟩
theorem Built.ext {A B : World} {base : Nat} {te tb : TypeId} {v : Value} {m n : Nat} {R : Bin2} (h : Built A base te tb v m n R) (ht : Ext A B) : Built B base te tb v m n R := h.keep ht fun _ _ _ h => h
theorem Built.nil (w : World) (base : Nat) (te tb : TypeId) (n : Nat) (R : Bin2) : Built w base te tb (.slice none 0 0) 0 n R := ⟨[], World.ownsRow_nil _ _ _ _, fun i hi => by omega⟩
/-- One row more. -/
theorem Built.snoc {A B : World} {base : Nat} {te tb : TypeId} {v v' : Value} {m n : Nat} {R : Bin2} {us : List Value} (h1 : A.ownsRow base te 1 v m us)
    (h2 : ∀ i, i < m → ∃ gi ci cur, us[i]? = some (.slice (some ⟨gi, 0, none⟩) n ci) ∧ base ≤ gi ∧ A.heap[gi]? = some (.cells cur tb (0, 0)) ∧ ∀ k, k < n → cur[k]? = some (.bool (R i k)))
    {g c : Nat} (hr : A.ownsRow base tb 1 (.slice (some ⟨g, 0, none⟩) n c) n (boolV n (R m))) (hne : te ≠ tb) (ht : Turn (fun b => v.ownBlock = some b) A B)
    (hO : B.ownsRow base te 1 v' (m + 1) (us ++ [.slice (some ⟨g, 0, none⟩) n c])) : Built B base te tb v' (m + 1) n R := by
  have hdiff : ∀ x cur, A.heap[x]? = some (.cells cur tb (0, 0)) → ¬ v.ownBlock = some x := fun x cur hx e => by
    rcases h1.2 with ⟨rfl, _⟩ | ⟨g', cap, cur', rfl, _, hh, _⟩
    · cases e
    · cases e
      rw [hh] at hx
      cases hx
      exact hne rfl
  have hl := h1.1
  refine ⟨_, hO, fun i hi => ?_⟩
  by_cases him : i < m
  · obtain ⟨gi, ci, cur, a, b, cc, d⟩ := h2 i him
    exact ⟨gi, ci, cur, by rw [List.getElem?_append_left (by omega)]; exact a, b, ht.heap cc (hdiff gi cur cc), d⟩
  · obtain rfl : m = i := by omega
    rcases hr.2 with ⟨q, _⟩ | ⟨g', cap, cur, q, hb, hh, hnc, hcm, hcs, htake⟩
    · cases q
    · simp only [Value.slice.injEq, Option.some.injEq, Addr.mk.injEq] at q
      obtain ⟨⟨rfl, _, _⟩, _, rfl⟩ := q
      refine ⟨g, c, cur, by rw [List.getElem?_append_right (by omega)]; simp [hl], hb, ht.heap hh (hdiff g cur hh), fun k hk => ?_⟩
      have := boolV_get (R m) hk
      rw [← htake, List.getElem?_take] at this
      split at this
      · simpa using this
      · cases this
theorem Built.grid {w : World} {base : Nat} {te tb : TypeId} {v : Value} {m n : Nat} {R : Bin2} (h : Built w base te tb v m n R) : Grid w v m n R := by
  obtain ⟨us, h1, h2⟩ := h
  have hl := h1.1
  rcases h1.2 with ⟨rfl, rfl⟩ | ⟨g, cap, cur, rfl, _, _, hnc, hcm, _⟩
  · exact ⟨by simp [maxLen], none, 0, rfl, fun i hi => by omega⟩
  · refine ⟨by omega, _, cap, rfl, fun i hi => ?_⟩
    obtain ⟨gi, ci, cur', a, b, c, d⟩ := h2 i hi
    refine ⟨g, gi, ci, rfl, by rw [h1.cellAt i (by omega)]; exact a, fun k hk => ?_⟩
    have := d k hk
    simp only [World.cell?, c]
    simpa using this
end Go.Ab
