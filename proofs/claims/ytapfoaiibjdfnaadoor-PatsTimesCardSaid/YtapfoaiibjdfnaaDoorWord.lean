/- Words in memory; what a sound satisfies. No program is named. -/
import Derived.Test.YtapfoaiibjdfnaaDoorSl
import Derived.Test.YtapfoaiibjdfnaaDoorPatRel
namespace Go.Ab
open Go.RowKit

/-- The cells of a word. -/
def sndL (w : Wd) : List Value := w.flatMap fun s => [Value.int .u32 (s.1 : Int), Value.int .u32 (s.2 : Int)]
theorem sndL_cons (s : Nat × Nat) (w : Wd) : sndL (s :: w) = .int .u32 (s.1 : Int) :: .int .u32 (s.2 : Int) :: sndL w := rfl
theorem sndL_length (w : Wd) : (sndL w).length = w.length * 2 := by
  induction w with
  | nil => rfl
  | cons s w ih => simp [sndL_cons, ih]; omega
theorem sndL_append (v w : Wd) : sndL (v ++ w) = sndL v ++ sndL w := by simp [sndL]
theorem sndL_get (w : Wd) (i : Nat) (h : i < w.length) : (sndL w)[i * 2]? = some (.int .u32 ((w.getD i (0, 0)).1 : Int)) ∧ (sndL w)[i * 2 + 1]? = some (.int .u32 ((w.getD i (0, 0)).2 : Int)) := by
  induction w generalizing i with
  | nil => simp at h
  | cons s w ih =>
    cases i with
    | zero => simp [sndL_cons]
    | succ i =>
      rw [sndL_cons, show (i + 1) * 2 = i * 2 + 1 + 1 by omega]
      simpa using ih i (by simpa using h)
def WdOk (w : Wd) : Prop := ∀ s ∈ w, s.1 < 4294967296 ∧ s.2 < 4294967296
theorem WdOk.get {w : Wd} (h : WdOk w) (i : Nat) (hi : i < w.length) : (w.getD i (0, 0)).1 < 4294967296 ∧ (w.getD i (0, 0)).2 < 4294967296 := by
  refine h _ ?_
  rw [List.getD_eq_getElem?_getD, List.getElem?_eq_getElem hi]
  exact List.getElem_mem hi
/-- v is this word. -/
def WordAt (W : World) (v : Value) (w : Wd) : Prop := Rd W v w.length 2 (sndL w) ∧ WdOk w
theorem WordAt.ext {A B : World} {v : Value} {w : Wd} (h : WordAt A v w) (ht : Ext A B) : WordAt B v w := ⟨h.1.ext ht, h.2⟩
/-- The cells of one sound. -/
theorem WordAt.at {W : World} {v : Value} {w : Wd} (h : WordAt W v w) {i : Nat} (hi : i < w.length) :
    ∃ g off cap, v = .slice (some ⟨g, off, none⟩) w.length cap ∧ g < W.heap.size ∧ W.cell? ⟨g, off + i * 2, none⟩ = some (.int .u32 ((w.getD i (0, 0)).1 : Int)) ∧ W.cell? ⟨g, off + i * 2 + 1, none⟩ = some (.int .u32 ((w.getD i (0, 0)).2 : Int)) := by
  obtain ⟨⟨h1, h2, ao, cap, hv, h3⟩, h4⟩ := h
  obtain ⟨g, off, ha, hg, hc⟩ := h3 (by omega)
  have e := sndL_get w i hi
  have c1 := hc (i * 2) (by omega)
  have c2 := hc (i * 2 + 1) (by omega)
  rw [List.getD_eq_getElem?_getD, e.1] at c1
  rw [List.getD_eq_getElem?_getD, e.2, ← Nat.add_assoc] at c2
  exact ⟨g, off, cap, by rw [hv, ha], hg, c1, c2⟩
theorem WordAt.slice {W : World} {v : Value} {w : Wd} (h : WordAt W v w) : ∃ ao cap, v = .slice ao w.length cap ∧ w.length ≤ maxLen := by
  obtain ⟨⟨h1, h2, ao, cap, hv, h3⟩, h4⟩ := h
  exact ⟨ao, cap, hv, h2⟩

theorem and_not32 (a b : Nat) (ha : a < 4294967296) (hb : b < 4294967296) : a &&& (4294967295 - b) = 0 ↔ a &&& b = a := by
  have hn : ∀ i, (4294967295 - b).testBit i = (decide (i < 32) && !b.testBit i) := fun i => by
    have := Nat.testBit_two_pow_sub_succ (n := 32) (x := b) (by simpa using hb) i
    simpa using this
  have ha2 : ∀ i, 32 ≤ i → a.testBit i = false := fun i hi => Nat.testBit_lt_two_pow (Nat.lt_of_lt_of_le ha (Nat.pow_le_pow_right (n := 2) (by decide) hi))
  constructor
  · intro h
    apply Nat.eq_of_testBit_eq
    intro i
    have := congrArg (fun v => Nat.testBit v i) h
    simp only [Nat.testBit_and, hn, Nat.zero_testBit] at this
    rw [Nat.testBit_and]
    by_cases hi : i < 32
    · cases q : a.testBit i <;> cases r : b.testBit i <;> simp_all
    · rw [ha2 i (by omega)]; rfl
  · intro h
    apply Nat.eq_of_testBit_eq
    intro i
    have := congrArg (fun v => Nat.testBit v i) h
    simp only [Nat.testBit_and] at this
    rw [Nat.testBit_and, hn, Nat.zero_testBit]
    cases q : a.testBit i <;> cases r : b.testBit i <;> simp_all

theorem sat_bits {s c : Nat × Nat} (h1 : s.1 < 4294967296) (h2 : s.2 < 4294967296) (h3 : c.1 < 4294967296) (h4 : c.2 < 4294967296) :
    (bits .or .u32 (bits .andNot .u32 (c.1 : Int) (s.1 : Int)) (bits .andNot .u32 (c.2 : Int) (s.2 : Int)) == 0) = sat s c := by
  have l1 : c.1 &&& (4294967295 - s.1) < 4294967296 := Nat.lt_of_le_of_lt Nat.and_le_left h3
  have l2 : c.2 &&& (4294967295 - s.2) < 4294967296 := Nat.lt_of_le_of_lt Nat.and_le_left h4
  rw [u32_andNot_nat _ _ h3 h1, u32_andNot_nat _ _ h4 h2, u32_or_nat _ _ l1 l2]
  apply Bool.eq_iff_iff.2
  rw [beq_iff_eq, sat, Bool.and_eq_true, beq_iff_eq, beq_iff_eq, ← and_not32 _ _ h3 h1, ← and_not32 _ _ h4 h2]
  constructor
  · intro h
    have h : (c.1 &&& (4294967295 - s.1) ||| c.2 &&& (4294967295 - s.2)) = 0 := by exact_mod_cast h
    exact Nat.or_eq_zero_iff.1 h
  · intro h
    have : (c.1 &&& (4294967295 - s.1) ||| c.2 &&& (4294967295 - s.2)) = 0 := Nat.or_eq_zero_iff.2 h
    exact_mod_cast this
theorem okSound_bits {a b : Nat} (ha : a < 4294967296) (hb : b < 4294967296) : ((bits .and .u32 (a : Int) (b : Int) == 0) = (a &&& b == 0)) ∧ bits .or .u32 (a : Int) (b : Int) = ((a ||| b : Nat) : Int) := by
  rw [u32_and_nat _ _ ha hb, u32_or_nat _ _ ha hb]
  refine ⟨?_, rfl⟩
  apply Bool.eq_iff_iff.2
  rw [beq_iff_eq, beq_iff_eq]
  exact ⟨fun h => by exact_mod_cast h, fun h => by rw [h]; rfl⟩
end Go.Ab
