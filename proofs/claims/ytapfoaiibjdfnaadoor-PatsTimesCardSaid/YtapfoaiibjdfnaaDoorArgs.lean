/- What the laws' arguments read as: slices of integers, slices of pairs of integers, a pair. No program is named. -/
import Derived.Test.YtapfoaiibjdfnaaDoorSl
import Derived.OpenShut
import Derived.Deep.Slices
import Derived.ProofKit
namespace Go.Ab
open Go.RowKit Go.ChangeShapes Go.WideShapes

section
variable {H : Type} {enc : TypeId × Value → H} {P : Program} {w : World} {base b0 : Nat} {held : Bool} {r : Reach} {t e q : TypeId} {k : IntKind} {v : Value} {d : DataW H} {ps : List MemPlace}

/-- Integers of one kind, as cells. -/
def intsK (k : IntKind) (l : List Int) : List Value := l.map (Value.int k)
/-- Pairs of integers of one kind, as cells. -/
def prsK (k : IntKind) (l : List (Int × Int)) : List Value := l.flatMap fun p => [Value.int k p.1, Value.int k p.2]

theorem cell_lt {w : World} {p : Addr} {v : Value} (h : w.cell? p = some v) : p.block < w.heap.size := by
  apply Nat.lt_of_not_le; intro hle
  simp [World.cell?, Array.getElem?_eq_none hle] at h

theorem open_ints_rd (ht : P.underlying t = some (.slice e)) (he : P.underlying e = some (.int k)) (hc : P.cellsOf e = 1) (hval : Value.okWide P w r b0 t v) (hd : DataW.Trod enc P w base (fun _ => true) held t v d ps) :
    ∃ l : List Int, Rd w v l.length 1 (intsK k l) ∧ ∀ n ∈ l, (Lit.int k n).wf = true := by
  obtain ⟨ao, len, cap, rfl⟩ := okWide_slice ht hval
  obtain ⟨fuel, hf⟩ := hd
  rcases open_ints ht he hc hf with ⟨h, _⟩ | ⟨a, len', cap', zs, h, _, hl, hm, hz, _, hcell, hw⟩
  · simp [Value.cells] at h
    obtain ⟨rfl, rfl, rfl⟩ := h
    exact ⟨[], ⟨rfl, by simp [maxLen], none, 0, rfl, fun h => by simp at h⟩, by simp⟩
  · simp [Value.cells] at h
    obtain ⟨rfl, rfl, rfl⟩ := h
    simp only [if_true] at hz
    have htl : (zs.take len).length = len := by simp; omega
    refine ⟨zs.take len, ⟨by simp [intsK], by rw [htl]; omega, some a, cap, by rw [htl], fun h0 => ?_⟩, fun n hn => hw n (List.mem_of_mem_take hn)⟩
    obtain ⟨b, off, rfl, hcs⟩ := ints_at hcell (by omega)
    refine ⟨b, off, rfl, cell_lt (hcs 0 (by omega)), fun j hj => ?_⟩
    rw [hcs j (by omega)]
    have hj' : j < len := by omega
    simp [intsK, List.getD_eq_getElem?_getD, hj', show j < zs.length by omega]

theorem cells_two {a : Addr} {cs : List Value} (h : w.cells? base a 2 = some cs) : ∃ c0 c1, cs = [c0, c1] ∧ w.cell? a = some c0 ∧ w.cell? (a.add 1) = some c1 := by
  obtain ⟨_, hl, hx⟩ := World.cells?_some h
  match cs, hl with
  | [c0, c1], _ =>
    have h0 := hx 0 (by decide)
    have h1 := hx 1 (by decide)
    exact ⟨c0, c1, rfl, by simpa [Addr.add] using h0, by simpa using h1⟩

theorem trod_two {fuel : Nat} {c0 c1 : Value} {x : DataW H × List MemPlace} {spare : Nat → Bool} (ht : P.underlying t = some (.array 2 q)) (hq : P.underlying q = some (.int k)) (hc : P.cellsOf q = 1) (h : DataW.trod enc P w base spare held fuel t [c0, c1] = some x) :
    ∃ m n, c0 = .int k m ∧ c1 = .int k n ∧ (Lit.int k m).wf = true ∧ (Lit.int k n).wf = true := by
  obtain ⟨xs, m, rfl, rfl, _, hxs, hx⟩ := DataW.trod_array ht h
  have h0 := hx 0 (by decide)
  have h1 := hx 1 (by decide)
  rw [hc] at h0 h1
  rw [List.getElem?_eq_getElem (by omega)] at h0 h1
  obtain ⟨m0, e0, _, w0⟩ := DataW.trod_int hq h0
  obtain ⟨m1, e1, _, w1⟩ := DataW.trod_int hq h1
  simp at e0 e1
  exact ⟨m0, m1, e0, e1, w0, w1⟩

theorem prsK_cons (k : IntKind) (p : Int × Int) (l : List (Int × Int)) : prsK k (p :: l) = .int k p.1 :: .int k p.2 :: prsK k l := rfl
theorem prsK_length (k : IntKind) (l : List (Int × Int)) : (prsK k l).length = l.length * 2 := by
  induction l with
  | nil => rfl
  | cons p l ih => simp [prsK_cons, ih]; omega
theorem prsK_get (k : IntKind) (l : List (Int × Int)) (i : Nat) (h : i < l.length) : (prsK k l)[i * 2]? = some (.int k (l[i]).1) ∧ (prsK k l)[i * 2 + 1]? = some (.int k (l[i]).2) := by
  induction l generalizing i with
  | nil => simp at h
  | cons p l ih =>
    cases i with
    | zero => simp [prsK_cons]
    | succ i =>
      rw [prsK_cons, show (i + 1) * 2 = i * 2 + 1 + 1 by omega]
      simpa using ih i (by simpa using h)

theorem open_pairs_rd (ht : P.underlying t = some (.slice e)) (he : P.underlying e = some (.array 2 q)) (hq : P.underlying q = some (.int k)) (hce : P.cellsOf e = 2) (hcq : P.cellsOf q = 1) (hval : Value.okWide P w r b0 t v) (hd : DataW.Trod enc P w base (fun _ => true) held t v d ps) :
    ∃ l : List (Int × Int), Rd w v l.length 2 (prsK k l) ∧ ∀ p ∈ l, (Lit.int k p.1).wf = true ∧ (Lit.int k p.2).wf = true := by
  obtain ⟨ao, len, cap, rfl⟩ := okWide_slice ht hval
  obtain ⟨fuel, hf⟩ := hd
  rcases Deep.open_slice ht hf with ⟨h, _⟩ | ⟨a, len', cap', m, n, D, Pl, h, _, hl, hm, hmm, _, hx⟩
  · simp [Value.cells] at h
    obtain ⟨rfl, rfl, rfl⟩ := h
    exact ⟨[], ⟨rfl, by simp [maxLen], none, 0, rfl, fun h => by simp at h⟩, by simp⟩
  · simp [Value.cells] at h
    obtain ⟨rfl, rfl, rfl⟩ := h
    simp only [if_true] at hmm
    subst hmm
    rw [hce] at hx
    have each : ∀ i, i < len → ∃ p : Int × Int, w.cell? (a.add (i * 2)) = some (.int k p.1) ∧ w.cell? ((a.add (i * 2)).add 1) = some (.int k p.2) ∧ (Lit.int k p.1).wf = true ∧ (Lit.int k p.2).wf = true := by
      intro i hi
      obtain ⟨cs', h1, h2⟩ := hx i (by omega)
      obtain ⟨c0, c1, rfl, k0, k1⟩ := cells_two h1
      obtain ⟨m, n, rfl, rfl, w0, w1⟩ := trod_two he hq hcq h2
      exact ⟨(m, n), k0, k1, w0, w1⟩
    obtain ⟨f, hfp⟩ := Deep.choose_lt each
    refine ⟨(List.range len).map f, ⟨by simp [prsK_length], by simp; omega, some a, m, by simp, fun h0 => ?_⟩, fun p hp => ?_⟩
    · simp at h0
      obtain ⟨b, off, spot⟩ := a
      have hspot : spot = none := by simpa [Addr.add] using World.cell?_spot (hfp 0 h0).1
      subst hspot
      have hlt := cell_lt (hfp 0 h0).1
      refine ⟨b, off, rfl, by simpa [Addr.add] using hlt, fun j hj => ?_⟩
      simp only [List.length_map, List.length_range] at hj
      have hi : j / 2 < len := by omega
      obtain ⟨q0, q1, _, _⟩ := hfp (j / 2) hi
      have g := prsK_get k ((List.range len).map f) (j / 2) (by simpa using hi)
      simp only [List.getElem_map, List.getElem_range] at g
      rw [← Go.WideShapes.add_plain, List.getD_eq_getElem?_getD]
      rcases Nat.mod_two_eq_zero_or_one j with hj2 | hj2
      · have ej : j / 2 * 2 = j := by omega
        rw [ej] at q0 g
        rw [q0, g.1]; rfl
      · have ej : j / 2 * 2 + 1 = j := by omega
        rw [Deep.add_add, ej] at q1
        rw [ej] at g
        rw [q1, g.2]; rfl
    · obtain ⟨i, hi, rfl⟩ := List.mem_map.1 hp
      have := hfp i (List.mem_range.1 hi)
      exact this.2.2

/-- Bytes as numbers. -/
theorem nat_pairs {l : List (Int × Int)} (h : ∀ p ∈ l, (Lit.int .u8 p.1).wf = true ∧ (Lit.int .u8 p.2).wf = true) :
    ∃ m : List (Nat × Nat), m.length = l.length ∧ prsK .u8 l = m.flatMap (fun p => [Value.int .u8 p.1, Value.int .u8 p.2]) ∧ ∀ p ∈ m, p.1 < 256 ∧ p.2 < 256 := by
  induction l with
  | nil => exact ⟨[], rfl, rfl, by simp⟩
  | cons p l ih =>
    obtain ⟨m, h1, h2, h3⟩ := ih fun q hq => h q (List.mem_cons_of_mem _ hq)
    have hp := h p (List.mem_cons_self ..)
    have b1 := bounds_u8 hp.1
    have b2 := bounds_u8 hp.2
    refine ⟨(p.1.toNat, p.2.toNat) :: m, by simp [h1], ?_, ?_⟩
    · rw [prsK_cons, h2]
      simp [Int.toNat_of_nonneg b1.1, Int.toNat_of_nonneg b2.1]
    · intro q hq
      rcases List.mem_cons.1 hq with rfl | hq
      · constructor <;> simp only [] <;> omega
      · exact h3 q hq

/-- An array of two integers. -/
theorem open_pair (ht : P.underlying t = some (.array 2 q)) (hq : P.underlying q = some (.int k)) (hc : P.cellsOf q = 1) (hc2 : P.cellsOf t = 2) (hval : Value.okWide P w r b0 t v) (hd : DataW.Trod enc P w base (fun _ => true) held t v d ps) :
    ∃ m n, v = .agg #[.int k m, .int k n] ∧ (Lit.int k m).wf = true ∧ (Lit.int k n).wf = true := by
  have : ∃ cs, v = .agg cs ∧ cs.size = P.cellsOf t := by
    unfold Value.okWide at hval
    rw [ht] at hval
    obtain ⟨cs, h1, h2, _⟩ := hval
    exact ⟨cs, h1, h2⟩
  obtain ⟨cs, rfl, hs⟩ := this
  rw [hc2] at hs
  obtain ⟨fuel, hf⟩ := hd
  obtain ⟨c0, c1, rfl⟩ : ∃ c0 c1, cs = #[c0, c1] := ⟨cs[0], cs[1], by apply Array.ext; simp [hs]; intro i h1 h2; match i, h2 with | 0, _ => rfl | 1, _ => rfl⟩
  simp [Value.cells] at hf
  obtain ⟨m, n, rfl, rfl, w0, w1⟩ := trod_two ht hq hc hf
  exact ⟨m, n, rfl, w0, w1⟩
end
end Go.Ab
