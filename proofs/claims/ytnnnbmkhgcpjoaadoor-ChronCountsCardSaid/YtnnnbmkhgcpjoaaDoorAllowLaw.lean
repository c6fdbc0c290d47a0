/- Which lists are possible orders: by the events that have come, and by all pairs. Plain. -/
import Derived.Test.YtnnnbmkhgcpjoaaDoorAllows
import Derived.Test.YtnnnbmkhgcpjoaaDoorLevLaw
namespace Go.Proofs.YtnnnbmkhgcpjoaaDoor
open Go.RowKit Go.Ab

/-- The first k numbers are different events. -/
def okP (n : Nat) (L : List Int) (k : Nat) : Prop := ∀ i, i < k → ∃ a : Nat, a < n ∧ L[i]? = some (a : Int) ∧ ∀ j, j < i → L[j]? ≠ some (a : Int)
theorem okP_zero (n : Nat) (L : List Int) : okP n L 0 := fun i h => by omega
theorem okP_succ {n : Nat} {L : List Int} {k : Nat} (h : okP n L k) {a : Nat} (ha : a < n) (hk : L[k]? = some (a : Int)) (hj : ∀ j, j < k → L[j]? ≠ some (a : Int)) : okP n L (k + 1) := fun i hi => by
  by_cases e : i = k
  · subst e; exact ⟨a, ha, hk, hj⟩
  · exact h i (by omega)
theorem okP_le {n : Nat} {L : List Int} {k m : Nat} (h : okP n L k) (hm : m ≤ k) : okP n L m := fun i hi => h i (by omega)

/-- What is possible so far. -/
def possK (n : Nat) (R : Bin) (M : List Nat) (k : Nat) : Bool := (List.range k).all fun i => (List.range n).all fun a => !R a (M.getD i 0) || (M.take i).contains a
theorem possK_succ (n : Nat) (R : Bin) (M : List Nat) (k : Nat) : possK n R M (k + 1) = (possK n R M k && (List.range n).all fun a => !R a (M.getD k 0) || (M.take k).contains a) := by
  unfold possK; rw [List.range_succ, List.all_append]; simp

theorem map_get {L : List Int} {i a : Nat} (h : L[i]? = some (a : Int)) : (L.map Int.toNat)[i]? = some a := by
  rw [List.getElem?_map, h]; rfl
theorem okP_lt {n : Nat} {L : List Int} {k : Nat} (h : okP n L k) : k ≤ L.length := by
  apply Nat.le_of_not_lt; intro hlt
  obtain ⟨a, _, h2, _⟩ := h L.length hlt
  simp at h2

theorem alGo_ok {n : Nat} (R : Bin) {L : List Int} : ∀ (k : Nat), okP n L k → alGo n R (L.take k) [] true = some ((L.map Int.toNat).take k, possK n R (L.map Int.toNat) k)
  | 0, _ => by simp [alGo, possK]
  | k + 1, h => by
    have hk := okP_lt h
    obtain ⟨a, ha, e, hne⟩ := h k (by omega)
    have hlt : k < L.length := by omega
    have hx : L[k] = (a : Int) := by
      rw [List.getElem?_eq_getElem hlt] at e; exact Option.some.inj e
    rw [List.take_succ_eq_append_getElem hlt, alGo_append, alGo_ok R k (okP_le h (by omega)), hx]
    show alGo n R [(a : Int)] _ _ = _
    have hc : ((L.map Int.toNat).take k).contains a = false := by
      rw [← Bool.not_eq_true, List.contains_iff_mem]
      intro hm
      obtain ⟨j, hj, e2⟩ := List.getElem_of_mem hm
      simp only [List.length_take, List.length_map] at hj
      obtain ⟨b, _, e3, _⟩ := h j (by omega)
      have e4 := map_get e3
      have : a = b := by
        rw [List.getElem_take] at e2
        rw [List.getElem?_eq_getElem (by simp; omega)] at e4
        rw [← e2]; exact Option.some.inj e4
      subst this
      exact hne j (by omega) e3
    have hm := map_get e
    unfold alGo
    rw [if_pos (by rw [isEv_true (by omega) (by omega), Int.toNat_natCast, hc]; rfl)]
    unfold alGo
    rw [possK_succ, Int.toNat_natCast]
    congr 2
    · rw [List.take_add_one, hm]; rfl
    · simp [List.getD_eq_getElem?_getD, hm]

theorem alGo_bad {n : Nat} (R : Bin) {L : List Int} {k : Nat} (h : okP n L k) (hk : k < L.length) (hb : ¬ okP n L (k + 1)) : alGo n R L [] true = none := by
  have h1 : alGo n R (L.take (k + 1)) [] true = none := by
    rw [List.take_succ_eq_append_getElem hk, alGo_append, alGo_ok R k h]
    show alGo n R [L[k]] _ _ = none
    unfold alGo
    rw [if_neg]
    intro hc
    rw [Bool.and_eq_true, isEv_iff] at hc
    obtain ⟨⟨h0, hn⟩, hc⟩ := hc
    obtain ⟨a, ha⟩ := Int.eq_ofNat_of_zero_le h0
    rw [ha] at hn hc
    refine hb (okP_succ h (a := a) (by omega) (by rw [List.getElem?_eq_getElem hk, ha]) fun j hj e => ?_)
    have e2 := map_get e
    rw [Bool.not_eq_true', ← Bool.not_eq_true, List.contains_iff_mem] at hc
    apply hc
    rw [List.mem_iff_getElem?]
    exact ⟨j, by rw [List.getElem?_take]; rw [if_pos hj]; exact e2⟩
  rw [← List.take_append_drop (k + 1) L, alGo_append, h1]; rfl

theorem allowsR_len {n : Nat} {R : Bin} {L : List Int} (h : L.length ≠ n) : allowsR n R L = (false, 2) := by
  unfold allowsR
  split
  · rw [if_neg h]
  · rfl
theorem allowsR_bad {n : Nat} {R : Bin} {L : List Int} {k : Nat} (h : okP n L k) (hk : k < L.length) (hb : ¬ okP n L (k + 1)) : allowsR n R L = (false, 2) := by
  unfold allowsR; rw [alGo_bad R h hk hb]
theorem allowsR_ok {n : Nat} {R : Bin} {L : List Int} (hl : L.length = n) (h : okP n L n) : allowsR n R L = (possK n R (L.map Int.toNat) n, 0) := by
  have := alGo_ok R n h
  rw [← hl, List.take_length] at this
  unfold allowsR
  rw [hl] at this
  rw [this]
  simp only [hl, if_true]

/-- The pair (i, j) of places is not turned round. -/
theorem allowsR_no {n : Nat} {R : Bin} (hR : Rel n R) {L : List Int} (hl : L.length = n) (h : okP n L n) {i k a c : Nat} (hki : k < i) (hi : i < n) (ha : L[i]? = some (a : Int)) (hc : L[k]? = some (c : Int)) (hr : R a c = true) : allowsR n R L = (false, 0) := by
  rw [allowsR_ok hl h]
  congr 1
  rw [← Bool.not_eq_true]
  intro hp
  unfold possK at hp
  have h1 := List.all_eq_true.1 hp k (List.mem_range.2 (by omega))
  have h2 := List.all_eq_true.1 h1 a (List.mem_range.2 (hR.dom _ _ hr).1)
  have e : (L.map Int.toNat).getD k 0 = c := by simp [List.getD_eq_getElem?_getD, hc]
  rw [e, hr, Bool.not_true, Bool.false_or, List.contains_iff_mem, List.mem_iff_getElem?] at h2
  obtain ⟨j, hj⟩ := h2
  rw [List.getElem?_take] at hj
  split at hj
  · rename_i hjk
    obtain ⟨a', _, e1, _⟩ := h j (by omega)
    rw [map_get e1] at hj
    obtain rfl := Option.some.inj hj
    obtain ⟨a'', _, e2, hne⟩ := h i hi
    rw [ha] at e2
    have : a' = a'' := by have := Option.some.inj e2; omega
    subst this
    exact hne j (by omega) e1
  · cases hj
theorem okP_all {n : Nat} {L : List Int} (hl : L.length = n) (h : okP n L n) {a : Nat} (ha : a < n) : ∃ j, j < n ∧ L[j]? = some (a : Int) := by
  apply Classical.byContradiction
  intro hno
  have hget : ∀ i (hi : i < (L.map Int.toNat).length), ∃ b, b < n ∧ (L.map Int.toNat)[i] = b ∧ L[i]? = some (b : Int) ∧ ∀ j, j < i → L[j]? ≠ some (b : Int) := fun i hi => by
    obtain ⟨b, hb, e, hne⟩ := h i (by simpa [hl] using hi)
    have := map_get e
    rw [List.getElem?_eq_getElem hi] at this
    exact ⟨b, hb, Option.some.inj this, e, hne⟩
  have hnd : (a :: L.map Int.toNat).Nodup := by
    rw [List.nodup_cons]
    constructor
    · intro hm
      obtain ⟨i, hi, e⟩ := List.getElem_of_mem hm
      obtain ⟨b, _, e1, e2, _⟩ := hget i hi
      rw [e] at e1; subst e1
      exact hno ⟨i, by simpa [hl] using hi, e2⟩
    · rw [List.nodup_iff_pairwise_ne, List.pairwise_iff_getElem]
      intro i j hi hj hij heq
      obtain ⟨b, _, e1, e2, _⟩ := hget i hi
      obtain ⟨c, _, e3, _, hne⟩ := hget j hj
      rw [e1, e3] at heq; subst heq
      exact hne i hij e2
  have := nodup_le n _ hnd fun x hx => by
    rcases List.mem_cons.1 hx with rfl | hx
    · exact ha
    · obtain ⟨i, hi, e⟩ := List.getElem_of_mem hx
      obtain ⟨b, hb, e1, _⟩ := hget i hi
      omega
  simp [hl] at this
  omega
theorem allowsR_yes {n : Nat} {R : Bin} (hR : Rel n R) {L : List Int} (hl : L.length = n) (h : okP n L n) (hp : ∀ i k a c, i < n → k < i → L[i]? = some ((a : Nat) : Int) → L[k]? = some ((c : Nat) : Int) → R a c = false) : allowsR n R L = (true, 0) := by
  rw [allowsR_ok hl h]
  congr 1
  unfold possK
  rw [List.all_eq_true]
  intro i hi
  rw [List.mem_range] at hi
  rw [List.all_eq_true]
  intro a ha
  rw [List.mem_range] at ha
  obtain ⟨c, hc, e, _⟩ := h i hi
  have e1 : (L.map Int.toNat).getD i 0 = c := by simp [List.getD_eq_getElem?_getD, e]
  rw [e1]
  cases hr : R a c with
  | false => rfl
  | true =>
    obtain ⟨j, hj, e2⟩ := okP_all hl h ha
    rw [Bool.not_true, Bool.false_or, List.contains_iff_mem, List.mem_iff_getElem?]
    by_cases hji : j < i
    · exact ⟨j, by rw [List.getElem?_take, if_pos hji]; exact map_get e2⟩
    · by_cases heq : j = i
      · subst heq
        rw [e] at e2
        have : c = a := by have := Option.some.inj e2; omega
        subst this
        rw [hR.irr] at hr; cases hr
      · have := hp j i a c hj (by omega) e2 e
        rw [hr] at this; cases this
end Go.Proofs.YtnnnbmkhgcpjoaaDoor
