/- PLAIN: sets of numbers below 64 as the bits of a number; the bits of a number in increasing order. -/
import Derived.Lib.TrailingZeros
namespace Go.Ab

/-- The number whose bits below n are those where p holds. -/
def mask : Nat → (Nat → Bool) → Nat
  | 0, _ => 0
  | n + 1, p => mask n p + if p n then 2 ^ n else 0

theorem mask_lt (n : Nat) (p : Nat → Bool) : mask n p < 2 ^ n := by
  induction n with
  | zero => simp [mask]
  | succ n ih =>
    unfold mask
    rw [Nat.pow_succ]
    split <;> omega

theorem testBit_mask (n : Nat) (p : Nat → Bool) (i : Nat) : (mask n p).testBit i = (decide (i < n) && p i) := by
  induction n with
  | zero => simp [mask]
  | succ n ih =>
    unfold mask
    have hlt := mask_lt n p
    by_cases hp : p n = true
    · rw [if_pos hp, Nat.add_comm]
      rw [show 2 ^ n + mask n p = 2 ^ n * 1 + mask n p by omega]
      rw [Nat.testBit_two_pow_mul_add _ hlt]
      split
      · rename_i h; rw [ih]; simp [h, Nat.lt_succ_of_lt h]
      · rename_i h
        by_cases e : i = n
        · subst e; simp [hp]
        · obtain ⟨d, hd⟩ : ∃ d, i - n = d + 1 := ⟨i - n - 1, by omega⟩
          rw [hd, Nat.testBit_succ]
          simp; omega
    · rw [if_neg hp, Nat.add_zero, ih]
      by_cases e : i = n
      · subst e; simp at hp; simp [hp]
      · have : (i < n + 1) ↔ (i < n) := by omega
        simp [this]

theorem eq_mask {n v : Nat} {p : Nat → Bool} (hv : v < 2 ^ n) (h : ∀ i, i < n → v.testBit i = p i) : v = mask n p := by
  apply Nat.eq_of_testBit_eq
  intro i
  rw [testBit_mask]
  by_cases hi : i < n
  · simp [hi, h i hi]
  · rw [Nat.testBit_lt_two_pow (Nat.lt_of_lt_of_le hv (Nat.pow_le_pow_right (by decide) (by omega)))]
    simp [hi]

theorem mask_congr {n : Nat} {p q : Nat → Bool} (h : ∀ i, i < n → p i = q i) : mask n p = mask n q :=
  eq_mask (mask_lt n p) fun i hi => by rw [testBit_mask]; simp [hi, h i hi]

theorem mask_or (n : Nat) (p q : Nat → Bool) : mask n p ||| mask n q = mask n (fun i => p i || q i) :=
  eq_mask (Nat.or_lt_two_pow (mask_lt n p) (mask_lt n q)) fun i hi => by
    rw [Nat.testBit_or, testBit_mask, testBit_mask]; simp [hi]

theorem mask_and (n : Nat) (p q : Nat → Bool) : mask n p &&& mask n q = mask n (fun i => p i && q i) :=
  eq_mask (Nat.and_lt_two_pow _ (mask_lt n q)) fun i hi => by
    rw [Nat.testBit_and, testBit_mask, testBit_mask]; simp [hi]

theorem two_pow_mask {n x : Nat} (hx : x < n) : 2 ^ x = mask n (fun i => i == x) :=
  eq_mask (Nat.pow_lt_pow_right (by decide) hx) fun i _ => by
    rw [Nat.testBit_two_pow]
    by_cases h : x = i
    · subst h; simp
    · have : (i == x) = false := by simp; omega
      simp [h, this]

theorem mask_zero (n : Nat) : mask n (fun _ => false) = 0 := by
  induction n with
  | zero => rfl
  | succ n ih => simp [mask, ih]

theorem mask_eq_zero {n : Nat} {p : Nat → Bool} (h : mask n p = 0) (i : Nat) (hi : i < n) : p i = false := by
  have := testBit_mask n p i
  rw [h] at this
  simpa [hi] using this.symm

/-- Embedding a mask of n bits in a greater width changes nothing. -/
theorem mask_widen {n m : Nat} (hnm : n ≤ m) (p : Nat → Bool) : mask n p = mask m (fun i => decide (i < n) && p i) :=
  eq_mask (Nat.lt_of_lt_of_le (mask_lt n p) (Nat.pow_le_pow_right (by decide) hnm)) fun i _ => by rw [testBit_mask]

/-- The bits of a number, below 64, in increasing order. -/
def evs (v : Nat) : List Nat := (List.range 64).filter v.testBit

theorem evs_zero : evs 0 = [] := by simp [evs]

theorem mem_evs {v i : Nat} : i ∈ evs v ↔ i < 64 ∧ v.testBit i = true := by simp [evs]

theorem evs_mask (n : Nat) (hn : n ≤ 64) (p : Nat → Bool) : evs (mask n p) = (List.range n).filter p := by
  unfold evs
  have e : (64 : Nat) = n + (64 - n) := by omega
  rw [e, List.range_add, List.filter_append]
  have h1 : (List.range n).filter (mask n p).testBit = (List.range n).filter p := by
    apply List.filter_congr
    intro i hi
    rw [testBit_mask]; simp at hi; simp [hi]
  have h2 : (List.map (n + ·) (List.range (64 - n))).filter (mask n p).testBit = [] := by
    rw [List.filter_eq_nil_iff]
    intro i hi
    simp only [List.mem_map, List.mem_range] at hi
    obtain ⟨j, _, rfl⟩ := hi
    rw [testBit_mask]; simp; omega
  rw [h1, h2, List.append_nil]

theorem ctz_form (v : Nat) (h0 : v ≠ 0) (h : v < 2 ^ 64) : ∃ m, v = 2 ^ Lib.ctz 64 v * (2 * m + 1) ∧ Lib.ctz 64 v < 64 := by
  obtain ⟨m, hm, hk⟩ := Lib.ctzFrom_spec 64 v (by omega) h
  have e : Lib.ctz 64 v = Lib.ctzFrom 64 v := by simp [Lib.ctz, h0]
  rw [e]
  exact ⟨m, hm, hk⟩

theorem and_pred (k m : Nat) : 2 ^ k * (2 * m + 1) &&& (2 ^ k * (2 * m + 1) - 1) = 2 ^ (k + 1) * m := by
  have hp : 0 < 2 ^ k := Nat.two_pow_pos k
  have e1 : 2 ^ k * (2 * m + 1) - 1 = 2 ^ k * (2 * m) + (2 ^ k - 1) := by
    rw [Nat.mul_add, Nat.mul_one]; omega
  rw [e1]
  apply Nat.eq_of_testBit_eq
  intro i
  have hl : (2 ^ k - 1) < 2 ^ k := by omega
  rw [Nat.testBit_and, Nat.testBit_two_pow_mul_add _ hl, Nat.testBit_two_pow_mul, Nat.testBit_two_pow_mul]
  by_cases hik : i < k
  · have a1 : ¬ i ≥ k := by omega
    have a2 : ¬ i ≥ k + 1 := by omega
    simp [a1, a2]
  · rw [if_neg hik]
    by_cases e : i = k
    · subst e; simp [Nat.testBit_zero]; omega
    · obtain ⟨d, rfl⟩ : ∃ d, i = k + (d + 1) := ⟨i - k - 1, by omega⟩
      have d1 : k + (d + 1) - k = d + 1 := by omega
      have d2 : k + (d + 1) - (k + 1) = d := by omega
      rw [d1, d2, Nat.testBit_succ, Nat.testBit_succ]
      have c1 : (2 * m + 1) / 2 = m := by omega
      have c2 : 2 * m / 2 = m := by omega
      rw [c1, c2]
      have g1 : k + (d + 1) ≥ k := by omega
      have g2 : k + (d + 1) ≥ k + 1 := by omega
      simp [g1, g2]

theorem testBit_form (k m i : Nat) : (2 ^ k * (2 * m + 1)).testBit i = (decide (i = k) || (decide (k < i) && m.testBit (i - (k + 1)))) := by
  rw [Nat.testBit_two_pow_mul]
  by_cases hik : i < k
  · have a1 : ¬ i ≥ k := by omega
    have a2 : ¬ i = k := by omega
    have a3 : ¬ k < i := by omega
    simp [a1, a2, a3]
  · by_cases e : i = k
    · subst e; simp [Nat.testBit_zero]
    · obtain ⟨d, rfl⟩ : ∃ d, i = k + (d + 1) := ⟨i - k - 1, by omega⟩
      have d1 : k + (d + 1) - k = d + 1 := by omega
      have d2 : k + (d + 1) - (k + 1) = d := by omega
      rw [d1, d2, Nat.testBit_succ]
      have c1 : (2 * m + 1) / 2 = m := by omega
      rw [c1]
      have g1 : k + (d + 1) ≥ k := by omega
      have g2 : k < k + (d + 1) := by omega
      simp [g1, g2]

/-- The first bit, then those of v & (v - 1). -/
theorem evs_cons (v : Nat) (h0 : v ≠ 0) (h : v < 2 ^ 64) : evs v = Lib.ctz 64 v :: evs (v &&& (v - 1)) := by
  obtain ⟨m, hm, hk⟩ := ctz_form v h0 h
  generalize Lib.ctz 64 v = k at hm hk
  have hb : ∀ i, v.testBit i = (decide (i = k) || (decide (k < i) && m.testBit (i - (k + 1)))) := fun i => by rw [hm]; exact testBit_form k m i
  have hb' : ∀ i, (v &&& (v - 1)).testBit i = (decide (k < i) && m.testBit (i - (k + 1))) := fun i => by
    rw [hm, and_pred, Nat.testBit_two_pow_mul]
    simp only [ge_iff_le, Nat.succ_le_iff]
  unfold evs
  have e : (64 : Nat) = k + (1 + (63 - k)) := by omega
  rw [e, List.range_add, List.filter_append, List.filter_append, List.range_add, List.map_append, List.filter_append, List.filter_append]
  have z1 : (List.range k).filter v.testBit = [] := by
    rw [List.filter_eq_nil_iff]; intro i hi; simp at hi; rw [hb]; simp; omega
  have z2 : (List.range k).filter (v &&& (v - 1)).testBit = [] := by
    rw [List.filter_eq_nil_iff]; intro i hi; simp at hi; rw [hb']; simp; omega
  have o1 : (List.map (k + ·) (List.range 1)).filter v.testBit = [k] := by
    have : v.testBit k = true := by rw [hb]; simp
    simp [List.range_one, this]
  have o2 : (List.map (k + ·) (List.range 1)).filter (v &&& (v - 1)).testBit = [] := by
    have : (v &&& (v - 1)).testBit k = false := by rw [hb']; simp
    simp [List.range_one, this]
  rw [z1, z2, o1, o2, List.nil_append, List.nil_append, List.nil_append, List.singleton_append]
  congr 1
  apply List.filter_congr
  intro i hi
  simp only [List.mem_map, List.mem_range] at hi
  obtain ⟨j, ⟨j', _, rfl⟩, rfl⟩ := hi
  rw [hb, hb']
  simp

theorem evs_length (v : Nat) : (evs v).length ≤ 64 := by
  unfold evs
  have := List.length_filter_le v.testBit (List.range 64)
  simpa using this

end Go.Ab
