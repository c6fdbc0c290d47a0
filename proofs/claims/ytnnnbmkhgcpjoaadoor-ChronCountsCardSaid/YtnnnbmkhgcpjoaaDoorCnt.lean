/- The number of possible orders, by sets of what has come. Plain. -/
import Derived.Test.YtnnnbmkhgcpjoaaDoorLevels
namespace Go.Proofs.YtnnnbmkhgcpjoaaDoor
open Go.RowKit Go.Ab

/-- How many events are not in the set s. -/
def miss (n s : Nat) : Nat := (List.range n).countP fun x => !s.testBit x
def readyS (n : Nat) (R : Nat → Nat → Bool) (s x : Nat) : Bool := (List.range n).all fun a => !R a x || s.testBit a
/-- How many orders has what is not in s. -/
def cnt (n : Nat) (R : Nat → Nat → Bool) : Nat → Nat → Nat
  | 0, _ => 1
  | k + 1, s => (((List.range n).filter fun x => !s.testBit x).map fun x => if readyS n R s x then cnt n R k (s ||| 2 ^ x) else 0).sum
def cntS (n : Nat) (R : Nat → Nat → Bool) (s : Nat) : Nat := cnt n R (miss n s) s
def countR (n : Nat) (R : Nat → Nat → Bool) : Nat := cnt n R n 0
def fact : Nat → Nat | 0 => 1 | n + 1 => (n + 1) * fact n

theorem testBit_or_two (s x y : Nat) : (s ||| 2 ^ x).testBit y = (s.testBit y || decide (x = y)) := by
  rw [Nat.testBit_or, Nat.testBit_two_pow]

theorem miss_add {n s x : Nat} (hx : x < n) (hs : s.testBit x = false) : miss n (s ||| 2 ^ x) + 1 = miss n s := by
  unfold miss
  induction n with
  | zero => omega
  | succ n ih =>
    rw [List.range_succ, List.countP_append, List.countP_append]
    simp only [List.countP_cons, List.countP_nil]
    by_cases h : x = n
    · subst h
      rw [testBit_or_two, hs]
      have : (List.range x).countP (fun y => !(s ||| 2 ^ x).testBit y) = (List.range x).countP (fun y => !s.testBit y) := by
        apply List.countP_congr
        intro y hy
        rw [List.mem_range] at hy
        rw [testBit_or_two]
        simp [show ¬ x = y by omega]
      rw [this]; simp
    · have := ih (by omega)
      rw [testBit_or_two]
      simp only [h, decide_false, Bool.or_false]
      omega

theorem sum_le_mul (l : List Nat) (f : Nat → Nat) (c : Nat) (h : ∀ x ∈ l, f x ≤ c) : (l.map f).sum ≤ l.length * c := by
  induction l with
  | nil => simp
  | cons a l ih =>
    have h1 := h a (List.mem_cons_self ..)
    have h2 := ih fun x hx => h x (List.mem_cons_of_mem _ hx)
    simp only [List.map_cons, List.sum_cons, List.length_cons, Nat.add_mul, Nat.one_mul]
    omega

theorem cnt_le (n : Nat) (R : Nat → Nat → Bool) : ∀ (k s : Nat), miss n s = k → cnt n R k s ≤ fact k
  | 0, _, _ => Nat.le_refl _
  | k + 1, s, h => by
    unfold cnt
    refine Nat.le_trans (sum_le_mul _ _ (fact k) fun x hx => ?_) ?_
    · rw [List.mem_filter, List.mem_range] at hx
      have := miss_add hx.1 (by simpa using hx.2)
      split
      · exact cnt_le n R k _ (by omega)
      · omega
    · rw [← List.countP_eq_length_filter]
      show miss n s * _ ≤ _
      rw [h]; exact Nat.le_refl _

theorem fact_mono {a b : Nat} (h : a ≤ b) : fact a ≤ fact b := by
  induction b with
  | zero => simp at h; subst h; exact Nat.le_refl _
  | succ b ih =>
    by_cases e : a = b + 1
    · subst e; exact Nat.le_refl _
    · have := ih (by omega)
      simp only [fact, Nat.add_mul]
      omega
theorem miss_le (n s : Nat) : miss n s ≤ n := by
  have := List.countP_le_length (p := fun x => !s.testBit x) (l := List.range n)
  simpa [miss] using this
theorem cntS_le (n : Nat) (R : Nat → Nat → Bool) (s : Nat) : cntS n R s ≤ fact n := Nat.le_trans (cnt_le n R _ s rfl) (fact_mono (miss_le n s))

/-- What the round of the event x adds. -/
def term (n : Nat) (R : Nat → Nat → Bool) (s x : Nat) : Nat := if readyS n R s x then cntS n R (s ||| 2 ^ x) else 0

theorem comp_mask (n s : Nat) (hs : s < 2 ^ n) : 2 ^ n - 1 - s = mask n (fun x => !s.testBit x) := by
  have h : 2 ^ n - 1 - s = 2 ^ n - (s + 1) := by omega
  rw [h]
  refine eq_mask (by omega) fun i hi => ?_
  rw [Nat.testBit_two_pow_sub_succ hs]
  simp [hi]

theorem cntS_step (n : Nat) (R : Nat → Nat → Bool) (s : Nat) (h0 : miss n s ≠ 0) : cntS n R s = (((List.range n).filter fun x => !s.testBit x).map (term n R s)).sum := by
  obtain ⟨k, hk⟩ := Nat.exists_eq_succ_of_ne_zero h0
  rw [cntS, hk]
  show (List.map _ _).sum = _
  congr 1
  apply List.map_congr_left
  intro x hx
  rw [List.mem_filter, List.mem_range] at hx
  have := miss_add hx.1 (by simpa using hx.2)
  rw [term, cntS, show miss n (s ||| 2 ^ x) = k by omega]

theorem miss_full (n : Nat) : miss n (2 ^ n - 1) = 0 := by
  unfold miss
  rw [List.countP_eq_zero]
  intro x hx
  rw [List.mem_range] at hx
  simp [hx]
theorem cntS_full (n : Nat) (R : Nat → Nat → Bool) : cntS n R (2 ^ n - 1) = 1 := by rw [cntS, miss_full]; rfl
theorem miss_pos {n s : Nat} (h : s < 2 ^ n - 1) : miss n s ≠ 0 := by
  intro e
  unfold miss at e
  rw [List.countP_eq_zero] at e
  have h1 : s = mask n fun _ => true := eq_mask (by omega) fun i hi => by simpa using e i (List.mem_range.2 hi)
  have h2 : 2 ^ n - 1 = mask n fun _ => true := eq_mask (by omega) fun i hi => by simp [hi]
  omega

theorem cntS_evs {n s : Nat} (hn : n ≤ 64) (R : Nat → Nat → Bool) (h : s < 2 ^ n - 1) : cntS n R s = ((evs (2 ^ n - 1 - s)).map (term n R s)).sum := by
  rw [cntS_step n R s (miss_pos h), comp_mask n s (by omega), evs_mask n hn]

theorem term_part {n s : Nat} {R : Nat → Nat → Bool} {pre : List Nat} {x : Nat} {rest : List Nat} (hn : n ≤ 64) (h : s < 2 ^ n - 1) (he : evs (2 ^ n - 1 - s) = pre ++ x :: rest) :
    ((pre.map (term n R s)).sum + term n R s x ≤ fact n) := by
  have h1 := cntS_evs hn R h
  rw [he] at h1
  simp only [List.map_append, List.map_cons, List.sum_append, List.sum_cons] at h1
  have := cntS_le n R s
  omega

theorem evs_comp {n s x : Nat} (hn : n ≤ 64) (h : s < 2 ^ n - 1) (hx : x ∈ evs (2 ^ n - 1 - s)) : x < n ∧ s.testBit x = false := by
  rw [comp_mask n s (by omega), mem_evs_mask hn] at hx
  exact ⟨hx.1, by simpa using hx.2⟩

theorem or_lt {n s x : Nat} (hs : s < 2 ^ n) (hx : x < n) : s ||| 2 ^ x < 2 ^ n := Nat.or_lt_two_pow hs (Nat.pow_lt_pow_right (by decide) hx)
theorem or_gt {s x : Nat} (h : s.testBit x = false) : s < s ||| 2 ^ x := by
  have h1 : s ≤ s ||| 2 ^ x := Nat.left_le_or
  have h2 : s ≠ s ||| 2 ^ x := fun e => by
    have := congrArg (fun v => Nat.testBit v x) e
    simp only [testBit_or_two] at this
    simp [h] at this
  omega

/-- The row of the ways, from c on. -/
def wayF (n : Nat) (R : Nat → Nat → Bool) (c : Nat) : Nat → Nat := fun j => if c ≤ j then cntS n R j else 0

theorem lvRow_congr {N : Nat} {f g : Nat → Nat} (h : ∀ i, i < N → f i = g i) : lvRow N f = lvRow N g := by
  have : (List.range N).map f = (List.range N).map g := List.map_congr_left fun x hx => h x (List.mem_range.1 hx)
  simp only [lvRow, this]
theorem lvRow_start (n : Nat) (R : Nat → Nat → Bool) : lvRow (2 ^ n) (upd (fun _ => 0) (2 ^ n - 1) 1) = lvRow (2 ^ n) (wayF n R (2 ^ n - 1)) := by
  refine lvRow_congr fun i hi => ?_
  unfold upd wayF
  by_cases e : i = 2 ^ n - 1
  · subst e; simp [cntS_full]
  · rw [if_neg e, if_neg (by omega)]
theorem way_done {n s : Nat} {R : Nat → Nat → Bool} (hn : n ≤ 64) (h : s < 2 ^ n - 1) : upd (wayF n R (s + 1)) s ((evs (2 ^ n - 1 - s)).map (term n R s)).sum = wayF n R s := by
  funext j
  unfold upd wayF
  by_cases e : j = s
  · subst e; simp [cntS_evs hn R h]
  · rw [if_neg e]; by_cases e2 : s ≤ j
    · rw [if_pos e2, if_pos (by omega)]
    · rw [if_neg e2, if_neg (by omega)]
theorem way_first (n s : Nat) (R : Nat → Nat → Bool) : upd (wayF n R (s + 1)) s 0 = wayF n R (s + 1) := by
  funext j
  unfold upd wayF
  by_cases e : j = s
  · subst e; simp; intro h; omega
  · rw [if_neg e]
theorem miss_zero (n : Nat) : miss n 0 = n := by simp [miss, Nat.zero_testBit]
theorem way_end (n : Nat) (R : Nat → Nat → Bool) : wayF n R 0 0 = countR n R := by simp [wayF, cntS, countR, miss_zero]
theorem fact_16 : fact 16 = 20922789888000 := by decide
theorem fact_small {n : Nat} (h : n ≤ 16) : fact n ≤ 20922789888000 := by rw [← fact_16]; exact fact_mono h

/-! ### Bits of int -/

theorem wrap64_tdiv (a : Nat) (h : a < 9223372036854775808) : IntKind.i64.wrap (a : Int) = a := IntWalk.i64_in _ (by omega)
end Go.Proofs.YtnnnbmkhgcpjoaaDoor
