/- The number of orders, counted from the last event of each set. Plain. -/
import Derived.Test.YtnnnbmkhgcpjoaaDoorAddLaw
namespace Go.Proofs.YtnnnbmkhgcpjoaaDoor
open Go.RowKit Go.Ab

/-- x can be the last event of the set s. -/
def lastS (n : Nat) (R : Bin) (s x : Nat) : Bool := (List.range n).all fun a => !((R a x && !s.testBit a) || (R x a && s.testBit a))
/-- From s a step by x is allowed. -/
def fwd (n : Nat) (R : Bin) (s x : Nat) : Bool := !s.testBit x && lastS n R (s ||| 2 ^ x) x
def bwd (n : Nat) (R : Bin) (s x : Nat) : Bool := s.testBit x && lastS n R s x
/-- The ways of k steps from s to t, by the first step; by the last one. -/
def n1 (n : Nat) (R : Bin) : Nat → Nat → Nat → Nat
  | 0, s, t => if s = t then 1 else 0
  | k + 1, s, t => ((List.range n).map fun x => if fwd n R s x then n1 n R k (s ||| 2 ^ x) t else 0).sum
def n2 (n : Nat) (R : Bin) : Nat → Nat → Nat → Nat
  | 0, s, t => if s = t then 1 else 0
  | k + 1, s, t => ((List.range n).map fun y => if bwd n R t y then n2 n R k s (t ^^^ 2 ^ y) else 0).sum

theorem sum_zero {α : Type} (l : List α) : (l.map fun _ => 0).sum = 0 := by
  induction l with
  | nil => rfl
  | cons a l ih => simp [ih]
theorem sum_swap {α β : Type} (l : List α) (m : List β) (f : α → β → Nat) : (l.map fun x => (m.map fun y => f x y).sum).sum = (m.map fun y => (l.map fun x => f x y).sum).sum := by
  induction l with
  | nil => simp only [List.map_nil, List.sum_nil]; rw [sum_zero]
  | cons a l ih =>
    simp only [List.map_cons, List.sum_cons]
    rw [ih, ← sum_add m (fun y => f a y + (l.map fun x => f x y).sum) _ _ (fun _ _ => rfl)]
theorem ite_sum {α : Type} (c : Bool) (l : List α) (f : α → Nat) : (if c then (l.map f).sum else 0) = (l.map fun x => if c then f x else 0).sum := by
  cases c
  · simp only [Bool.false_eq_true, if_false]; rw [sum_zero]
  · rfl
theorem sum_congr {α : Type} {l : List α} {f g : α → Nat} (h : ∀ x ∈ l, f x = g x) : (l.map f).sum = (l.map g).sum := by
  rw [List.map_congr_left h]

theorem step_eq {s t x : Nat} : (s.testBit x = false ∧ s ||| 2 ^ x = t) ↔ (t.testBit x = true ∧ s = t ^^^ 2 ^ x) := by
  constructor
  · rintro ⟨h, rfl⟩
    refine ⟨by rw [testBit_or_two]; simp, Nat.eq_of_testBit_eq fun i => ?_⟩
    rw [Nat.testBit_xor, testBit_or_two, Nat.testBit_two_pow]
    by_cases e : x = i
    · subst e; simp [h]
    · simp [e]
  · rintro ⟨h, rfl⟩
    refine ⟨by rw [Nat.testBit_xor, Nat.testBit_two_pow]; simp [h], Nat.eq_of_testBit_eq fun i => ?_⟩
    rw [testBit_or_two, Nat.testBit_xor, Nat.testBit_two_pow]
    by_cases e : x = i
    · subst e; simp [h]
    · simp [e]

theorem n1_n2 (n : Nat) (R : Bin) : ∀ (k s t : Nat), n1 n R k s t = n2 n R k s t
  | 0, _, _ => rfl
  | 1, s, t => by
    unfold n1 n2
    refine sum_congr fun x _ => ?_
    unfold n1 n2
    by_cases h : s.testBit x = false ∧ s ||| 2 ^ x = t
    · have h' := step_eq.1 h
      have e1 : fwd n R s x = bwd n R t x := by simp [fwd, bwd, h.1, h.2, h'.1]
      rw [e1, if_pos h.2, if_pos h'.2]
    · have h' : ¬ (t.testBit x = true ∧ s = t ^^^ 2 ^ x) := fun q => h (step_eq.2 q)
      have a1 : (if fwd n R s x then (if s ||| 2 ^ x = t then 1 else 0) else 0) = 0 := by
        by_cases c : s.testBit x = false
        · rw [if_neg (fun e => h ⟨c, e⟩)]; simp
        · simp [fwd, c]
      have a2 : (if bwd n R t x then (if s = t ^^^ 2 ^ x then 1 else 0) else 0) = 0 := by
        by_cases c : t.testBit x = true
        · rw [if_neg (fun e => h' ⟨c, e⟩)]; simp
        · simp [bwd, c]
      rw [a1, a2]
  | k + 2, s, t => by
    have e1 : n1 n R (k + 2) s t = ((List.range n).map fun x => ((List.range n).map fun y => if fwd n R s x then (if bwd n R t y then n2 n R k (s ||| 2 ^ x) (t ^^^ 2 ^ y) else 0) else 0).sum).sum := by
      show ((List.range n).map _).sum = _
      refine sum_congr fun x _ => ?_
      rw [n1_n2 n R (k + 1), ← ite_sum]
      rfl
    have e2 : n2 n R (k + 2) s t = ((List.range n).map fun y => ((List.range n).map fun x => if bwd n R t y then (if fwd n R s x then n1 n R k (s ||| 2 ^ x) (t ^^^ 2 ^ y) else 0) else 0).sum).sum := by
      show ((List.range n).map _).sum = _
      refine sum_congr fun y _ => ?_
      rw [← n1_n2 n R (k + 1), ← ite_sum]
      rfl
    rw [e1, e2, sum_swap]
    refine sum_congr fun y _ => sum_congr fun x _ => ?_
    rw [n1_n2 n R k]
    cases fwd n R s x <;> cases bwd n R t y <;> rfl

theorem lastS_iff {n : Nat} {R : Bin} (hR : Rel n R) {s x : Nat} : lastS n R s x = true ↔ (∀ i, R i x = true → s.testBit i = true) ∧ ∀ i, R x i = true → s.testBit i = false := by
  unfold lastS
  rw [List.all_eq_true]
  constructor
  · intro h
    refine ⟨fun i hi => ?_, fun i hi => ?_⟩
    · have := h i (List.mem_range.2 (hR.dom _ _ hi).1)
      rw [hi] at this
      cases q : s.testBit i
      · rw [q] at this; simp at this
      · rfl
    · have := h i (List.mem_range.2 (hR.dom _ _ hi).2)
      rw [hi] at this
      cases q : s.testBit i
      · rfl
      · rw [q] at this; simp at this
  · rintro ⟨h1, h2⟩ i _
    cases a : R i x
    · cases b : R x i
      · simp
      · rw [h2 i b]; rfl
    · cases b : R x i
      · rw [h1 i a]; rfl
      · have := h2 i b
        rw [h1 i a] at this; cases this

theorem fwd_ready {n : Nat} {R : Bin} (hR : Rel n R) {s x : Nat} (hd : DownS R s) (hx : s.testBit x = false) : fwd n R s x = readyS n R s x := by
  apply Bool.eq_iff_iff.2
  rw [fwd, hx, Bool.not_false, Bool.true_and, lastS_iff hR, readyS_iff hR]
  constructor
  · rintro ⟨h1, _⟩ i hi
    have := h1 i hi
    rw [testBit_or_two] at this
    have hne : x ≠ i := fun e => by subst e; rw [hR.irr x] at hi; cases hi
    simpa [hne] using this
  · intro h
    refine ⟨fun i hi => by rw [testBit_or_two, h i hi]; rfl, fun i hi => ?_⟩
    have hne : x ≠ i := fun e => by subst e; rw [hR.irr x] at hi; cases hi
    rw [testBit_or_two]
    simp only [hne, decide_false, Bool.or_false]
    cases q : s.testBit i with
    | false => rfl
    | true => rw [hd x i q hi] at hx; cases hx

theorem miss_eq_zero {n s : Nat} (hs : s < 2 ^ n) (h : miss n s = 0) : s = 2 ^ n - 1 := by
  apply Nat.le_antisymm (by omega)
  apply Nat.le_of_not_lt
  intro hlt
  exact miss_pos hlt h
theorem filter_sum {α : Type} (l : List α) (p : α → Bool) (f : α → Nat) : ((l.filter p).map f).sum = (l.map fun x => if p x then f x else 0).sum := by
  induction l with
  | nil => rfl
  | cons a l ih =>
    rw [List.filter_cons]
    by_cases h : p a = true
    · rw [if_pos h]; simp [h, ih]
    · rw [if_neg h]; simp [h, ih]
theorem cnt_n1 {n : Nat} {R : Bin} (hR : Rel n R) : ∀ (k s : Nat), s < 2 ^ n → DownS R s → miss n s = k → cnt n R k s = n1 n R k s (2 ^ n - 1)
  | 0, s, hs, _, hm => by
    unfold n1
    rw [if_pos (miss_eq_zero hs hm)]; rfl
  | k + 1, s, hs, hd, hm => by
    rw [cnt_succ, filter_sum]
    show _ = ((List.range n).map _).sum
    refine sum_congr fun x hx => ?_
    rw [List.mem_range] at hx
    by_cases hsx : s.testBit x = false
    · rw [fwd_ready hR hd hsx, hsx]
      simp only [Bool.not_false, if_true]
      by_cases hr : readyS n R s x = true
      · rw [if_pos hr, if_pos hr]
        have := miss_add hx hsx
        exact cnt_n1 hR k _ (or_lt hs hx) (hd.add ((readyS_iff hR).1 hr)) (by omega)
      · rw [if_neg hr, if_neg hr]
    · have : s.testBit x = true := by simpa using hsx
      simp [this, fwd]

/-- How many events are in a set. -/
def size (n s : Nat) : Nat := (List.range n).countP fun x => s.testBit x
theorem size_miss (n s : Nat) : size n s + miss n s = n := by
  unfold size miss
  have := List.length_eq_countP_add_countP (l := List.range n) (p := fun x => s.testBit x)
  simp only [List.length_range] at this
  have e : (List.range n).countP (fun x => ¬ (s.testBit x = true)) = (List.range n).countP (fun x => !s.testBit x) := by
    apply List.countP_congr; intro x _; simp
  omega
/-- What the reference keeps of a set. -/
def many (n : Nat) (R : Bin) (s : Nat) : Nat := n2 n R (size n s) 0 s
theorem many_zero (n : Nat) (R : Bin) : many n R 0 = 1 := by
  have : size n 0 = 0 := by have := size_miss n 0; rw [miss_zero] at this; omega
  rw [many, this]; rfl
theorem or_pow : ∀ (x s : Nat), s.testBit x = false → s ||| 2 ^ x = s + 2 ^ x
  | 0, s, h => by
    rw [Nat.testBit_zero] at h
    have h2 : s % 2 = 0 := by
      have := decide_eq_false_iff_not.1 h; omega
    have e1 : (s ||| 2 ^ 0) / 2 = s / 2 := by rw [Nat.or_div_two]; simp
    have e2 : (s ||| 2 ^ 0) % 2 = 1 := by simp
    have : 2 ^ 0 = 1 := rfl
    omega
  | x + 1, s, h => by
    have h' : (s / 2).testBit x = false := by rw [← Nat.testBit_succ]; exact h
    have ih := or_pow x (s / 2) h'
    have e0 : 2 ^ (x + 1) / 2 = 2 ^ x := by rw [Nat.pow_succ]; omega
    have e1 : (s ||| 2 ^ (x + 1)) / 2 = s / 2 ||| 2 ^ x := by rw [Nat.or_div_two, e0]
    have e2 : (s ||| 2 ^ (x + 1)) % 2 = s % 2 := by
      have := Nat.testBit_or s (2 ^ (x + 1)) 0
      rw [Nat.testBit_zero, Nat.testBit_zero s, Nat.testBit_two_pow] at this
      have := Bool.eq_iff_iff.1 this
      simp only [decide_eq_true_eq, Bool.or_eq_true] at this
      have h0 : ¬ (x + 1 = 0) := by omega
      simp only [h0, or_false] at this
      omega
    have e3 : 2 ^ (x + 1) = 2 * 2 ^ x := by rw [Nat.pow_succ]; omega
    omega
theorem xor_sub {s x : Nat} (h : s.testBit x = true) : s ^^^ 2 ^ x = s - 2 ^ x ∧ 2 ^ x ≤ s := by
  have h2 := (step_eq (s := s ^^^ 2 ^ x) (t := s) (x := x)).2 ⟨h, rfl⟩
  have h3 : (s ^^^ 2 ^ x) + 2 ^ x = s := by
    rw [← or_pow x _ h2.1]; exact h2.2
  omega
theorem size_sub {n s x : Nat} (hx : x < n) (h : s.testBit x = true) : size n (s ^^^ 2 ^ x) + 1 = size n s := by
  have h2 := (step_eq (s := s ^^^ 2 ^ x) (t := s) (x := x)).2 ⟨h, rfl⟩
  have := miss_add hx h2.1
  rw [h2.2] at this
  have a := size_miss n s; have b := size_miss n (s ^^^ 2 ^ x)
  omega
/-- What the round of x adds to a set. -/
def mterm (n : Nat) (R : Bin) (s x : Nat) : Nat := if bwd n R s x then many n R (s - 2 ^ x) else 0
theorem size_pos {n s : Nat} (hs : s < 2 ^ n) (h0 : 0 < s) : size n s ≠ 0 := by
  intro e
  unfold size at e
  rw [List.countP_eq_zero] at e
  have : s = 0 := Nat.eq_of_testBit_eq fun i => by
    rw [Nat.zero_testBit]
    by_cases hi : i < n
    · simpa using e i (List.mem_range.2 hi)
    · exact Nat.testBit_lt_two_pow (Nat.lt_of_lt_of_le hs (Nat.pow_le_pow_right (by decide) (by omega)))
  omega
theorem many_step {n s : Nat} (R : Bin) (hs : s < 2 ^ n) (h0 : 0 < s) : many n R s = ((List.range n).map (mterm n R s)).sum := by
  obtain ⟨k, hk⟩ := Nat.exists_eq_succ_of_ne_zero (size_pos hs h0)
  rw [many, hk]
  show ((List.range n).map _).sum = _
  refine sum_congr fun x hx => ?_
  rw [List.mem_range] at hx
  unfold mterm
  by_cases hb : bwd n R s x = true
  · rw [if_pos hb, if_pos hb]
    have hbit : s.testBit x = true := by
      unfold bwd at hb; cases q : s.testBit x
      · rw [q] at hb; simp at hb
      · rfl
    have h1 := size_sub hx hbit
    rw [← (xor_sub hbit).1, many, show size n (s ^^^ 2 ^ x) = k by omega]
  · rw [if_neg hb, if_neg hb]
theorem many_full {n : Nat} {R : Bin} (hR : Rel n R) : many n R (2 ^ n - 1) = countR n R := by
  have hs : size n (2 ^ n - 1) = n := by have := size_miss n (2 ^ n - 1); rw [miss_full] at this; omega
  have hp : 0 < 2 ^ n := Nat.two_pow_pos n
  rw [many, hs, ← n1_n2, countR, cnt_n1 hR n 0 hp (fun i x h => by rw [Nat.zero_testBit] at h; cases h) (miss_zero n)]
theorem n2_le (n : Nat) (R : Bin) : ∀ (k s t : Nat), n2 n R k s t ≤ n ^ k
  | 0, s, t => by unfold n2; split <;> simp
  | k + 1, s, t => by
    unfold n2
    have h := sum_le_mul (List.range n) (fun y => if bwd n R t y then n2 n R k s (t ^^^ 2 ^ y) else 0) (n ^ k) fun y _ => by
      split
      · exact n2_le n R k _ _
      · omega
    rw [List.length_range] at h
    rw [Nat.pow_succ, Nat.mul_comm]; exact h
theorem many_le {n : Nat} (R : Bin) (hn : n ≤ 9) (s : Nat) : many n R s ≤ 387420489 := by
  have h1 := n2_le n R (size n s) 0 s
  have h2 : size n s ≤ n := by have := size_miss n s; omega
  have h3 : n ^ size n s ≤ 9 ^ 9 := by
    by_cases h0 : n = 0
    · subst h0
      have : size 0 s = 0 := by omega
      rw [this]; decide
    · exact Nat.le_trans (Nat.pow_le_pow_right (by omega) h2) (Nat.le_trans (Nat.pow_le_pow_left hn n) (Nat.pow_le_pow_right (by decide) hn))
  have : (9 : Nat) ^ 9 = 387420489 := by decide
  unfold many; omega
/-- The part of a set's sum up to the event x. -/
def mpart (n : Nat) (R : Bin) (s x : Nat) : Nat := ((List.range x).map (mterm n R s)).sum
theorem mpart_succ (n : Nat) (R : Bin) (s x : Nat) : mpart n R s (x + 1) = mpart n R s x + mterm n R s x := by
  unfold mpart; rw [List.range_succ]; simp
theorem mpart_le {n : Nat} (R : Bin) (hn : n ≤ 9) (s x : Nat) (hx : x ≤ 9) : mpart n R s x ≤ 9 * 387420489 := by
  have h := sum_le_mul (List.range x) (mterm n R s) 387420489 fun y _ => by
    unfold mterm; split
    · exact many_le R hn _
    · omega
  rw [List.length_range] at h
  unfold mpart
  exact Nat.le_trans h (Nat.mul_le_mul_right _ hx)
end Go.Proofs.YtnnnbmkhgcpjoaaDoor
