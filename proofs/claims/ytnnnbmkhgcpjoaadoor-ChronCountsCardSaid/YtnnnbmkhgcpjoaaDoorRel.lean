/- PLAIN: relations between the first n numbers, as bits and as such. -/
import Derived.Test.YtnnnbmkhgcpjoaaDoorBits
namespace Go.Ab

/-- Those before x, those behind x, as bits. -/
def bfR (n : Nat) (R : Nat → Nat → Bool) (x : Nat) : Nat := mask n (fun a => R a x)
def afR (n : Nat) (R : Nat → Nat → Bool) (x : Nat) : Nat := mask n (fun b => R x b)

theorem pow_le64 {n : Nat} (h : n ≤ 64) : 2 ^ n ≤ 18446744073709551616 := Nat.pow_le_pow_right (n := 2) (by decide) h
theorem mask_lt64 {n : Nat} (h : n ≤ 64) (p : Nat → Bool) : mask n p < 18446744073709551616 := Nat.lt_of_lt_of_le (mask_lt n p) (pow_le64 h)

/-- A strict order of the first n numbers. -/
structure Rel (n : Nat) (R : Nat → Nat → Bool) : Prop where
  dom : ∀ a b, R a b = true → a < n ∧ b < n
  irr : ∀ a, R a a = false
  tr : ∀ a b c, R a b = true → R b c = true → R a c = true

theorem Rel.empty (n : Nat) : Rel n (fun _ _ => false) := ⟨by simp, by simp, by simp⟩
theorem Rel.asym {n : Nat} {R : Nat → Nat → Bool} (h : Rel n R) {a b : Nat} (hab : R a b = true) : R b a = false := by
  cases hba : R b a with
  | false => rfl
  | true => have := h.tr a b a hab hba; rw [h.irr] at this; cases this

/-- One relation more, with all that follows. -/
def addR (R : Nat → Nat → Bool) (x y : Nat) : Nat → Nat → Bool := fun i k => R i k || ((i == x || R i x) && (k == y || R y k))

theorem addR_rel {n : Nat} {R : Nat → Nat → Bool} (h : Rel n R) {x y : Nat} (hx : x < n) (hy : y < n) (hxy : x ≠ y) (hyx : R y x = false) : Rel n (addR R x y) := by
  constructor
  · intro a b hab
    simp only [addR, Bool.or_eq_true, Bool.and_eq_true, beq_iff_eq] at hab
    rcases hab with hab | ⟨h1, h2⟩
    · exact h.dom a b hab
    · constructor
      · rcases h1 with rfl | h1
        · exact hx
        · exact (h.dom _ _ h1).1
      · rcases h2 with rfl | h2
        · exact hy
        · exact (h.dom _ _ h2).2
  · intro a
    cases ha : addR R x y a a with
    | false => rfl
    | true =>
      simp only [addR, Bool.or_eq_true, Bool.and_eq_true, beq_iff_eq] at ha
      rcases ha with ha | ⟨h1, h2⟩
      · rw [h.irr] at ha; cases ha
      · rcases h1 with rfl | h1 <;> rcases h2 with h2 | h2
        · exact absurd h2 hxy
        · rw [hyx] at h2; cases h2
        · subst h2; rw [hyx] at h1; cases h1
        · have := h.tr _ _ _ h2 h1; rw [hyx] at this; cases this
  · intro a b c hab hbc
    simp only [addR, Bool.or_eq_true, Bool.and_eq_true, beq_iff_eq] at *
    rcases hab with hab | ⟨h1, h2⟩ <;> rcases hbc with hbc | ⟨h3, h4⟩
    · exact .inl (h.tr _ _ _ hab hbc)
    · refine .inr ⟨?_, h4⟩
      rcases h3 with rfl | h3
      · exact .inr hab
      · exact .inr (h.tr _ _ _ hab h3)
    · refine .inr ⟨h1, ?_⟩
      rcases h2 with rfl | h2
      · exact .inr hbc
      · exact .inr (h.tr _ _ _ h2 hbc)
    · exact .inr ⟨h1, h4⟩

theorem mem_evs_mask {n : Nat} (hn : n ≤ 64) (p : Nat → Bool) (i : Nat) : i ∈ evs (mask n p) ↔ i < n ∧ p i = true := by
  rw [evs_mask n hn]; simp

/-- What Before makes of the two rows of sets. -/
theorem addR_af {n : Nat} (hn : n ≤ 64) {R : Nat → Nat → Bool} (h : Rel n R) {x y : Nat} (hx : x < n) (hy : y < n) :
    (fun i => if i ∈ evs (bfR n R x ||| 2 ^ x) then afR n R i ||| (afR n R y ||| 2 ^ y) else afR n R i) = afR n (addR R x y) := by
  funext i
  have e1 : bfR n R x ||| 2 ^ x = mask n (fun a => R a x || a == x) := by rw [bfR, two_pow_mask hx, mask_or]
  have e2 : afR n R y ||| 2 ^ y = mask n (fun b => R y b || b == y) := by rw [afR, two_pow_mask hy, mask_or]
  rw [e1, e2]
  by_cases hi : i ∈ evs (mask n (fun a => R a x || a == x))
  · rw [if_pos hi]
    obtain ⟨_, hp⟩ := (mem_evs_mask hn _ _).1 hi
    rw [afR, mask_or]
    refine mask_congr fun k _ => ?_
    simp only [addR]
    have : (i == x || R i x) = true := by rw [Bool.or_comm]; exact hp
    rw [this, Bool.true_and, Bool.or_comm (k == y)]
  · rw [if_neg hi]
    refine mask_congr fun k _ => ?_
    have hno : ¬ (i < n ∧ (R i x || i == x) = true) := fun hh => hi ((mem_evs_mask hn _ _).2 hh)
    simp only [addR]
    have : (i == x || R i x) = false := by
      cases hh : (i == x || R i x) with
      | false => rfl
      | true =>
        refine absurd ⟨?_, by rw [Bool.or_comm]; exact hh⟩ hno
        simp only [Bool.or_eq_true, beq_iff_eq] at hh
        rcases hh with rfl | hh
        · exact hx
        · exact (h.dom _ _ hh).1
    rw [this]; simp
theorem addR_bf {n : Nat} (hn : n ≤ 64) {R : Nat → Nat → Bool} (h : Rel n R) {x y : Nat} (hx : x < n) (hy : y < n) :
    (fun i => if i ∈ evs (afR n R y ||| 2 ^ y) then bfR n R i ||| (bfR n R x ||| 2 ^ x) else bfR n R i) = bfR n (addR R x y) := by
  funext i
  have e1 : bfR n R x ||| 2 ^ x = mask n (fun a => R a x || a == x) := by rw [bfR, two_pow_mask hx, mask_or]
  have e2 : afR n R y ||| 2 ^ y = mask n (fun b => R y b || b == y) := by rw [afR, two_pow_mask hy, mask_or]
  rw [e1, e2]
  by_cases hi : i ∈ evs (mask n (fun a => R y a || a == y))
  · rw [if_pos hi]
    obtain ⟨_, hp⟩ := (mem_evs_mask hn _ _).1 hi
    rw [bfR, mask_or]
    refine mask_congr fun k _ => ?_
    simp only [addR]
    have : (i == y || R y i) = true := by rw [Bool.or_comm]; exact hp
    rw [this, Bool.and_true, Bool.or_comm (k == x)]
  · rw [if_neg hi]
    refine mask_congr fun k _ => ?_
    have hno : ¬ (i < n ∧ (R y i || i == y) = true) := fun hh => hi ((mem_evs_mask hn _ _).2 hh)
    simp only [addR]
    have : (i == y || R y i) = false := by
      cases hh : (i == y || R y i) with
      | false => rfl
      | true =>
        refine absurd ⟨?_, by rw [Bool.or_comm]; exact hh⟩ hno
        simp only [Bool.or_eq_true, beq_iff_eq] at hh
        rcases hh with rfl | hh
        · exact hy
        · exact (h.dom _ _ hh).2
    rw [this]; simp

/-! ### The first order -/

/-- Can x be next behind those in l? -/
def rdy (n : Nat) (R : Nat → Nat → Bool) (l : List Nat) (x : Nat) : Bool := !l.contains x && (List.range n).all fun a => !R a x || l.contains a

/-- The first one that can be next. -/
def nextR (n : Nat) (R : Nat → Nat → Bool) (l : List Nat) : Option Nat := (List.range n).find? (rdy n R l)
def firstGo (n : Nat) (R : Nat → Nat → Bool) : Nat → List Nat → List Nat
  | 0, l => l
  | k + 1, l => match nextR n R l with | some x => firstGo n R k (l ++ [x]) | none => l
def firstL (n : Nat) (R : Nat → Nat → Bool) : List Nat := firstGo n R n []

theorem exists_not_mem : ∀ (n : Nat) (l : List Nat), l.length < n → ∃ x, x < n ∧ x ∉ l
  | 0, _, h => by simp at h
  | n + 1, l, h => by
    by_cases hn : n ∈ l
    · obtain ⟨x, hx, hm⟩ := exists_not_mem n (l.erase n) (by rw [List.length_erase_of_mem hn]; have := List.length_pos_of_mem hn; omega)
      refine ⟨x, by omega, fun hxl => hm ?_⟩
      exact (List.mem_erase_of_ne (by omega)).2 hxl
    · exact ⟨n, by omega, hn⟩

theorem Rel.least {n : Nat} {R : Nat → Nat → Bool} (h : Rel n R) (p : Nat → Bool) : ∀ (m : Nat) (x : Nat), x < n → p x = true → ((List.range n).filter fun a => R a x).length ≤ m → ∃ y, y < n ∧ p y = true ∧ ∀ a, R a y = true → p a = false
  | m, x, hx, hp, hm => by
    by_cases hy : ∃ a, R a x = true ∧ p a = true
    · obtain ⟨a, hax, hpa⟩ := hy
      have ha := (h.dom _ _ hax).1
      have hlt : ((List.range n).filter fun b => R b a).length < ((List.range n).filter fun b => R b x).length := by
        have hsub : ((List.range n).filter fun b => R b a).length + 1 ≤ ((List.range n).filter fun b => R b x).length := by
          have e : ((List.range n).filter fun b => R b a) = (((List.range n).filter fun b => R b x).erase a).filter fun b => R b a := by
            rw [List.erase_filter, List.filter_filter]
            rw [List.Nodup.erase_eq_filter (List.nodup_range), List.filter_filter]
            apply List.filter_congr
            intro b _
            by_cases hba : R b a = true
            · have h1 : R b x = true := h.tr _ _ _ hba hax
              have h2 : b ≠ a := fun e => by rw [e, h.irr] at hba; cases hba
              simp [hba, h1, h2]
            · simp [hba]
          have hm : a ∈ (List.range n).filter fun b => R b x := by simp [ha, hax]
          rw [e]
          have h1 := List.length_filter_le (fun b => R b a) (((List.range n).filter fun b => R b x).erase a)
          have h2 := List.length_erase_of_mem hm
          have h3 := List.length_pos_of_mem hm
          omega
        omega
      cases m with
      | zero => omega
      | succ m => exact h.least p m a ha hpa (by omega)
    · refine ⟨x, hx, hp, fun a ha => ?_⟩
      cases hpa : p a with
      | false => rfl
      | true => exact absurd ⟨a, ha, hpa⟩ hy

theorem nextR_some {n : Nat} {R : Nat → Nat → Bool} (h : Rel n R) {l : List Nat} (hl : l.length < n) : ∃ x, nextR n R l = some x := by
  obtain ⟨x, hx, hm⟩ := exists_not_mem n l hl
  obtain ⟨y, hy, hp, hq⟩ := h.least (fun a => !l.contains a) _ x hx (by simp [hm]) (Nat.le_refl _)
  have hr : rdy n R l y = true := by
    simp only [rdy, Bool.and_eq_true, hp, List.all_eq_true, List.mem_range, Bool.or_eq_true, true_and]
    intro a _
    cases ha : R a y with
    | false => exact .inl rfl
    | true => right; have := hq a ha; simpa using this
  cases hn : nextR n R l with
  | some x => exact ⟨x, rfl⟩
  | none =>
    have := List.find?_eq_none.1 hn y (by simpa using hy)
    rw [hr] at this; simp at this

theorem nextR_spec {n : Nat} {R : Nat → Nat → Bool} {l : List Nat} {x : Nat} (h : nextR n R l = some x) : x < n ∧ rdy n R l x = true ∧ ∀ y, y < x → rdy n R l y = false := by
  unfold nextR at h
  rw [List.find?_range_eq_some] at h
  obtain ⟨h1, h2, h3⟩ := h
  refine ⟨by simpa using h2, h1, fun y hy => by simpa using h3 y hy⟩
end Go.Ab
