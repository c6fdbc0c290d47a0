/- PLAIN: what patterns match, as relations between places; a pattern that is repeated. -/
import Derived.Test.YtapfoaiibjdfnaaDoorPat
namespace Go.Ab

abbrev Bin2 := Nat → Nat → Bool
abbrev Wd := List (Nat × Nat)

/-- One relation, and then another one. -/
def comp (X Y : Bin2) : Bin2 := fun a c => (List.range 33).any fun b => X a b && Y b c
def idB (n : Nat) : Bin2 := fun a b => a == b && decide (a ≤ n)
def orB (X Y : Bin2) : Bin2 := fun a b => X a b || Y a b
def noB : Bin2 := fun _ _ => false
def powB (X : Bin2) (n : Nat) : Nat → Bin2
  | 0 => idB n
  | k + 1 => comp X (powB X n k)

/-- Places go on to places that are not before them, up to n. -/
def Mono (n : Nat) (X : Bin2) : Prop := ∀ a b, X a b = true → a ≤ b ∧ b ≤ n

theorem comp_iff {X Y : Bin2} {a c : Nat} : comp X Y a c = true ↔ ∃ b, b < 33 ∧ X a b = true ∧ Y b c = true := by
  simp only [comp, List.any_eq_true, List.mem_range, Bool.and_eq_true]
theorem idB_iff {n a b : Nat} : idB n a b = true ↔ a = b ∧ a ≤ n := by simp [idB]
theorem orB_iff {X Y : Bin2} {a b : Nat} : orB X Y a b = true ↔ X a b = true ∨ Y a b = true := by simp [orB]
theorem bin_ext {X Y : Bin2} (h : ∀ a b, X a b = true ↔ Y a b = true) : X = Y := by
  funext a b; exact Bool.eq_iff_iff.2 (h a b)

theorem Mono.id (n : Nat) : Mono n (idB n) := fun a b h => by rw [idB_iff] at h; omega
theorem Mono.no (n : Nat) : Mono n noB := fun a b h => by cases h
theorem Mono.comp {n : Nat} {X Y : Bin2} (h : Mono n X) (k : Mono n Y) : Mono n (comp X Y) := fun a c hc => by
  obtain ⟨b, _, h1, h2⟩ := comp_iff.1 hc
  have := h _ _ h1; have := k _ _ h2; omega
theorem Mono.or {n : Nat} {X Y : Bin2} (h : Mono n X) (k : Mono n Y) : Mono n (orB X Y) := fun a b hc => by
  rcases orB_iff.1 hc with hc | hc
  · exact h _ _ hc
  · exact k _ _ hc
theorem Mono.pow {n : Nat} {X : Bin2} (h : Mono n X) : ∀ k, Mono n (powB X n k)
  | 0 => Mono.id n
  | k + 1 => h.comp (Mono.pow h k)

theorem comp_assoc (X Y Z : Bin2) : comp (comp X Y) Z = comp X (comp Y Z) := by
  apply bin_ext; intro a d
  simp only [comp_iff]
  constructor
  · rintro ⟨c, hc, ⟨b, hb, h1, h2⟩, h3⟩; exact ⟨b, hb, h1, c, hc, h2, h3⟩
  · rintro ⟨b, hb, h1, c, hc, h2, h3⟩; exact ⟨c, hc, ⟨b, hb, h1, h2⟩, h3⟩
theorem comp_id {n : Nat} (hn : n ≤ 32) {X : Bin2} (h : Mono n X) : comp X (idB n) = X := by
  apply bin_ext; intro a c
  simp only [comp_iff, idB_iff]
  constructor
  · rintro ⟨b, _, h1, rfl, _⟩; exact h1
  · intro h1; have := h _ _ h1; exact ⟨c, by omega, h1, rfl, by omega⟩
theorem id_comp {n : Nat} (hn : n ≤ 32) {X : Bin2} (h : Mono n X) : comp (idB n) X = X := by
  apply bin_ext; intro a c
  simp only [comp_iff, idB_iff]
  constructor
  · rintro ⟨b, _, ⟨rfl, _⟩, h1⟩; exact h1
  · intro h1; have := h _ _ h1; exact ⟨a, by omega, ⟨rfl, by omega⟩, h1⟩
theorem comp_or (X Y Z : Bin2) : comp X (orB Y Z) = orB (comp X Y) (comp X Z) := by
  apply bin_ext; intro a c
  simp only [comp_iff, orB_iff]
  constructor
  · rintro ⟨b, hb, h1, h2 | h2⟩
    · exact .inl ⟨b, hb, h1, h2⟩
    · exact .inr ⟨b, hb, h1, h2⟩
  · rintro (⟨b, hb, h1, h2⟩ | ⟨b, hb, h1, h2⟩)
    · exact ⟨b, hb, h1, .inl h2⟩
    · exact ⟨b, hb, h1, .inr h2⟩

theorem pow_add {n : Nat} (hn : n ≤ 32) {X : Bin2} (h : Mono n X) (j : Nat) : ∀ k, powB X n (k + j) = comp (powB X n k) (powB X n j)
  | 0 => by rw [Nat.zero_add]; exact (id_comp hn (Mono.pow h j)).symm
  | k + 1 => by
    rw [show k + 1 + j = (k + j) + 1 by omega]
    show comp X _ = comp (comp X _) _
    rw [pow_add hn h j k, comp_assoc]
theorem pow_one {n : Nat} (hn : n ≤ 32) {X : Bin2} (h : Mono n X) : powB X n 1 = X := comp_id hn h
theorem pow_snoc {n : Nat} (hn : n ≤ 32) {X : Bin2} (h : Mono n X) (k : Nat) : powB X n (k + 1) = comp (powB X n k) X := by
  rw [pow_add hn h 1 k, pow_one hn h]

/-- The program's way: by squares. -/
def pwGo (n : Nat) : Nat → Nat → Bin2 → Bin2 → Bin2
  | 0, _, _, out => out
  | f + 1, k, x, out => if k = 0 then out else pwGo n f (k / 2) (comp x x) (if k % 2 = 1 then comp out x else out)
theorem pow_two {n : Nat} (hn : n ≤ 32) {X : Bin2} (h : Mono n X) : ∀ k, powB (comp X X) n k = powB X n (2 * k)
  | 0 => rfl
  | k + 1 => by
    show comp (comp X X) _ = _
    rw [pow_two hn h k, show 2 * (k + 1) = 2 * k + 1 + 1 by omega, comp_assoc]; rfl
theorem pwGo_eq {n : Nat} (hn : n ≤ 32) : ∀ (f k : Nat) (X out : Bin2), Mono n X → Mono n out → k ≤ f → pwGo n f k X out = comp out (powB X n k)
  | 0, k, X, out, _, ho, hk => by
    obtain rfl : k = 0 := by omega
    exact (comp_id hn ho).symm
  | f + 1, k, X, out, hX, ho, hk => by
    unfold pwGo
    by_cases h0 : k = 0
    · rw [if_pos h0, h0]; exact (comp_id hn ho).symm
    · rw [if_neg h0]
      by_cases h1 : k % 2 = 1
      · rw [if_pos h1, pwGo_eq hn f (k / 2) _ _ (hX.comp hX) (ho.comp hX) (by omega), pow_two hn hX, comp_assoc]
        congr 1
        have : k = 2 * (k / 2) + 1 := by omega
        rw [show powB X n k = powB X n (2 * (k / 2) + 1) from congrArg _ this]; rfl
      · rw [if_neg h1, pwGo_eq hn f (k / 2) _ _ (hX.comp hX) ho (by omega), pow_two hn hX]
        congr 2
        omega

/-! ### More times -/

/-- From lo to hi times. -/
def sumB (X : Bin2) (n lo : Nat) : Nat → Bin2
  | 0 => powB X n lo
  | e + 1 => orB (sumB X n lo e) (powB X n (lo + (e + 1)))
theorem sumB_iff {X : Bin2} {n lo : Nat} : ∀ {e a b : Nat}, sumB X n lo e a b = true ↔ ∃ j, j ≤ e ∧ powB X n (lo + j) a b = true
  | 0, a, b => ⟨fun h => ⟨0, Nat.le_refl _, h⟩, fun ⟨j, h1, h2⟩ => by obtain rfl : j = 0 := by omega
                                                                      exact h2⟩
  | e + 1, a, b => by
    show orB _ _ a b = true ↔ _
    rw [orB_iff, sumB_iff]
    constructor
    · rintro (⟨j, h1, h2⟩ | h)
      · exact ⟨j, by omega, h2⟩
      · exact ⟨e + 1, Nat.le_refl _, h⟩
    · rintro ⟨j, h1, h2⟩
      by_cases hj : j ≤ e
      · exact .inl ⟨j, hj, h2⟩
      · obtain rfl : j = e + 1 := by omega
        exact .inr h2
theorem Mono.sum {n : Nat} {X : Bin2} (h : Mono n X) (lo e : Nat) : Mono n (sumB X n lo e) := fun a b hh => by
  obtain ⟨j, _, h2⟩ := sumB_iff.1 hh
  exact Mono.pow h _ _ _ h2

/-- (X or nothing), e times, is X, up to e times. -/
theorem pow_orId {n : Nat} (hn : n ≤ 32) {X : Bin2} (h : Mono n X) : ∀ e, powB (orB X (idB n)) n e = sumB X n 0 e
  | 0 => rfl
  | e + 1 => by
    apply bin_ext; intro a c
    show comp _ _ a c = true ↔ _
    rw [comp_iff, sumB_iff]
    constructor
    · rintro ⟨b, hb, h1, h2⟩
      rw [pow_orId hn h e, sumB_iff] at h2
      obtain ⟨j, hj, h2⟩ := h2
      rcases orB_iff.1 h1 with h1 | h1
      · refine ⟨j + 1, by omega, ?_⟩
        rw [show 0 + (j + 1) = (0 + j) + 1 by omega]
        exact comp_iff.2 ⟨b, hb, h1, h2⟩
      · obtain ⟨rfl, _⟩ := idB_iff.1 h1
        exact ⟨j, by omega, h2⟩
    · rintro ⟨j, hj, h2⟩
      rw [Nat.zero_add] at h2
      cases j with
      | zero =>
        obtain ⟨rfl, ha⟩ := idB_iff.1 h2
        refine ⟨a, by omega, orB_iff.2 (.inr (idB_iff.2 ⟨rfl, ha⟩)), ?_⟩
        rw [pow_orId hn h e, sumB_iff]
        exact ⟨0, by omega, idB_iff.2 ⟨rfl, ha⟩⟩
      | succ j =>
        obtain ⟨b, hb, h3, h4⟩ := comp_iff.1 h2
        refine ⟨b, hb, orB_iff.2 (.inl h3), ?_⟩
        rw [pow_orId hn h e, sumB_iff]
        exact ⟨j, by omega, by rw [Nat.zero_add]; exact h4⟩

/-- A repeated pattern, as the program has it. -/
def repB (X : Bin2) (n lo e : Nat) : Bin2 := comp (powB X n lo) (powB (orB X (idB n)) n e)
theorem repB_sum {n : Nat} (hn : n ≤ 32) {X : Bin2} (h : Mono n X) (lo e : Nat) : repB X n lo e = sumB X n lo e := by
  apply bin_ext; intro a c
  unfold repB
  rw [pow_orId hn h, comp_iff, sumB_iff]
  constructor
  · rintro ⟨b, hb, h1, h2⟩
    obtain ⟨j, hj, h2⟩ := sumB_iff.1 h2
    rw [Nat.zero_add] at h2
    exact ⟨j, hj, by rw [pow_add hn h]; exact comp_iff.2 ⟨b, hb, h1, h2⟩⟩
  · rintro ⟨j, hj, h1⟩
    rw [pow_add hn h] at h1
    obtain ⟨b, hb, h2, h3⟩ := comp_iff.1 h1
    exact ⟨b, hb, h2, sumB_iff.2 ⟨j, hj, by rw [Nat.zero_add]; exact h3⟩⟩

/-- A way of k + 1 steps has one that goes nowhere, or comes far. -/
theorem pow_less {n : Nat} (hn : n ≤ 32) {X : Bin2} (h : Mono n X) : ∀ (k a b : Nat), powB X n (k + 1) a b = true → powB X n k a b = true ∨ a + (k + 1) ≤ b
  | 0, a, b, hh => by
    rw [pow_one hn h] at hh
    have := h _ _ hh
    by_cases e : a = b
    · exact .inl (idB_iff.2 ⟨e, by omega⟩)
    · exact .inr (by omega)
  | k + 1, a, c, hh => by
    obtain ⟨b, hb, h1, h2⟩ := comp_iff.1 hh
    rcases pow_less hn h k b c h2 with h3 | h3
    · exact .inl (comp_iff.2 ⟨b, hb, h1, h3⟩)
    · by_cases e : a = b
      · subst e; exact .inl h2
      · have := h _ _ h1
        exact .inr (by omega)
theorem pow_far {n : Nat} (hn : n ≤ 32) {X : Bin2} (h : Mono n X) {k a b : Nat} (hk : n ≤ k) (hh : powB X n (k + 1) a b = true) : powB X n k a b = true := by
  rcases pow_less hn h k a b hh with h1 | h1
  · exact h1
  · have := Mono.pow h _ _ _ hh; omega
/-- More than n times more add nothing. -/
theorem sum_far {n : Nat} (hn : n ≤ 32) {X : Bin2} (h : Mono n X) (lo : Nat) : ∀ e, n ≤ e → sumB X n lo e = sumB X n lo n := by
  intro e he
  obtain ⟨d, rfl⟩ : ∃ d, e = n + d := ⟨e - n, by omega⟩
  clear he
  induction d with
  | zero => rfl
  | succ d ih =>
    rw [← ih]
    apply bin_ext; intro a b
    show orB _ _ a b = true ↔ _
    rw [orB_iff]
    constructor
    · rintro (h1 | h1)
      · exact h1
      · exact sumB_iff.2 ⟨n + d, Nat.le_refl _, pow_far hn h (by omega) h1⟩
    · exact .inl
/-- If one time more adds nothing, then more times do not. -/
theorem sum_stable {n : Nat} (hn : n ≤ 32) {X : Bin2} (h : Mono n X) {lo e : Nat} (hs : sumB X n lo (e + 1) = sumB X n lo e) : ∀ m, e ≤ m → sumB X n lo m = sumB X n lo e := by
  intro m hm
  obtain ⟨d, rfl⟩ : ∃ d, m = e + d := ⟨m - e, by omega⟩
  clear hm
  have step : ∀ (j a c : Nat), j ≤ e → powB X n (lo + (j + 1)) a c = true → sumB X n lo e a c = true := fun j a c hj hh => by
    rw [← hs]; exact sumB_iff.2 ⟨j + 1, by omega, hh⟩
  have all : ∀ (d j a c : Nat), j ≤ e → powB X n (lo + (j + d)) a c = true → sumB X n lo e a c = true := by
    intro d
    induction d with
    | zero => exact fun j a c hj hh => sumB_iff.2 ⟨j, hj, hh⟩
    | succ d ih =>
      intro j a c hj hh
      rw [show lo + (j + (d + 1)) = (lo + (j + 1)) + d by omega, pow_add hn h] at hh
      obtain ⟨b, hb, h1, h2⟩ := comp_iff.1 hh
      obtain ⟨i, hi, h3⟩ := sumB_iff.1 (step j a b hj h1)
      refine ih i a c hi ?_
      rw [show lo + (i + d) = (lo + i) + d by omega, pow_add hn h]
      exact comp_iff.2 ⟨b, hb, h3, h2⟩
  apply bin_ext; intro a c
  rw [sumB_iff]
  constructor
  · rintro ⟨j, hj, hh⟩
    exact all j 0 a c (by omega) (by rw [Nat.zero_add]; exact hh)
  · intro hh
    obtain ⟨j, hj, h1⟩ := sumB_iff.1 hh
    exact ⟨j, by omega, h1⟩

/-! ### Patterns -/

def sat (s c : Nat × Nat) : Bool := (c.1 &&& s.1 == c.1) && (c.2 &&& s.2 == c.2)
def soundB (w : Wd) (c : Nat × Nat) (nt : Bool) : Bin2 := fun a b => b == a + 1 && decide (a < w.length) && (sat (w.getD a (0, 0)) c != nt)
def edgeB (a : Nat) : Bin2 := fun x y => x == a && y == a
/-- How many more times there may be. -/
def extra (n : Nat) (mn mx : Int) : Nat := if mx < 0 then n else (mx - mn).toNat
mutual
/-- What a pattern matches in a word. -/
def relP (w : Wd) : Pat → Bin2
  | .node k pl mi nt mn mx l =>
    if k = 1 then soundB w (pl, mi) nt
    else if k = 2 then edgeB 0
    else if k = 6 then edgeB w.length
    else if k = 4 then altB w l
    else if k = 5 then oneB w l mn mx
    else seqB w l (idB w.length)
def seqB (w : Wd) : List Pat → Bin2 → Bin2
  | [], X => X
  | p :: l, X => seqB w l (comp X (relP w p))
def altB (w : Wd) : List Pat → Bin2
  | [] => noB
  | p :: l => orB (relP w p) (altB w l)
def oneB (w : Wd) : List Pat → Int → Int → Bin2
  | [], _, _ => noB
  | p :: _, mn, mx => repB (relP w p) w.length mn.toNat (extra w.length mn mx)
end
theorem Mono.sound (w : Wd) (c : Nat × Nat) (nt : Bool) : Mono w.length (soundB w c nt) := fun a b h => by
  simp only [soundB, Bool.and_eq_true, beq_iff_eq, decide_eq_true_eq] at h
  omega
theorem Mono.edge {n a : Nat} (h : a ≤ n) : Mono n (edgeB a) := fun x y hh => by
  simp only [edgeB, Bool.and_eq_true, beq_iff_eq] at hh
  omega
mutual
theorem relP_mono (w : Wd) : ∀ p, Mono w.length (relP w p)
  | .node k pl mi nt mn mx l => by
    unfold relP
    split
    · exact Mono.sound _ _ _
    · split
      · exact Mono.edge (Nat.zero_le _)
      · split
        · exact Mono.edge (Nat.le_refl _)
        · split
          · exact altB_mono w l
          · split
            · exact oneB_mono w l mn mx
            · exact seqB_mono w l _ (Mono.id _)
theorem seqB_mono (w : Wd) : ∀ (l : List Pat) (X : Bin2), Mono w.length X → Mono w.length (seqB w l X)
  | [], _, h => by unfold seqB; exact h
  | p :: l, X, h => by unfold seqB; exact seqB_mono w l _ (h.comp (relP_mono w p))
theorem altB_mono (w : Wd) : ∀ (l : List Pat), Mono w.length (altB w l)
  | [] => by unfold altB; exact Mono.no _
  | p :: l => by unfold altB; exact (relP_mono w p).or (altB_mono w l)
theorem oneB_mono (w : Wd) : ∀ (l : List Pat) (mn mx : Int), Mono w.length (oneB w l mn mx)
  | [], _, _ => by unfold oneB; exact Mono.no _
  | p :: _, mn, mx => by unfold oneB repB; exact (Mono.pow (relP_mono w p) _).comp (Mono.pow ((relP_mono w p).or (Mono.id _)) _)
end
theorem seqB_snoc (w : Wd) (p : Pat) : ∀ (l : List Pat) (X : Bin2), seqB w (l ++ [p]) X = comp (seqB w l X) (relP w p)
  | [], X => by simp [seqB]
  | q :: l, X => by rw [List.cons_append]; unfold seqB; exact seqB_snoc w p l _
theorem orB_assoc (X Y Z : Bin2) : orB (orB X Y) Z = orB X (orB Y Z) := by funext a b; simp [orB, Bool.or_assoc]
theorem orB_no (X : Bin2) : orB X noB = X := by funext a b; simp [orB, noB]
theorem no_orB (X : Bin2) : orB noB X = X := by funext a b; simp [orB, noB]
theorem altB_snoc (w : Wd) (p : Pat) : ∀ (l : List Pat), altB w (l ++ [p]) = orB (altB w l) (relP w p)
  | [] => by simp [altB, orB_no, no_orB]
  | q :: l => by rw [List.cons_append]; unfold altB; rw [altB_snoc w p l, orB_assoc]
end Go.Ab
