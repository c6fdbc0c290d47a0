/- PLAIN: sets of numbers below 64 as the bits of a number; the bits of a number in increasing order. PLAIN: patterns, their errors, their sizes. PLAIN: what patterns match, as relations between places; a pattern that is repeated. PLAIN: sounds as bits: their features one by one, and all at once. No program is named. Short names for steps that recur. What a call turns ('Turn'); a range over a function whose iterator keeps a state of its own in cells; the marks among the deferred calls. No program is named. A region in a round's frame, by the plain walk of its operations. No program is named. Slices that are read, and slices that a call makes. No program is named. Words in memory; what a sound satisfies. No program is named. Patterns in memory. No program is named. Laws: as data, and in memory. No program is named. Blocks that read as they were laid; patterns without parts. PLAIN: what kind of change a law is, by the numbers From of its Out. No program is named. PLAIN: the program's words for the bits of sounds. No program is named. feats: Valid, has, mix, Satisfies, Change, Take. math/bits.TrailingZeros64. PLAIN: the reference's loop over the times of a repeated pattern; relations as rows of bits. pats.set.all: the iterator over the places of a set. The conditions of a law, as a slice with room. -/
import Derived.Lib.TrailingZeros
import Derived.WalkKit
import Derived.Deep.RegionHeld
import Derived.RangeFuncNested
import Derived.RangeFuncLeaves
import Derived.RangeFuncCalls
import Derived.OwnWalkIn
import Derived.TacticsInMore
import Derived.LoopNIn
import Derived.LoopIn
import Derived.Deep.QuietTactic
import Derived.BigQuiet
import Derived.StillTailTactics
import Derived.OrdersIn
import Derived.Deep.DeepCutAuto
import Derived.Deep.RegionHeld3
import Derived.BigRegion
import Derived.Deep.MidRow
import Derived.Laws.BitsAllLaws
import Derived.Test.YtedhogbocifipaaGreatDoorProg
import Derived.WalkLawsBesides
import Derived.Handy
import Derived.Lib.Hide
import Derived.Shelf.Spec.TrailingZeros
set_option maxRecDepth 100000
set_option maxHeartbeats 4000000
namespace Go.Ab

/-- The number whose bits below n are those where p holds. -/
def mask : Nat → (Nat → Bool) → Nat
 | 0, _ => 0
 | n + 1, p => mask n p + if p n then 2 ^ n else 0

theorem mask_lt (n : Nat) (p : Nat → Bool) : mask n p < 2 ^ n := by
 induction n with
 | zero => simp [mask]
 | succ n ih =>
  unfold mask
  rw [Nat.pow_succ]
  split <;> omega

theorem testBit_mask (n : Nat) (p : Nat → Bool) (i : Nat) : (mask n p).testBit i = (decide (i < n) && p i) := by
 induction n with
 | zero => simp [mask]
 | succ n ih =>
  unfold mask
  have hlt := mask_lt n p
  by_cases hp : p n = true
  ·rw [if_pos hp, Nat.add_comm]
   rw [show 2 ^ n + mask n p = 2 ^ n * 1 + mask n p by omega]
   rw [Nat.testBit_two_pow_mul_add _ hlt]
   split
   ·rename_i h; rw [ih]; simp [h, Nat.lt_succ_of_lt h]
   ·rename_i h
    by_cases e : i = n
    ·subst e; simp [hp]
    ·obtain ⟨d, hd⟩ : ∃ d, i - n = d + 1 := ⟨i - n - 1, by omega⟩
     rw [hd, Nat.testBit_succ]
     simp; omega
  ·rw [if_neg hp, Nat.add_zero, ih]
   by_cases e : i = n
   ·subst e; simp at hp; simp [hp]
   ·have : (i < n + 1) ↔ (i < n) := by omega
    simp [this]

theorem eq_mask {n v : Nat} {p : Nat → Bool} (hv : v < 2 ^ n) (h : ∀ i, i < n → v.testBit i = p i) : v = mask n p := by
 apply Nat.eq_of_testBit_eq
 intro i
 rw [testBit_mask]
 by_cases hi : i < n
 ·simp [hi, h i hi]
 ·rw [Nat.testBit_lt_two_pow (Nat.lt_of_lt_of_le hv (Nat.pow_le_pow_right (by decide) (by omega)))]
  simp [hi]

theorem mask_congr {n : Nat} {p q : Nat → Bool} (h : ∀ i, i < n → p i = q i) : mask n p = mask n q :=
 eq_mask (mask_lt n p) fun i hi => by rw [testBit_mask]; simp [hi, h i hi]

theorem mask_or (n : Nat) (p q : Nat → Bool) : mask n p ||| mask n q = mask n (fun i => p i || q i) :=
 eq_mask (Nat.or_lt_two_pow (mask_lt n p) (mask_lt n q)) fun i hi => by
  rw [Nat.testBit_or, testBit_mask, testBit_mask]; simp [hi]

theorem two_pow_mask {n x : Nat} (hx : x < n) : 2 ^ x = mask n (fun i => i == x) :=
 eq_mask (Nat.pow_lt_pow_right (by decide) hx) fun i _ => by
  rw [Nat.testBit_two_pow]
  by_cases h : x = i
  ·subst h; simp
  ·have : (i == x) = false := by simp; omega
   simp [h, this]

theorem mask_zero (n : Nat) : mask n (fun _ => false) = 0 := by
 induction n with
 | zero => rfl
 | succ n ih => simp [mask, ih]

/-- The bits of a number, below 64, in increasing order. -/
def evs (v : Nat) : List Nat := (List.range 64).filter v.testBit

theorem evs_zero : evs 0 = [] := by simp [evs]

theorem mem_evs {v i : Nat} : i ∈ evs v ↔ i < 64 ∧ v.testBit i = true := by simp [evs]

theorem evs_mask (n : Nat) (hn : n ≤ 64) (p : Nat → Bool) : evs (mask n p) = (List.range n).filter p := by
 unfold evs
 have e : (64 : Nat) = n + (64 - n) := by omega
 rw [e, List.range_add, List.filter_append]
 have h1 : (List.range n).filter (mask n p).testBit = (List.range n).filter p := by
  apply List.filter_congr
  intro i hi
  rw [testBit_mask]; simp at hi; simp [hi]
 have h2 : (List.map (n + ·) (List.range (64 - n))).filter (mask n p).testBit = [] := by
  rw [List.filter_eq_nil_iff]
  intro i hi
  simp only [List.mem_map, List.mem_range] at hi
  obtain ⟨j, _, rfl⟩ := hi
  rw [testBit_mask]; simp; omega
 rw [h1, h2, List.append_nil]

theorem ctz_form (v : Nat) (h0 : v ≠ 0) (h : v < 2 ^ 64) : ∃ m, v = 2 ^ Lib.ctz 64 v * (2 * m + 1) ∧ Lib.ctz 64 v < 64 := by
 obtain ⟨m, hm, hk⟩ := Lib.ctzFrom_spec 64 v (by omega) h
 have e : Lib.ctz 64 v = Lib.ctzFrom 64 v := by simp [Lib.ctz, h0]
 rw [e]
 exact ⟨m, hm, hk⟩

theorem and_pred (k m : Nat) : 2 ^ k * (2 * m + 1) &&& (2 ^ k * (2 * m + 1) - 1) = 2 ^ (k + 1) * m := by
 have hp : 0 < 2 ^ k := Nat.two_pow_pos k
 have e1 : 2 ^ k * (2 * m + 1) - 1 = 2 ^ k * (2 * m) + (2 ^ k - 1) := by
  rw [Nat.mul_add, Nat.mul_one]; omega
 rw [e1]
 apply Nat.eq_of_testBit_eq
 intro i
 have hl : (2 ^ k - 1) < 2 ^ k := by omega
 rw [Nat.testBit_and, Nat.testBit_two_pow_mul_add _ hl, Nat.testBit_two_pow_mul, Nat.testBit_two_pow_mul]
 by_cases hik : i < k
 ·have a1 : ¬ i ≥ k := by omega
  have a2 : ¬ i ≥ k + 1 := by omega
  simp [a1, a2]
 ·rw [if_neg hik]
  by_cases e : i = k
  ·subst e; simp [Nat.testBit_zero]; omega
  ·obtain ⟨d, rfl⟩ : ∃ d, i = k + (d + 1) := ⟨i - k - 1, by omega⟩
   have d1 : k + (d + 1) - k = d + 1 := by omega
   have d2 : k + (d + 1) - (k + 1) = d := by omega
   rw [d1, d2, Nat.testBit_succ, Nat.testBit_succ]
   have c1 : (2 * m + 1) / 2 = m := by omega
   have c2 : 2 * m / 2 = m := by omega
   rw [c1, c2]
   have g1 : k + (d + 1) ≥ k := by omega
   have g2 : k + (d + 1) ≥ k + 1 := by omega
   simp [g1, g2]

theorem testBit_form (k m i : Nat) : (2 ^ k * (2 * m + 1)).testBit i = (decide (i = k) || (decide (k < i) && m.testBit (i - (k + 1)))) := by
 rw [Nat.testBit_two_pow_mul]
 by_cases hik : i < k
 ·have a1 : ¬ i ≥ k := by omega
  have a2 : ¬ i = k := by omega
  have a3 : ¬ k < i := by omega
  simp [a1, a2, a3]
 ·by_cases e : i = k
  ·subst e; simp [Nat.testBit_zero]
  ·obtain ⟨d, rfl⟩ : ∃ d, i = k + (d + 1) := ⟨i - k - 1, by omega⟩
   have d1 : k + (d + 1) - k = d + 1 := by omega
   have d2 : k + (d + 1) - (k + 1) = d := by omega
   rw [d1, d2, Nat.testBit_succ]
   have c1 : (2 * m + 1) / 2 = m := by omega
   rw [c1]
   have g1 : k + (d + 1) ≥ k := by omega
   have g2 : k < k + (d + 1) := by omega
   simp [g1, g2]

/-- The first bit, then those of v & (v - 1). -/
theorem evs_cons (v : Nat) (h0 : v ≠ 0) (h : v < 2 ^ 64) : evs v = Lib.ctz 64 v :: evs (v &&& (v - 1)) := by
 obtain ⟨m, hm, hk⟩ := ctz_form v h0 h
 generalize Lib.ctz 64 v = k at hm hk
 have hb : ∀ i, v.testBit i = (decide (i = k) || (decide (k < i) && m.testBit (i - (k + 1)))) := fun i => by rw [hm]; exact testBit_form k m i
 have hb' : ∀ i, (v &&& (v - 1)).testBit i = (decide (k < i) && m.testBit (i - (k + 1))) := fun i => by
  rw [hm, and_pred, Nat.testBit_two_pow_mul]
  simp only [ge_iff_le, Nat.succ_le_iff]
 unfold evs
 have e : (64 : Nat) = k + (1 + (63 - k)) := by omega
 rw [e, List.range_add, List.filter_append, List.filter_append, List.range_add, List.map_append, List.filter_append, List.filter_append]
 have z1 : (List.range k).filter v.testBit = [] := by
  rw [List.filter_eq_nil_iff]; intro i hi; simp at hi; rw [hb]; simp; omega
 have z2 : (List.range k).filter (v &&& (v - 1)).testBit = [] := by
  rw [List.filter_eq_nil_iff]; intro i hi; simp at hi; rw [hb']; simp; omega
 have o1 : (List.map (k + ·) (List.range 1)).filter v.testBit = [k] := by
  have : v.testBit k = true := by rw [hb]; simp
  simp [List.range_one, this]
 have o2 : (List.map (k + ·) (List.range 1)).filter (v &&& (v - 1)).testBit = [] := by
  have : (v &&& (v - 1)).testBit k = false := by rw [hb']; simp
  simp [List.range_one, this]
 rw [z1, z2, o1, o2, List.nil_append, List.nil_append, List.nil_append, List.singleton_append]
 congr 1
 apply List.filter_congr
 intro i hi
 simp only [List.mem_map, List.mem_range] at hi
 obtain ⟨j, ⟨j', _, rfl⟩, rfl⟩ := hi
 rw [hb, hb']
 simp

end Go.Ab

namespace Go.Ab

/-- A pattern, as data. -/
inductive Pat where
 | node (k : Int) (pl mi : Nat) (nt : Bool) (mn mx : Int) (l : List Pat)
namespace Pat
def k : Pat → Int | node k _ _ _ _ _ _ => k
def pl : Pat → Nat | node _ p _ _ _ _ _ => p
def mi : Pat → Nat | node _ _ m _ _ _ _ => m
def nt : Pat → Bool | node _ _ _ b _ _ _ => b
def mn : Pat → Int | node _ _ _ _ x _ _ => x
def mx : Pat → Int | node _ _ _ _ _ x _ => x
def l : Pat → List Pat | node _ _ _ _ _ _ l => l
end Pat

def okSound (pl mi : Nat) : Bool := pl &&& mi == 0 && (pl ||| mi) / 16777216 == 0

/-- The error of a node alone. -/
def nodeE (p : Pat) : Int :=
 if p.k < 0 ∨ 6 < p.k then 2
 else if p.k ≠ 1 ∧ (p.pl ≠ 0 ∨ p.mi ≠ 0 ∨ p.nt = true) then 2
 else if p.k ≠ 3 ∧ p.k ≠ 4 ∧ p.k ≠ 5 ∧ p.l.length ≠ 0 then 2
 else if p.k ≠ 5 ∧ (p.mn ≠ 0 ∨ p.mx ≠ 0) then 2
 else if p.k = 5 ∧ (p.l.length ≠ 1 ∨ p.mn < 0 ∨ 32 < p.mn ∨ (p.mx ≠ -1 ∧ (p.mx < p.mn ∨ 32 < p.mx))) then 2
 else if okSound p.pl p.mi = true then 0 else 14

/-- The first error among the nodes that are still to be examined; f more may be. -/
def chk : Nat → List Pat → Int
 | _, [] => 0
 | 0, _ :: _ => 12
 | f + 1, p :: l => if nodeE p = 0 then chk f (p.l ++ l) else nodeE p
theorem chk_succ (f : Nat) (p : Pat) (l : List Pat) : chk (f + 1) (p :: l) = if nodeE p = 0 then chk f (p.l ++ l) else nodeE p := rfl
def chkP (p : Pat) : Int := chk 40 [p]

/-- The same, a node and then its parts. -/
def bindE (r : Nat × Int) (f : Nat → Nat × Int) : Nat × Int := if r.2 = 0 then f r.1 else r
mutual
def walkP : Pat → Nat → Nat × Int
 | .node k pl mi nt mn mx l, n => if n = 40 then (n, 12) else if nodeE (.node k pl mi nt mn mx l) = 0 then walkL l (n + 1) else (n, nodeE (.node k pl mi nt mn mx l))
def walkL : List Pat → Nat → Nat × Int
 | [], n => (n, 0)
 | p :: l, n => bindE (walkP p n) (walkL l)
end

theorem nodeE_vals (p : Pat) : nodeE p = 0 ∨ nodeE p = 2 ∨ nodeE p = 14 := by
 unfold nodeE
 repeat' split
 all_goals simp

mutual
theorem walkP_chk : ∀ (p : Pat) (n : Nat) (rest : List Pat), n ≤ 40 → ((walkP p n).1 ≤ 40 ∧ n ≤ (walkP p n).1) ∧ chk (40 - n) (p :: rest) = (if (walkP p n).2 = 0 then chk (40 - (walkP p n).1) rest else (walkP p n).2)
 | .node k pl mi nt mn mx l, n, rest, hn => by
  unfold walkP
  by_cases h : n = 40
  ·subst h
   rw [if_pos rfl]
   exact ⟨⟨by simp, by simp⟩, by simp [chk]⟩
  ·rw [if_neg h]
   obtain ⟨f, hf⟩ : ∃ f, 40 - n = f + 1 := ⟨39 - n, by omega⟩
   rw [hf]
   by_cases he : nodeE (.node k pl mi nt mn mx l) = 0
   ·rw [if_pos he]
    have := walkL_chk l (n + 1) rest (by omega)
    refine ⟨⟨this.1.1, by have := this.1.2; omega⟩, ?_⟩
    rw [chk_succ, if_pos he, ← this.2, show 40 - (n + 1) = f by omega]
    rfl
   ·rw [if_neg he]
    refine ⟨⟨hn, Nat.le_refl _⟩, ?_⟩
    rw [chk_succ, if_neg he, if_neg he]
theorem walkL_chk : ∀ (l : List Pat) (n : Nat) (rest : List Pat), n ≤ 40 → ((walkL l n).1 ≤ 40 ∧ n ≤ (walkL l n).1) ∧ chk (40 - n) (l ++ rest) = (if (walkL l n).2 = 0 then chk (40 - (walkL l n).1) rest else (walkL l n).2)
 | [], n, rest, hn => by simp [walkL, hn]
 | p :: l, n, rest, hn => by
  have h1 := walkP_chk p n (l ++ rest) hn
  rw [List.cons_append]
  unfold walkL bindE
  by_cases he : (walkP p n).2 = 0
  ·rw [if_pos he] at h1 ⊢
   have h2 := walkL_chk l (walkP p n).1 rest h1.1.1
   exact ⟨⟨h2.1.1, Nat.le_trans h1.1.2 h2.1.2⟩, h1.2.trans h2.2⟩
  ·rw [if_neg he] at h1 ⊢
   exact ⟨h1.1, by rw [h1.2, if_neg he]⟩
end
theorem walkP_zero (p : Pat) : (walkP p 0).2 = chkP p := by
 have h := (walkP_chk p 0 [] (by omega)).2
 unfold chkP
 rw [h]
 by_cases he : (walkP p 0).2 = 0
 ·rw [if_pos he, he]; cases 40 - (walkP p 0).1 <;> rfl
 ·rw [if_neg he]

/-- No more than the first f + 1 nodes are ever looked at. -/
theorem chk_take : ∀ (f : Nat) (l : List Pat) (m : Nat), f + 1 ≤ m → chk f (l.take m) = chk f l
 | f, [], m, _ => by simp
 | 0, p :: l, m, h => by
  obtain ⟨m, rfl⟩ : ∃ k, m = k + 1 := ⟨m - 1, by omega⟩
  rfl
 | f + 1, p :: l, m, h => by
  obtain ⟨m, rfl⟩ : ∃ k, m = k + 1 := ⟨m - 1, by omega⟩
  rw [List.take_succ_cons]
  rw [chk_succ, chk_succ]
  by_cases he : nodeE p = 0
  ·rw [if_pos he, if_pos he]
   have h1 := chk_take f (p.l ++ l) (p.l.length + m) (by omega)
   have h2 : (p.l ++ l).take (p.l.length + m) = p.l ++ l.take m := by
    rw [List.take_append]; simp [List.take_of_length_le]
   rw [← h1, h2]
  ·rw [if_neg he, if_neg he]
theorem chk_cut (f : Nat) (l rest : List Pat) (hf : f ≤ 40) : chk f (l.take 41 ++ rest) = chk f (l ++ rest) := by
 rw [← chk_take f (l.take 41 ++ rest) 41 (by omega), ← chk_take f (l ++ rest) 41 (by omega), List.take_append, List.take_append, List.take_take, List.length_take]
 congr 2
 by_cases h : l.length ≤ 41
 ·rw [Nat.min_eq_right h]
 ·rw [Nat.min_eq_left (by omega), show 41 - l.length = 0 by omega]

/-! ### Sizes -/

/-- How many nodes there are, but f at most. -/
def szW : Nat → List Pat → Nat
 | _, [] => 0
 | 0, _ :: _ => 0
 | f + 1, p :: l => szW f (p.l ++ l) + 1
def sizeP (p : Pat) : Nat := szW 41 [p]
mutual
def cntP : Pat → Nat → Nat
 | .node _ _ _ _ _ _ l, n => cntL l (n + 1)
def cntL : List Pat → Nat → Nat
 | [], n => n
 | p :: l, n => if n ≤ 40 then cntL l (cntP p n) else n
end
theorem szW_zero (l : List Pat) : szW 0 l = 0 := by cases l <;> rfl
mutual
theorem cntP_sz : ∀ (p : Pat) (n : Nat) (rest : List Pat), n ≤ 40 → (cntP p n ≤ 41 ∧ n < cntP p n) ∧ n + szW (41 - n) (p :: rest) = cntP p n + szW (41 - cntP p n) rest
 | .node k pl mi nt mn mx l, n, rest, hn => by
  unfold cntP
  obtain ⟨f, hf⟩ : ∃ f, 41 - n = f + 1 := ⟨40 - n, by omega⟩
  have h := cntL_sz l (n + 1) rest (by omega)
  refine ⟨⟨h.1.1, h.1.2⟩, ?_⟩
  rw [← h.2, hf, show 41 - (n + 1) = f by omega]
  show n + (szW f (l ++ rest) + 1) = _
  omega
theorem cntL_sz : ∀ (l : List Pat) (n : Nat) (rest : List Pat), n ≤ 41 → (cntL l n ≤ 41 ∧ n ≤ cntL l n) ∧ n + szW (41 - n) (l ++ rest) = cntL l n + szW (41 - cntL l n) rest
 | [], n, rest, hn => ⟨⟨hn, Nat.le_refl _⟩, rfl⟩
 | p :: l, n, rest, hn => by
  unfold cntL
  by_cases h : n ≤ 40
  ·rw [if_pos h]
   have h1 := cntP_sz p n (l ++ rest) h
   have h2 := cntL_sz l (cntP p n) rest h1.1.1
   exact ⟨⟨h2.1.1, by have := h1.1.2; have := h2.1.2; omega⟩, by rw [List.cons_append, h1.2, h2.2]⟩
  ·rw [if_neg h]
   obtain rfl : n = 41 := by omega
   exact ⟨⟨Nat.le_refl _, Nat.le_refl _⟩, by rw [Nat.sub_self, szW_zero, szW_zero]⟩
end
theorem cntP_zero (p : Pat) : cntP p 0 = sizeP p := by
 have h := (cntP_sz p 0 [] (by omega)).2
 have e : szW (41 - cntP p 0) [] = 0 := by cases 41 - cntP p 0 <;> rfl
 rw [e, Nat.sub_zero, Nat.zero_add, Nat.add_zero] at h
 exact h.symm
theorem szW_take : ∀ (f : Nat) (l : List Pat) (m : Nat), f ≤ m → szW f (l.take m) = szW f l
 | 0, l, m, _ => by rw [szW_zero, szW_zero]
 | f + 1, [], m, _ => by simp
 | f + 1, p :: l, m, h => by
  obtain ⟨m, rfl⟩ : ∃ k, m = k + 1 := ⟨m - 1, by omega⟩
  rw [List.take_succ_cons]
  show szW f _ + 1 = szW f _ + 1
  have h1 := szW_take f (p.l ++ l) (p.l.length + m) (by omega)
  have h2 : (p.l ++ l).take (p.l.length + m) = p.l ++ l.take m := by
   rw [List.take_append]; simp [List.take_of_length_le]
  rw [← h1, h2]
end Go.Ab

namespace Go.Ab

abbrev Bin2 := Nat → Nat → Bool
abbrev Wd := List (Nat × Nat)

/-- One relation, and then another one. -/
def comp (X Y : Bin2) : Bin2 := fun a c => (List.range 33).any fun b => X a b && Y b c
def idB (n : Nat) : Bin2 := fun a b => a == b && decide (a ≤ n)
def orB (X Y : Bin2) : Bin2 := fun a b => X a b || Y a b
def noB : Bin2 := fun _ _ => false
def powB (X : Bin2) (n : Nat) : Nat → Bin2
 | 0 => idB n
 | k + 1 => comp X (powB X n k)

/-- Places go on to places that are not before them, up to n. -/
def Mono (n : Nat) (X : Bin2) : Prop := ∀ a b, X a b = true → a ≤ b ∧ b ≤ n

theorem comp_iff {X Y : Bin2} {a c : Nat} : comp X Y a c = true ↔ ∃ b, b < 33 ∧ X a b = true ∧ Y b c = true := by
 simp only [comp, List.any_eq_true, List.mem_range, Bool.and_eq_true]
theorem idB_iff {n a b : Nat} : idB n a b = true ↔ a = b ∧ a ≤ n := by simp [idB]
theorem orB_iff {X Y : Bin2} {a b : Nat} : orB X Y a b = true ↔ X a b = true ∨ Y a b = true := by simp [orB]
theorem bin_ext {X Y : Bin2} (h : ∀ a b, X a b = true ↔ Y a b = true) : X = Y := by
 funext a b; exact Bool.eq_iff_iff.2 (h a b)

theorem Mono.id (n : Nat) : Mono n (idB n) := fun a b h => by rw [idB_iff] at h; omega
theorem Mono.no (n : Nat) : Mono n noB := fun a b h => by cases h
theorem Mono.comp {n : Nat} {X Y : Bin2} (h : Mono n X) (k : Mono n Y) : Mono n (comp X Y) := fun a c hc => by
 obtain ⟨b, _, h1, h2⟩ := comp_iff.1 hc
 have := h _ _ h1; have := k _ _ h2; omega
theorem Mono.or {n : Nat} {X Y : Bin2} (h : Mono n X) (k : Mono n Y) : Mono n (orB X Y) := fun a b hc => by
 rcases orB_iff.1 hc with hc | hc
 ·exact h _ _ hc
 ·exact k _ _ hc
theorem Mono.pow {n : Nat} {X : Bin2} (h : Mono n X) : ∀ k, Mono n (powB X n k)
 | 0 => Mono.id n
 | k + 1 => h.comp (Mono.pow h k)

theorem comp_assoc (X Y Z : Bin2) : comp (comp X Y) Z = comp X (comp Y Z) := by
 apply bin_ext; intro a d
 simp only [comp_iff]
 constructor
 ·rintro ⟨c, hc, ⟨b, hb, h1, h2⟩, h3⟩; exact ⟨b, hb, h1, c, hc, h2, h3⟩
 ·rintro ⟨b, hb, h1, c, hc, h2, h3⟩; exact ⟨c, hc, ⟨b, hb, h1, h2⟩, h3⟩
theorem comp_id {n : Nat} (hn : n ≤ 32) {X : Bin2} (h : Mono n X) : comp X (idB n) = X := by
 apply bin_ext; intro a c
 simp only [comp_iff, idB_iff]
 constructor
 ·rintro ⟨b, _, h1, rfl, _⟩; exact h1
 ·intro h1; have := h _ _ h1; exact ⟨c, by omega, h1, rfl, by omega⟩
theorem id_comp {n : Nat} (hn : n ≤ 32) {X : Bin2} (h : Mono n X) : comp (idB n) X = X := by
 apply bin_ext; intro a c
 simp only [comp_iff, idB_iff]
 constructor
 ·rintro ⟨b, _, ⟨rfl, _⟩, h1⟩; exact h1
 ·intro h1; have := h _ _ h1; exact ⟨a, by omega, ⟨rfl, by omega⟩, h1⟩
theorem pow_add {n : Nat} (hn : n ≤ 32) {X : Bin2} (h : Mono n X) (j : Nat) : ∀ k, powB X n (k + j) = comp (powB X n k) (powB X n j)
 | 0 => by rw [Nat.zero_add]; exact (id_comp hn (Mono.pow h j)).symm
 | k + 1 => by
  rw [show k + 1 + j = (k + j) + 1 by omega]
  show comp X _ = comp (comp X _) _
  rw [pow_add hn h j k, comp_assoc]
theorem pow_one {n : Nat} (hn : n ≤ 32) {X : Bin2} (h : Mono n X) : powB X n 1 = X := comp_id hn h
theorem pow_snoc {n : Nat} (hn : n ≤ 32) {X : Bin2} (h : Mono n X) (k : Nat) : powB X n (k + 1) = comp (powB X n k) X := by
 rw [pow_add hn h 1 k, pow_one hn h]

/-- The program's way: by squares. -/
def pwGo (n : Nat) : Nat → Nat → Bin2 → Bin2 → Bin2
 | 0, _, _, out => out
 | f + 1, k, x, out => if k = 0 then out else pwGo n f (k / 2) (comp x x) (if k % 2 = 1 then comp out x else out)
theorem pow_two {n : Nat} (hn : n ≤ 32) {X : Bin2} (h : Mono n X) : ∀ k, powB (comp X X) n k = powB X n (2 * k)
 | 0 => rfl
 | k + 1 => by
  show comp (comp X X) _ = _
  rw [pow_two hn h k, show 2 * (k + 1) = 2 * k + 1 + 1 by omega, comp_assoc]; rfl
/-! ### More times -/

/-- From lo to hi times. -/
def sumB (X : Bin2) (n lo : Nat) : Nat → Bin2
 | 0 => powB X n lo
 | e + 1 => orB (sumB X n lo e) (powB X n (lo + (e + 1)))
theorem sumB_iff {X : Bin2} {n lo : Nat} : ∀ {e a b : Nat}, sumB X n lo e a b = true ↔ ∃ j, j ≤ e ∧ powB X n (lo + j) a b = true
 | 0, a, b => ⟨fun h => ⟨0, Nat.le_refl _, h⟩, fun ⟨j, h1, h2⟩ => by obtain rfl : j = 0 := (by omega); exact h2⟩
 | e + 1, a, b => by
  show orB _ _ a b = true ↔ _
  rw [orB_iff, sumB_iff]
  constructor
  ·rintro (⟨j, h1, h2⟩ | h)
   ·exact ⟨j, by omega, h2⟩
   ·exact ⟨e + 1, Nat.le_refl _, h⟩
  ·rintro ⟨j, h1, h2⟩
   by_cases hj : j ≤ e
   ·exact .inl ⟨j, hj, h2⟩
   ·obtain rfl : j = e + 1 := by omega
    exact .inr h2
theorem Mono.sum {n : Nat} {X : Bin2} (h : Mono n X) (lo e : Nat) : Mono n (sumB X n lo e) := fun a b hh => by
 obtain ⟨j, _, h2⟩ := sumB_iff.1 hh
 exact Mono.pow h _ _ _ h2

/-- (X or nothing), e times, is X, up to e times. -/
theorem pow_orId {n : Nat} (hn : n ≤ 32) {X : Bin2} (h : Mono n X) : ∀ e, powB (orB X (idB n)) n e = sumB X n 0 e
 | 0 => rfl
 | e + 1 => by
  apply bin_ext; intro a c
  show comp _ _ a c = true ↔ _
  rw [comp_iff, sumB_iff]
  constructor
  ·rintro ⟨b, hb, h1, h2⟩
   rw [pow_orId hn h e, sumB_iff] at h2
   obtain ⟨j, hj, h2⟩ := h2
   rcases orB_iff.1 h1 with h1 | h1
   ·refine ⟨j + 1, by omega, ?_⟩
    rw [show 0 + (j + 1) = (0 + j) + 1 by omega]
    exact comp_iff.2 ⟨b, hb, h1, h2⟩
   ·obtain ⟨rfl, _⟩ := idB_iff.1 h1
    exact ⟨j, by omega, h2⟩
  ·rintro ⟨j, hj, h2⟩
   rw [Nat.zero_add] at h2
   cases j with
   | zero =>
    obtain ⟨rfl, ha⟩ := idB_iff.1 h2
    refine ⟨a, by omega, orB_iff.2 (.inr (idB_iff.2 ⟨rfl, ha⟩)), ?_⟩
    rw [pow_orId hn h e, sumB_iff]
    exact ⟨0, by omega, idB_iff.2 ⟨rfl, ha⟩⟩
   | succ j =>
    obtain ⟨b, hb, h3, h4⟩ := comp_iff.1 h2
    refine ⟨b, hb, orB_iff.2 (.inl h3), ?_⟩
    rw [pow_orId hn h e, sumB_iff]
    exact ⟨j, by omega, by rw [Nat.zero_add]; exact h4⟩

/-- A repeated pattern, as the program has it. -/
def repB (X : Bin2) (n lo e : Nat) : Bin2 := comp (powB X n lo) (powB (orB X (idB n)) n e)
theorem repB_sum {n : Nat} (hn : n ≤ 32) {X : Bin2} (h : Mono n X) (lo e : Nat) : repB X n lo e = sumB X n lo e := by
 apply bin_ext; intro a c
 unfold repB
 rw [pow_orId hn h, comp_iff, sumB_iff]
 constructor
 ·rintro ⟨b, hb, h1, h2⟩
  obtain ⟨j, hj, h2⟩ := sumB_iff.1 h2
  rw [Nat.zero_add] at h2
  exact ⟨j, hj, by rw [pow_add hn h]; exact comp_iff.2 ⟨b, hb, h1, h2⟩⟩
 ·rintro ⟨j, hj, h1⟩
  rw [pow_add hn h] at h1
  obtain ⟨b, hb, h2, h3⟩ := comp_iff.1 h1
  exact ⟨b, hb, h2, sumB_iff.2 ⟨j, hj, by rw [Nat.zero_add]; exact h3⟩⟩

/-- A way of k + 1 steps has one that goes nowhere, or comes far. -/
theorem pow_less {n : Nat} (hn : n ≤ 32) {X : Bin2} (h : Mono n X) : ∀ (k a b : Nat), powB X n (k + 1) a b = true → powB X n k a b = true ∨ a + (k + 1) ≤ b
 | 0, a, b, hh => by
  rw [pow_one hn h] at hh
  have := h _ _ hh
  by_cases e : a = b
  ·exact .inl (idB_iff.2 ⟨e, by omega⟩)
  ·exact .inr (by omega)
 | k + 1, a, c, hh => by
  obtain ⟨b, hb, h1, h2⟩ := comp_iff.1 hh
  rcases pow_less hn h k b c h2 with h3 | h3
  ·exact .inl (comp_iff.2 ⟨b, hb, h1, h3⟩)
  ·by_cases e : a = b
   ·subst e; exact .inl h2
   ·have := h _ _ h1
    exact .inr (by omega)
theorem pow_far {n : Nat} (hn : n ≤ 32) {X : Bin2} (h : Mono n X) {k a b : Nat} (hk : n ≤ k) (hh : powB X n (k + 1) a b = true) : powB X n k a b = true := by
 rcases pow_less hn h k a b hh with h1 | h1
 ·exact h1
 ·have := Mono.pow h _ _ _ hh; omega
/-- More than n times more add nothing. -/
theorem sum_far {n : Nat} (hn : n ≤ 32) {X : Bin2} (h : Mono n X) (lo : Nat) : ∀ e, n ≤ e → sumB X n lo e = sumB X n lo n := by
 intro e he
 obtain ⟨d, rfl⟩ : ∃ d, e = n + d := ⟨e - n, by omega⟩
 clear he
 induction d with
 | zero => rfl
 | succ d ih =>
  rw [← ih]
  apply bin_ext; intro a b
  show orB _ _ a b = true ↔ _
  rw [orB_iff]
  constructor
  ·rintro (h1 | h1)
   ·exact h1
   ·exact sumB_iff.2 ⟨n + d, Nat.le_refl _, pow_far hn h (by omega) h1⟩
  ·exact .inl
/-- If one time more adds nothing, then more times do not. -/
theorem sum_stable {n : Nat} (hn : n ≤ 32) {X : Bin2} (h : Mono n X) {lo e : Nat} (hs : sumB X n lo (e + 1) = sumB X n lo e) : ∀ m, e ≤ m → sumB X n lo m = sumB X n lo e := by
 intro m hm
 obtain ⟨d, rfl⟩ : ∃ d, m = e + d := ⟨m - e, by omega⟩
 clear hm
 have step : ∀ (j a c : Nat), j ≤ e → powB X n (lo + (j + 1)) a c = true → sumB X n lo e a c = true := fun j a c hj hh => by
  rw [← hs]; exact sumB_iff.2 ⟨j + 1, by omega, hh⟩
 have all : ∀ (d j a c : Nat), j ≤ e → powB X n (lo + (j + d)) a c = true → sumB X n lo e a c = true := by
  intro d
  induction d with
  | zero => exact fun j a c hj hh => sumB_iff.2 ⟨j, hj, hh⟩
  | succ d ih =>
   intro j a c hj hh
   rw [show lo + (j + (d + 1)) = (lo + (j + 1)) + d by omega, pow_add hn h] at hh
   obtain ⟨b, hb, h1, h2⟩ := comp_iff.1 hh
   obtain ⟨i, hi, h3⟩ := sumB_iff.1 (step j a b hj h1)
   refine ih i a c hi ?_
   rw [show lo + (i + d) = (lo + i) + d by omega, pow_add hn h]
   exact comp_iff.2 ⟨b, hb, h3, h2⟩
 apply bin_ext; intro a c
 rw [sumB_iff]
 constructor
 ·rintro ⟨j, hj, hh⟩
  exact all j 0 a c (by omega) (by rw [Nat.zero_add]; exact hh)
 ·intro hh
  obtain ⟨j, hj, h1⟩ := sumB_iff.1 hh
  exact ⟨j, by omega, h1⟩

/-! ### Patterns -/

def sat (s c : Nat × Nat) : Bool := (c.1 &&& s.1 == c.1) && (c.2 &&& s.2 == c.2)
def soundB (w : Wd) (c : Nat × Nat) (nt : Bool) : Bin2 := fun a b => b == a + 1 && decide (a < w.length) && (sat (w.getD a (0, 0)) c != nt)
def edgeB (a : Nat) : Bin2 := fun x y => x == a && y == a
/-- How many more times there may be. -/
def extra (n : Nat) (mn mx : Int) : Nat := if mx < 0 then n else (mx - mn).toNat
mutual
/-- What a pattern matches in a word. -/
def relP (w : Wd) : Pat → Bin2
 | .node k pl mi nt mn mx l =>
  if k = 1 then soundB w (pl, mi) nt
  else if k = 2 then edgeB 0
  else if k = 6 then edgeB w.length
  else if k = 4 then altB w l
  else if k = 5 then oneB w l mn mx
  else seqB w l (idB w.length)
def seqB (w : Wd) : List Pat → Bin2 → Bin2
 | [], X => X
 | p :: l, X => seqB w l (comp X (relP w p))
def altB (w : Wd) : List Pat → Bin2
 | [] => noB
 | p :: l => orB (relP w p) (altB w l)
def oneB (w : Wd) : List Pat → Int → Int → Bin2
 | [], _, _ => noB
 | p :: _, mn, mx => repB (relP w p) w.length mn.toNat (extra w.length mn mx)
end
theorem Mono.sound (w : Wd) (c : Nat × Nat) (nt : Bool) : Mono w.length (soundB w c nt) := fun a b h => by
 simp only [soundB, Bool.and_eq_true, beq_iff_eq, decide_eq_true_eq] at h
 omega
theorem Mono.edge {n a : Nat} (h : a ≤ n) : Mono n (edgeB a) := fun x y hh => by
 simp only [edgeB, Bool.and_eq_true, beq_iff_eq] at hh
 omega
mutual
theorem relP_mono (w : Wd) : ∀ p, Mono w.length (relP w p)
 | .node k pl mi nt mn mx l => by
  unfold relP
  split
  ·exact Mono.sound _ _ _
  ·split
   ·exact Mono.edge (Nat.zero_le _)
   ·split
    ·exact Mono.edge (Nat.le_refl _)
    ·split
     ·exact altB_mono w l
     ·split
      ·exact oneB_mono w l mn mx
      ·exact seqB_mono w l _ (Mono.id _)
theorem seqB_mono (w : Wd) : ∀ (l : List Pat) (X : Bin2), Mono w.length X → Mono w.length (seqB w l X)
 | [], _, h => by unfold seqB; exact h
 | p :: l, X, h => by unfold seqB; exact seqB_mono w l _ (h.comp (relP_mono w p))
theorem altB_mono (w : Wd) : ∀ (l : List Pat), Mono w.length (altB w l)
 | [] => by unfold altB; exact Mono.no _
 | p :: l => by unfold altB; exact (relP_mono w p).or (altB_mono w l)
theorem oneB_mono (w : Wd) : ∀ (l : List Pat) (mn mx : Int), Mono w.length (oneB w l mn mx)
 | [], _, _ => by unfold oneB; exact Mono.no _
 | p :: _, mn, mx => by unfold oneB repB; exact (Mono.pow (relP_mono w p) _).comp (Mono.pow ((relP_mono w p).or (Mono.id _)) _)
end
theorem seqB_snoc (w : Wd) (p : Pat) : ∀ (l : List Pat) (X : Bin2), seqB w (l ++ [p]) X = comp (seqB w l X) (relP w p)
 | [], X => by simp [seqB]
 | q :: l, X => by rw [List.cons_append]; unfold seqB; exact seqB_snoc w p l _
theorem orB_assoc (X Y Z : Bin2) : orB (orB X Y) Z = orB X (orB Y Z) := by funext a b; simp [orB, Bool.or_assoc]
theorem orB_no (X : Bin2) : orB X noB = X := by funext a b; simp [orB, noB]
theorem no_orB (X : Bin2) : orB noB X = X := by funext a b; simp [orB, noB]
theorem altB_snoc (w : Wd) (p : Pat) : ∀ (l : List Pat), altB w (l ++ [p]) = orB (altB w l) (relP w p)
 | [] => by simp [altB, orB_no, no_orB]
 | q :: l => by rw [List.cons_append]; unfold altB; rw [altB_snoc w p l, orB_assoc]
end Go.Ab

namespace Go.Ab

/-- Bits taken away (of 32). -/
def andn (a b : Nat) : Nat := a &&& (4294967295 ^^^ b)
theorem ones32 (i : Nat) : (4294967295 : Nat).testBit i = decide (i < 32) := Nat.testBit_two_pow_sub_one 32 i
theorem high32 {a : Nat} (h : a < 4294967296) {i : Nat} (hi : 32 ≤ i) : a.testBit i = false :=
 Nat.testBit_lt_two_pow (Nat.lt_of_lt_of_le h (by
  have := Nat.pow_le_pow_right (show 0 < 2 by decide) hi
  simpa using this))
theorem andn_bit {a : Nat} (b : Nat) (ha : a < 4294967296) (i : Nat) : (andn a b).testBit i = (a.testBit i && !b.testBit i) := by
 unfold andn
 rw [Nat.testBit_and, Nat.testBit_xor, ones32]
 by_cases hi : i < 32
 ·simp [hi]
 ·rw [high32 ha (by omega)]; rfl
theorem lt32_of {a : Nat} (h : ∀ i, 32 ≤ i → a.testBit i = false) : a < 4294967296 :=
 Nat.lt_pow_two_of_testBit (n := 32) a h
theorem andn_lt {a b : Nat} (ha : a < 4294967296) : andn a b < 4294967296 := lt32_of fun i hi => by rw [andn_bit b ha, high32 ha hi]; rfl

/-- A sound in which some features are as in another one. -/
def mixS (s f : Nat × Nat) (m : Nat) : Nat × Nat := (andn s.1 m ||| (f.1 &&& m), andn s.2 m ||| (f.2 &&& m))
def getS (s : Nat × Nat) (f : Nat) : Int := if s.1.testBit f = true then 1 else if s.2.testBit f = true then -1 else 0
def putS (s : Nat × Nat) (f : Nat) (v : Int) : Nat × Nat := (andn s.1 (2 ^ f) ||| (if v = 1 then 2 ^ f else 0), andn s.2 (2 ^ f) ||| (if v = -1 then 2 ^ f else 0))
def lt32 (s : Nat × Nat) : Prop := s.1 < 4294967296 ∧ s.2 < 4294967296
def okS (s : Nat × Nat) : Bool := okSound s.1 s.2

theorem mix_bit1 {s : Nat × Nat} (f : Nat × Nat) (m : Nat) (hs : lt32 s) (i : Nat) : (mixS s f m).1.testBit i = if m.testBit i = true then f.1.testBit i else s.1.testBit i := by
 unfold mixS
 simp only [Nat.testBit_or, Nat.testBit_and, andn_bit m hs.1]
 cases m.testBit i <;> simp
theorem mix_bit2 {s : Nat × Nat} (f : Nat × Nat) (m : Nat) (hs : lt32 s) (i : Nat) : (mixS s f m).2.testBit i = if m.testBit i = true then f.2.testBit i else s.2.testBit i := by
 unfold mixS
 simp only [Nat.testBit_or, Nat.testBit_and, andn_bit m hs.2]
 cases m.testBit i <;> simp
theorem mix_lt {s f : Nat × Nat} (m : Nat) (hs : lt32 s) (hf : lt32 f) : lt32 (mixS s f m) :=
 ⟨lt32_of fun i hi => by rw [mix_bit1 f m hs, high32 hf.1 hi, high32 hs.1 hi]; simp, lt32_of fun i hi => by rw [mix_bit2 f m hs, high32 hf.2 hi, high32 hs.2 hi]; simp⟩
theorem put_bit1 {s : Nat × Nat} (f : Nat) (v : Int) (hs : lt32 s) (i : Nat) : (putS s f v).1.testBit i = if i = f then decide (v = 1) else s.1.testBit i := by
 unfold putS
 simp only [Nat.testBit_or, andn_bit (2 ^ f) hs.1, Nat.testBit_two_pow]
 by_cases h : i = f
 ·subst h
  by_cases hv : v = 1
  ·simp [hv]
  ·simp [hv]
 ·have h' : ¬ f = i := fun e => h e.symm
  by_cases hv : v = 1
  ·simp [hv, h, h']
  ·simp [hv, h, h']
theorem put_bit2 {s : Nat × Nat} (f : Nat) (v : Int) (hs : lt32 s) (i : Nat) : (putS s f v).2.testBit i = if i = f then decide (v = -1) else s.2.testBit i := by
 unfold putS
 simp only [Nat.testBit_or, andn_bit (2 ^ f) hs.2, Nat.testBit_two_pow]
 by_cases h : i = f
 ·subst h
  by_cases hv : v = -1
  ·simp [hv]
  ·simp [hv]
 ·have h' : ¬ f = i := fun e => h e.symm
  by_cases hv : v = -1
  ·simp [hv, h, h']
  ·simp [hv, h, h']
theorem pair_ext {a b : Nat × Nat} (h1 : ∀ i, a.1.testBit i = b.1.testBit i) (h2 : ∀ i, a.2.testBit i = b.2.testBit i) : a = b :=
 Prod.ext (Nat.eq_of_testBit_eq h1) (Nat.eq_of_testBit_eq h2)

/-- What is valid, feature by feature. -/
theorem okS_iff {s : Nat × Nat} (hs : lt32 s) : okS s = true ↔ ∀ i, i < 32 → ¬ (s.1.testBit i = true ∧ s.2.testBit i = true) ∧ ((s.1.testBit i = true ∨ s.2.testBit i = true) → i < 24) := by
 unfold okS okSound
 rw [Bool.and_eq_true, beq_iff_eq, beq_iff_eq]
 constructor
 ·rintro ⟨h1, h2⟩ i hi
  refine ⟨fun ⟨q1, q2⟩ => ?_, fun h => ?_⟩
  ·have := congrArg (fun x => x.testBit i) h1
   simp [q1, q2] at this
  ·apply Nat.lt_of_not_le
   intro h24
   have h3 : (s.1 ||| s.2) < 2 ^ 24 := by
    have h4 : (s.1 ||| s.2) < 16777216 := by omega
    simpa using h4
   have h5 := Nat.testBit_lt_two_pow (Nat.lt_of_lt_of_le h3 (Nat.pow_le_pow_right (show 0 < 2 by decide) h24))
   rw [Nat.testBit_or] at h5
   rcases h with h | h <;> simp [h] at h5
 ·intro h
  have hb : ∀ i, s.1.testBit i = true ∨ s.2.testBit i = true → i < 24 := fun i hi => by
   apply (h i ?_).2 hi
   apply Nat.lt_of_not_le
   intro h32
   rw [high32 hs.1 h32, high32 hs.2 h32] at hi
   simp at hi
  refine ⟨Nat.eq_of_testBit_eq fun i => ?_, ?_⟩
  ·rw [Nat.testBit_and, Nat.zero_testBit]
   cases h1 : s.1.testBit i
   ·rfl
   ·cases h2 : s.2.testBit i
    ·rfl
    ·have hi := hb i (.inl h1)
     exact absurd ⟨h1, h2⟩ (h i (by omega)).1
  ·have h3 : (s.1 ||| s.2) < 2 ^ 24 := Nat.lt_pow_two_of_testBit _ fun i hi => by
    rw [Nat.testBit_or]
    cases h1 : s.1.testBit i
    ·cases h2 : s.2.testBit i
     ·rfl
     ·have := hb i (.inr h2); omega
    ·have := hb i (.inl h1); omega
   have h4 : (s.1 ||| s.2) < 16777216 := by simpa using h3
   omega
theorem okS_bits {s : Nat × Nat} (hs : lt32 s) (h : okS s = true) (i : Nat) : ¬ (s.1.testBit i = true ∧ s.2.testBit i = true) ∧ (24 ≤ i → s.1.testBit i = false ∧ s.2.testBit i = false) := by
 rw [okS_iff hs] at h
 by_cases hi : i < 32
 ·refine ⟨(h i hi).1, fun h24 => ?_⟩
  have h2 := (h i hi).2
  constructor
  ·cases h1 : s.1.testBit i
   ·rfl
   ·have := h2 (.inl h1); omega
  ·cases h1 : s.2.testBit i
   ·rfl
   ·have := h2 (.inr h1); omega
 ·have e1 := high32 hs.1 (show 32 ≤ i by omega)
  have e2 := high32 hs.2 (show 32 ≤ i by omega)
  exact ⟨fun ⟨q, _⟩ => (by rw [e1] at q; cases q), fun _ => ⟨e1, e2⟩⟩
/-! ### One feature after the other -/
theorem mod_bit (m f i : Nat) : (m % 2 ^ f).testBit i = (decide (i < f) && m.testBit i) := Nat.testBit_mod_two_pow m f i
theorem mix_none {s : Nat × Nat} (f : Nat × Nat) (hs : lt32 s) : mixS s f 0 = s :=
 pair_ext (fun i => by rw [mix_bit1 f 0 hs]; simp) (fun i => by rw [mix_bit2 f 0 hs]; simp)
theorem get_one {s : Nat × Nat} {f : Nat} : decide (getS s f = 1) = s.1.testBit f := by
 unfold getS
 cases s.1.testBit f
 ·cases s.2.testBit f <;> simp
 ·simp
theorem get_minus {s : Nat × Nat} (hs : lt32 s) (h : okS s = true) {f : Nat} : decide (getS s f = -1) = s.2.testBit f := by
 unfold getS
 have := (okS_bits hs h f).1
 cases h1 : s.1.testBit f
 ·cases s.2.testBit f <;> simp
 ·cases h2 : s.2.testBit f
  ·simp
  ·exact absurd ⟨h1, h2⟩ this
/-- The next feature. -/
theorem mix_step {s f : Nat × Nat} (m k : Nat) (hs : lt32 s) (hf : lt32 f) (hok : okS f = true) :
  mixS s f (m % 2 ^ (k + 1)) = if m.testBit k = true then putS (mixS s f (m % 2 ^ k)) k (getS f k) else mixS s f (m % 2 ^ k) := by
 by_cases hm : m.testBit k = true
 ·rw [if_pos hm]
  refine pair_ext (fun i => ?_) (fun i => ?_)
  ·rw [put_bit1 _ _ (mix_lt _ hs hf), mix_bit1 f _ hs, mix_bit1 f _ hs, mod_bit, mod_bit, get_one]
   by_cases hi : i = k
   ·subst hi; simp [hm]
   ·have : decide (i < k + 1) = decide (i < k) := by rw [decide_eq_decide]; omega
    rw [if_neg hi, this]
  ·rw [put_bit2 _ _ (mix_lt _ hs hf), mix_bit2 f _ hs, mix_bit2 f _ hs, mod_bit, mod_bit, get_minus hf hok]
   by_cases hi : i = k
   ·subst hi; simp [hm]
   ·have : decide (i < k + 1) = decide (i < k) := by rw [decide_eq_decide]; omega
    rw [if_neg hi, this]
 ·rw [if_neg hm]
  have e : ∀ i, (decide (i < k + 1) && m.testBit i) = (decide (i < k) && m.testBit i) := fun i => by
   by_cases hi : i = k
   ·subst hi
    have : m.testBit i = false := by simpa using hm
    simp [this]
   ·have : decide (i < k + 1) = decide (i < k) := by rw [decide_eq_decide]; omega
    rw [this]
  refine pair_ext (fun i => ?_) (fun i => ?_)
  ·rw [mix_bit1 f _ hs, mix_bit1 f _ hs, mod_bit, mod_bit, e]
  ·rw [mix_bit2 f _ hs, mix_bit2 f _ hs, mod_bit, mod_bit, e]
theorem mod_24 {m : Nat} (h : m < 16777216) : m % 2 ^ 24 = m := Nat.mod_eq_of_lt (by simpa using h)

/-! ### Conditions -/
def satS (s c : Nat × Nat) : Bool := c.1 &&& s.1 == c.1 && c.2 &&& s.2 == c.2
theorem sub_iff {a b : Nat} : a &&& b = a ↔ ∀ i, a.testBit i = true → b.testBit i = true := by
 constructor
 ·intro h i hi
  have := congrArg (fun x => x.testBit i) h
  simp [hi] at this
  exact this
 ·intro h
  refine Nat.eq_of_testBit_eq fun i => ?_
  rw [Nat.testBit_and]
  cases h1 : a.testBit i
  ·rfl
  ·rw [h i h1]; rfl
theorem andn_zero {a b : Nat} (ha : a < 4294967296) : andn a b = 0 ↔ a &&& b = a := by
 rw [sub_iff]
 constructor
 ·intro h i hi
  have := congrArg (fun x => x.testBit i) h
  simp only [andn_bit b ha, Nat.zero_testBit, hi, Bool.true_and] at this
  simpa using this
 ·intro h
  refine Nat.eq_of_testBit_eq fun i => ?_
  rw [andn_bit b ha, Nat.zero_testBit]
  cases h1 : a.testBit i
  ·rfl
  ·rw [h i h1]; rfl
theorem satS_get {s c : Nat × Nat} (hs : lt32 s) (hc : lt32 c) (h1 : okS s = true) (h2 : okS c = true) : satS s c = true ↔ ∀ f, f < 24 → getS c f ≠ 0 → getS s f = getS c f := by
 unfold satS
 rw [Bool.and_eq_true, beq_iff_eq, beq_iff_eq, sub_iff, sub_iff]
 constructor
 ·rintro ⟨a1, a2⟩ f _ hg
  have b1 := a1 f; have b2 := a2 f
  have e := (okS_bits hs h1 f).1
  unfold getS at hg ⊢
  by_cases q1 : c.1.testBit f = true
  ·rw [if_pos q1, if_pos (b1 q1)]
  ·rw [if_neg q1] at hg ⊢
   by_cases q2 : c.2.testBit f = true
   ·rw [if_pos q2, if_neg (fun h => e ⟨h, b2 q2⟩), if_pos (b2 q2)]
   ·rw [if_neg q2] at hg; exact absurd rfl hg
 ·intro h
  have key : ∀ f, (c.1.testBit f = true → s.1.testBit f = true) ∧ (c.2.testBit f = true → s.2.testBit f = true) := fun f => by
   have ec := okS_bits hc h2 f
   by_cases hf : f < 24
   ·have hh := h f hf
    unfold getS at hh
    refine ⟨fun q => ?_, fun q => ?_⟩
    ·rw [if_pos q] at hh
     have := hh (by decide)
     by_cases q2 : s.1.testBit f = true
     ·exact q2
     ·rw [if_neg q2] at this
      split at this <;> cases this
    ·have q1 : ¬ c.1.testBit f = true := fun q1 => ec.1 ⟨q1, q⟩
     rw [if_neg q1, if_pos q] at hh
     have := hh (by decide)
     by_cases q2 : s.2.testBit f = true
     ·exact q2
     ·rw [if_neg q2] at this
      split at this <;> cases this
   ·obtain ⟨e1, e2⟩ := ec.2 (by omega)
    exact ⟨fun q => (by rw [e1] at q; cases q), fun q => (by rw [e2] at q; cases q)⟩
  exact ⟨fun i => (key i).1, fun i => (key i).2⟩
end Go.Ab

namespace Go.Ab
open Go.RowKit
theorem pq : (∀ (l : List Value) (i : Nat) (a : Value), l.toArray.setIfInBounds i a = (l.set i a).toArray) ∧ (∀ (x : Value) (l : List Value) (a : Value), (x :: l).set 0 a = a :: l) ∧ (∀ (x : Value) (l : List Value) (i : Nat) (a : Value), (x :: l).set (i + 1) a = x :: l.set i a) :=
 ⟨fun _ _ _ => List.setIfInBounds_toArray .., fun _ _ _ => rfl, fun _ _ _ _ => rfl⟩
theorem tkH {P : Program} {md : Region.Mode} {ops : Array Oper} {Q : Exit → Act → World → Prop} {S : World → Prop} {i d : Nat} {oi : Oper} {v : Value} {fuel : Nat} {listed : Array Bool} {a : Act} {w : World} (hi : ops[i]? = some oi)
  (hy : YieldsIf P ops S oi v a) (hS : S w) (h : wpAnyH P md ops Q S fuel (listed.setIfInBounds i true) (a.put (some d) v) w)
  (hs : Region.noSelect ops = true := by kernel_rfl) (hf : Region.free md ops listed i = true := by kernel_rfl) (hr : (Region.ready md ops listed).contains i = true := by kernel_rfl) (hd : oi.dst = some d := by rfl)
  (hQ : ∀ c a w, Q (.panic c) (a.put (some d) v) w → Q (.panic c) a w := by exact fun _ _ _ h => h) : wpAnyH P md ops Q S (fuel + 1) listed a w :=
 wpAnyH_take hi hs hf hr (by rw [hd]; exact hQ) hy hS (by rw [hd]; exact h)
end Go.Ab

namespace Go.Ab
open Go.RowKit

/-- All blocks of A but those in S lie in B as they lay; the streams are as they were. -/
structure Turn (S : Nat → Prop) (A B : World) : Prop where
 os : B.os = A.os
 tape : B.tape = A.tape
 output : B.output = A.output
 size : A.heap.size ≤ B.heap.size
 block : ∀ b, b < A.heap.size → ¬ S b → B.heap[b]? = A.heap[b]?

theorem Turn.refl (S : Nat → Prop) (A : World) : Turn S A A := ⟨rfl, rfl, rfl, Nat.le_refl _, fun _ _ _ => rfl⟩
theorem Turn.trans {S : Nat → Prop} {A B C : World} (h : Turn S A B) (k : Turn S B C) : Turn S A C :=
 ⟨k.os.trans h.os, k.tape.trans h.tape, k.output.trans h.output, Nat.le_trans h.size k.size,
  fun b hb hS => (k.block b (Nat.lt_of_lt_of_le hb h.size) hS).trans (h.block b hb hS)⟩
theorem Turn.mono {S T : Nat → Prop} {A B : World} (h : Turn S A B) (hst : ∀ b, b < A.heap.size → S b → T b) : Turn T A B :=
 ⟨h.os, h.tape, h.output, h.size, fun b hb hT => h.block b hb fun hs => hT (hst b hb hs)⟩
theorem Turn.heap {S : Nat → Prop} {A B : World} (h : Turn S A B) {b : Nat} {o : Obj} (hb : A.heap[b]? = some o) (hS : ¬ S b) : B.heap[b]? = some o :=
 (h.block b (Array.getElem?_eq_some_iff.1 hb).1 hS).trans hb
theorem Turn.cell {S : Nat → Prop} {A B : World} (h : Turn S A B) {p : Addr} (hb : p.block < A.heap.size) (hS : ¬ S p.block) : B.cell? p = A.cell? p :=
 World.cell?_of_block (w := A) (h.block p.block hb hS)
theorem Turn.cell_some {S : Nat → Prop} {A B : World} (h : Turn S A B) {p : Addr} {v : Value} (hc : A.cell? p = some v) (hS : ¬ S p.block) : B.cell? p = some v := by
 have hb : p.block < A.heap.size := by
  apply Nat.lt_of_not_le; intro hle
  simp [World.cell?, Array.getElem?_eq_none hle] at hc
 rw [h.cell hb hS]; exact hc
theorem Turn.frozen {S : Nat → Prop} {A B : World} (h : Turn S A B) {p : Addr} (hb : p.block < A.heap.size) (hS : ¬ S p.block) : B.frozen? p = A.frozen? p :=
 World.frozen?_of_block (w := A) (h.block p.block hb hS)
theorem Turn.alloc {S : Nat → Prop} {A B : World} (h : Turn S A B) (o : Obj) : Turn S A (B.alloc o) :=
 h.trans ⟨rfl, rfl, rfl, by simp, fun b hb _ => Below.heap_alloc _ _ _ hb⟩
theorem Turn.drew {S : Nat → Prop} {A B : World} (h : Turn S A B) : Turn S A B.drew := ⟨h.os, h.tape, h.output, h.size, h.block⟩
theorem Turn.drewN {S : Nat → Prop} {A B : World} (h : Turn S A B) (n : Nat) : Turn S A (B.drewN n) := ⟨h.os, h.tape, h.output, h.size, h.block⟩
theorem Turn.setCell {S : Nat → Prop} {A B : World} (h : Turn S A B) {p : Addr} (hp : A.heap.size ≤ p.block ∨ S p.block) (u : Value) : Turn S A (B.setCell p u) :=
 ⟨h.os, h.tape, h.output, by simpa [World.setCell] using h.size, fun b hb hS => by
  rw [Below.heap_setCell _ _ _ _ (by rintro rfl; rcases hp with hp | hp; omega; exact hS hp)]
  exact h.block b hb hS⟩
theorem Turn.set1 (A : World) (b o : Nat) (v : Value) : Turn (fun x => x = b) A (A.setCell ⟨b, o, none⟩ v) := (Turn.refl (fun x => x = b) A).setCell (p := ⟨b, o, none⟩) (.inr rfl) v
theorem Turn.putObj {S : Nat → Prop} {A B : World} (h : Turn S A B) {r : Nat} (hp : A.heap.size ≤ r ∨ S r) (o : Obj) : Turn S A (B.putObj r o) :=
 ⟨h.os, h.tape, h.output, by simpa using h.size, fun b hb hS => by
  rw [World.putObj_heap_other (by rintro rfl; rcases hp with hp | hp; omega; exact hS hp)]
  exact h.block b hb hS⟩
theorem Turn.below {S : Nat → Prop} {A B : World} (h : Turn S A B) (hS : ∀ b, b < A.heap.size → ¬ S b) : Below A.heap.size A B :=
 ⟨h.os, h.tape, h.output, h.size, fun b hb => h.block b hb (hS b hb)⟩
theorem Turn.grown {S : Nat → Prop} {A B C : World} {row : Option Nat} (h : Turn S A B) (hg : B.grownBy C row) (hr : ∀ k, row = some k → A.heap.size ≤ k ∨ S k) : Turn S A C :=
 ⟨hg.os.trans h.os, hg.tape.trans h.tape, hg.output.trans h.output, Nat.le_trans h.size hg.size, fun b hb hS => by
  rw [hg.block b (Nat.lt_of_lt_of_le hb h.size) (fun e => by rcases hr b e.symm with hh | hh; omega; exact hS hh)]
  exact h.block b hb hS⟩

/-- Nothing that was there has turned. -/
abbrev Ext (A B : World) : Prop := Turn (fun _ => False) A B
theorem Ext.of {S : Nat → Prop} {A B : World} (h : Ext A B) : Turn S A B := h.mono fun _ _ h => h.elim
theorem Ext.keep {A B : World} (h : Ext A B) {b : Nat} {o : Obj} (hb : A.heap[b]? = some o) : B.heap[b]? = some o := Turn.heap h hb (fun h => h)

/-- Two steps: what the second turns lies beyond w, or was turned by the first. -/
theorem Turn.after {S T : Nat → Prop} {w A B : World} (h : Turn S w A) (k : Turn T A B) (hT : ∀ b, b < w.heap.size → T b → S b) : Turn S w B :=
 ⟨k.os.trans h.os, k.tape.trans h.tape, k.output.trans h.output, Nat.le_trans h.size k.size,
  fun b hb hS => (k.block b (Nat.lt_of_lt_of_le hb h.size) fun ht => hS (hT b hb ht)).trans (h.block b hb hS)⟩

theorem ret_bool {a b : Bool} (h : a = b) : Ending.returned (.bool a) = .returned (.bool b) := by rw [h]
theorem ret_int {k : IntKind} {a b : Int} (h : a = b) : Ending.returned (.int k a) = .returned (.int k b) := by rw [h]
theorem new_at {A : World} {n : Nat} {o : Obj} (h : n = A.heap.size) : (A.alloc o).heap[n]? = some o := by subst h; exact World.alloc_heap_new _ _
theorem new_keep {A : World} {n : Nat} {o o' : Obj} (h : A.heap[n]? = some o') : (A.alloc o).heap[n]? = some o' :=
 (Below.heap_alloc _ _ _ (Array.getElem?_eq_some_iff.1 h).1).trans h
theorem drew_keep {A : World} {n : Nat} {o : Obj} (h : A.heap[n]? = some o) : A.drew.heap[n]? = some o := h
theorem set_keep {A : World} {n : Nat} {a : Addr} {v : Value} {o : Obj} (h : A.heap[n]? = some o) (hn : n ≠ a.block) : (A.setCell a v).heap[n]? = some o :=
 (Below.heap_setCell _ _ _ _ hn).trans h

theorem wide_fn (f : FuncId) : Fence.wide.fn f = True := rfl
theorem wide_depth : Fence.wide.depth = none := rfl

/-! ### The marks among the deferred calls -/

/-- Every deferred call is the mark of a loop whose block of calls lies empty, at or beyond base; no block twice. -/
def Marks (base : Nat) : List Deferred → World → Prop
 | [], _ => True
 | d :: ds, w => ∃ r, base ≤ r ∧ d = { target := .collected r, args := #[] } ∧ w.heap[r]? = some (.deferred (some [])) ∧ (∀ e ∈ ds, e.target ≠ .collected r) ∧ Marks base ds w

theorem Marks.keep {base : Nat} {S : Nat → Prop} : ∀ {ds : List Deferred} {A B : World}, Marks base ds A → Turn S A B → (∀ b, S b → ∀ o, A.heap[b]? = some o → o.isCells = true) → Marks base ds B
 | [], _, _, _, _, _ => trivial
 | d :: ds, A, B, ⟨r, h1, h2, h3, h4, h5⟩, ht, hS =>
  ⟨r, h1, h2, ht.heap h3 (fun hs => by have := hS r hs _ h3; simp [Obj.isCells] at this), h4, h5.keep ht hS⟩

/-- Behind turns of blocks that are not among the marks'. -/
theorem Marks.keep' {base : Nat} {S : Nat → Prop} : ∀ {ds : List Deferred} {A B : World}, Marks base ds A → Turn S A B → (∀ b, S b → ∀ e ∈ ds, e.target ≠ .collected b) → Marks base ds B
 | [], _, _, _, _, _ => trivial
 | d :: ds, A, B, ⟨r, h1, h2, h3, h4, h5⟩, ht, hS =>
  ⟨r, h1, h2, ht.heap h3 (fun hs => hS r hs d (List.mem_cons_self ..) (by rw [h2])), h4, h5.keep' ht (fun b hb e he => hS b hb e (List.mem_cons_of_mem _ he))⟩

theorem Marks.lt {base : Nat} : ∀ {ds : List Deferred} {A : World}, Marks base ds A → ∀ e ∈ ds, ∀ r, e.target = .collected r → r < A.heap.size
 | [], _, _, _, he, _, _ => by cases he
 | d :: ds, A, ⟨r, h1, h2, h3, h4, h5⟩, e, he, q, hq => by
  rcases List.mem_cons.1 he with rfl | he
  ·rw [h2] at hq; simp at hq; subst hq; exact (Array.getElem?_eq_some_iff.1 h3).1
  ·exact h5.lt e he q hq

theorem Marks.keepC {base N : Nat} {S : Nat → Prop} {ds : List Deferred} {A B : World} (h : Marks base ds A) (hN : ∀ e ∈ ds, ∀ r, e.target = .collected r → r < N) (ht : Turn S A B)
  (hS : ∀ b, S b → N ≤ b ∨ A.heap.size ≤ b ∨ ∃ o, A.heap[b]? = some o ∧ o.isCells = true) : Marks base ds B := by
 have aux : ∀ (ds : List Deferred), (∀ e ∈ ds, ∀ r, e.target = .collected r → r < N) → Marks base ds A → Marks base ds B := by
  intro ds
  induction ds with
  | nil => intro _ _; trivial
  | cons d ds ih =>
   rintro hN ⟨r, h1, h2, h3, h4, h5⟩
   refine ⟨r, h1, h2, ht.heap h3 (fun hs => ?_), h4, ih (fun e he => hN e (List.mem_cons_of_mem _ he)) h5⟩
   rcases hS r hs with h | h | ⟨o, ho, hc⟩
   ·have := hN d (List.mem_cons_self ..) r (by rw [h2]); omega
   ·have := (Array.getElem?_eq_some_iff.1 h3).1; omega
   ·rw [h3] at ho; cases ho; simp [Obj.isCells] at hc
 exact aux ds hN h
theorem Marks.cons {base : Nat} {ds : List Deferred} {A : World} {r : Nat} (h : Marks base ds A) (hb : base ≤ r) (hr : A.heap[r]? = some (.deferred (some []))) (hn : ∀ e ∈ ds, e.target ≠ .collected r) :
  Marks base ({ target := .collected r, args := #[] } :: ds) A := ⟨r, hb, rfl, hr, hn, h⟩

/-- What the marks' closing turns: blocks from base on that are no cells. -/
def Shut (base : Nat) (w : World) (b : Nat) : Prop := base ≤ b ∧ ∀ o, w.heap[b]? = some o → o.isCells = false
theorem Shut.not {base : Nat} {w : World} {b : Nat} {o : Obj} (hb : w.heap[b]? = some o) (ho : o.isCells = true) : ¬ Shut base w b := fun h => by
 have := h.2 o hb; rw [ho] at this; cases this

theorem leavesM {P : Program} {fn : Func} {tmps : Array Value} {R : Ending → World → Prop} {v : Value} {base : Nat} :
  ∀ (ds : List Deferred) (w : World), Marks base ds w → (∀ w', Turn (Shut base w) w w' → w'.heap.size = w.heap.size → (results fn tmps).run P w' = .ok v w' ∧ R (.returned v) w') →
   LeavesInM Fence.wide 0 P fn tmps R ds .returning w
 | [], w, _, h => by
  obtain ⟨h1, h2⟩ := h w (Turn.refl _ _) rfl
  exact ⟨v, h1, h2⟩
 | d :: ds, w, ⟨r, hb, hd, hr, hn, hm⟩, h => by
  refine ⟨by simp, .inl ⟨r, _, by rw [hd], run_takeDeferred hr, ?_⟩⟩
  refine leavesM (v := v) ds _ (hm.keep' (S := (· = r)) ((Turn.refl (· = r) w).putObj (.inr rfl) _) (fun b e => by subst e; exact hn)) ?_
  intro w' ht hs
  have hput : Turn (Shut base w) w (w.putObj r (.deferred none)) := (Turn.refl _ w).putObj (.inr ⟨hb, fun o ho => by rw [hr] at ho; cases ho; rfl⟩) _
  refine h w' (hput.after ht fun b hlt hsh => ?_) (by rw [hs]; simp)
  refine ⟨hsh.1, fun o ho => ?_⟩
  by_cases hbr : b = r
  ·subst hbr; rw [hr] at ho; cases ho; rfl
  ·exact hsh.2 o (by rw [World.putObj_heap_other hbr]; exact ho)

/-- A function's contract from its body, where marks may stand among its deferred calls. -/
theorem calls_of_wp_marks {P : Program} {f : FuncId} {fn : Func} {c : Code} {args : Array Value} {w : World} {R : Ending → World → Prop}
  (hf : P.funcs[f]? = some fn) (hb : fn.body = some c)
  (h : c.wp P (bodyPostM Fence.wide 0 P fn R) { tmps := args ++ Array.replicate (fn.ntmps - args.size) undef, defers := [] } w) : Calls P f args w R :=
 callsIn_wide.1 (callsIn_of_wp_marks (n := 0) hf hb trivial (wpIn_wide.2 h))

theorem bodyPostM_ret {P : Program} {fn : Func} {R : Ending → World → Prop} {a : Act} {w : World} {v : Value} {base : Nat} (hm : Marks base a.defers w)
  (hr : ∀ w', (results fn a.tmps).run P w' = .ok v w') (hR : ∀ w', Turn (Shut base w) w w' → w'.heap.size = w.heap.size → R (.returned v) w') :
  bodyPostM Fence.wide 0 P fn R .ret a w := leavesM _ _ hm fun w' ht hs => ⟨hr w', hR w' ht hs⟩

/-- A frame, by a function of its slots. -/
theorem frame_fun {t : Array Value} {n : Nat} (h : t.size = n) : ∃ u : Nat → Value, t = ((List.range n).map u).toArray :=
 ⟨fun i => t.getD i undef, by
  apply Array.ext
  ·simp [h]
  ·intro i h1 h2
   simp [Array.getD, h1]⟩

/-! ### An iterator, by what it does to yield -/

/-- THE ITERATOR gf, with what it has captured, hands out xs in their order. S: the blocks that it turns itself; K: those that a round must leave as they lie. -/
def Iter {α : Type} (P : Program) (gf : Nat) (lb : Array Value) (encs : α → Array Value) (xs : List α) (S K : Nat → Prop) (w : World) : Prop :=
 ∀ (l : Nat) (J Jx : List α → World → Prop) (W : World), Turn (fun b => ¬ K b) w W →
  (∀ pre A B, J pre A → Turn S A B → J pre B) → (∀ pre A B, Jx pre A → Turn S A B → Jx pre B) →
  (∀ pre x rest A, xs = pre ++ x :: rest → J pre A → YieldAt Fence.wide 0 P l (encs x) A fun e B =>
   (e = .returned (.bool true) ∧ J (pre ++ [x]) B ∧ Turn (fun b => ¬ K b) A B) ∨ (e = .returned (.bool false) ∧ Jx (pre ++ [x]) B)) →
  J [] W →
  Calls P gf (#[.func (.yield l) #[] #[]] ++ lb) W fun e B => (∃ v, e = .returned v) ∧ (J xs B ∨ ∃ pre x rest, xs = pre ++ x :: rest ∧ Jx (pre ++ [x]) B)

/-- HOW THE BODY OF A ROUND MAY BE LEFT. -/
def roundQ {α : Type} (K : Nat → Prop) (I : List α → World → Prop) (Ix : Code → List α → World → Prop) (xs : List α) (W : World) : Exit → Act → World → Prop
 | .normal, _, W' => Turn (fun b => ¬ K b) W W' ∧ I xs W'
 | .ret, _, W' => Turn (fun b => ¬ K b) W W' ∧ Ix .ret xs W'
 | .exit id, _, W' => Turn (fun b => ¬ K b) W W' ∧ Ix (.exit id) xs W'
 | .goto t, _, W' => Turn (fun b => ¬ K b) W W' ∧ Ix (.goto t) xs W'
 | .panic _, _, _ => False
 | .outgrown, _, _ => False

/-- 'for x := range seq { .. }'. D: the block of the rounds' deferred calls; D + 1: the loop's record. The body keeps K, D and D + 1; I abides what the iterator turns, the record's turns, new blocks. -/
theorem wp_range {α : Type} {P : Program} {g : Operand} {ps : Array Tmp} {assign body : Code} {Q : Exit → Act → World → Prop} {a : Act} {w : World}
  {gf : Nat} {lb : Array Value} (hg : a.eval g = .func (.func gf) #[] lb) (eg : ∀ args w, (callFunc gf args).run P w = .ok (.enter gf args) w)
  {encs : α → Array Value} {xs : List α} {S K : Nat → Prop} (hseq : Iter P gf lb encs xs S K w) (hSK : ∀ b, S b → K b) (hK : ∀ b, K b → b < w.heap.size) (hps : ∀ x, (encs x).size = ps.size)
  (I : List α → World → Prop) (Ix : Code → List α → World → Prop)
  (hI : ∀ pre A B, I pre A → Turn (fun b => S b ∨ b = w.heap.size + 1) A B → I pre B)
  (hIx : ∀ c pre A B, Ix c pre A → Turn (fun b => S b ∨ b = w.heap.size + 1) A B → Ix c pre B)
  (h0 : ∀ W, Ext w W → W.heap.size = w.heap.size + 2 → I [] W) (up : α → Array Value → Array Value)
  (hassign : ∀ (x : α) (W : World) (Kn : Act → World → Prop), Kn { tmps := up x a.tmps, defers := [] } W →
   assign.wpIn (Fence.wide.inRound (w.heap.size + 1)) 0 P (Exit.then Kn (fun _ _ _ => False)) { tmps := (ps.zip (encs x)).foldl (fun t (p, v) => t.setIfInBounds p v) a.tmps, defers := [] } W)
  (hbody : ∀ (pre : List α) (x : α) (rest : List α) (W : World), xs = pre ++ x :: rest → w.heap.size + 2 ≤ W.heap.size → Turn (fun b => ¬ K b ∨ S b) w W → I pre W →
   body.wpIn (Fence.wide.inRound (w.heap.size + 1)) 0 P (roundQ (fun b => K b ∨ b = w.heap.size ∨ b = w.heap.size + 1) I Ix (pre ++ [x]) W) { tmps := up x a.tmps, defers := [] } W)
  (hdone : ∀ W, I xs W → Turn (fun b => ¬ K b ∨ S b) w W → W.heap[w.heap.size]? = some (.deferred (some [])) → Q .normal { a with defers := { target := .collected w.heap.size, args := #[] } :: a.defers } W)
  (hstop : ∀ c pre x rest W, xs = pre ++ x :: rest → Ix c (pre ++ [x]) W → W.heap[w.heap.size]? = some (.deferred (some [])) → c.wp P Q { a with defers := { target := .collected w.heap.size, args := #[] } :: a.defers } W) :
  (Code.rangeFunc g ps assign body).wp P Q a w := by
 refine (wpIn_wide (n := 0)).1 (wpIn_rangeFunc ?_)
 intro fn _
 obtain ⟨rec, hrec⟩ : ∃ rec : LoopState → Option Code → Loop, rec = fun st pe => { state := st, pending := pe, fn, tmps := a.tmps, params := ps, assign, body, defers := w.heap.size } := ⟨_, rfl⟩
 obtain ⟨W1, hW1⟩ : ∃ W1, (w.alloc (.deferred (some []))).alloc (.loop (rec .ready none)) = W1 := ⟨_, rfl⟩
 have hL1 : W1.heap[w.heap.size + 1]? = some (.loop (rec .ready none)) := by
  rw [← hW1]; have := World.alloc_heap_new (w.alloc (.deferred (some []))) (.loop (rec .ready none)); rwa [World.size_alloc] at this
 have hD1 : W1.heap[w.heap.size]? = some (.deferred (some [])) := by
  rw [← hW1]; exact (Below.heap_alloc _ _ _ (by simp)).trans (World.alloc_heap_new w _)
 have hE1 : Ext w W1 := by rw [← hW1]; exact ((Turn.refl _ w).alloc _).alloc _
 have hs1 : W1.heap.size = w.heap.size + 2 := by rw [← hW1]; simp
 have hnl : ∀ b, S b → b ≠ w.heap.size + 1 ∧ b ≠ w.heap.size := fun b hb => by have := hK b (hSK b hb); omega
 refine ⟨w.heap.size + 1, [{ target := .collected w.heap.size, args := #[] }], W1, { target := .fn (.func gf) lb, args := #[.func (.yield (w.heap.size + 1)) #[] #[]] }, W1, gf,
  #[.func (.yield (w.heap.size + 1)) #[] #[]] ++ lb, W1, ?_, ?_, fun _ _ => trivial, ?_, fun h => by simp [Fence.wide] at h, ?_⟩
 ·rw [← hW1, hrec]; exact run_enterLoop_outer _ _ _ _ _
 ·simp only [resolve, hg]
  simp [go_sem]
 ·simp [invoke, go_sem, eg]
 ·refine callsIn_wide.2 ((hseq (w.heap.size + 1)
   (fun pre W => I pre W ∧ W.heap[w.heap.size + 1]? = some (.loop (rec .ready none)) ∧ W.heap[w.heap.size]? = some (.deferred (some [])) ∧ Turn (fun b => ¬ K b ∨ S b) w W ∧ w.heap.size + 2 ≤ W.heap.size)
   (fun pre W => ∃ c, Ix c pre W ∧ W.heap[w.heap.size + 1]? = some (.loop (rec .done (some c))) ∧ W.heap[w.heap.size]? = some (.deferred (some [])))
   W1 hE1.of ?_ ?_ ?_ ⟨h0 _ hE1 hs1, hL1, hD1, hE1.of, by omega⟩).mono ?_)
  ·rintro pre A B ⟨h1, h2, h3, h4, h5⟩ ht
   exact ⟨hI _ _ _ h1 (ht.mono fun b _ hb => .inl hb), ht.heap h2 (fun hb => (hnl _ hb).1 rfl), ht.heap h3 (fun hb => (hnl _ hb).2 rfl), h4.after ht (fun b _ hb => .inr hb), Nat.le_trans h5 ht.size⟩
  ·rintro pre A B ⟨c, h1, h2, h3⟩ ht
   exact ⟨c, hIx _ _ _ _ h1 (ht.mono fun b _ hb => .inl hb), ht.heap h2 (fun hb => (hnl _ hb).1 rfl), ht.heap h3 (fun hb => (hnl _ hb).2 rfl)⟩
  · -- one round
   rintro pre x rest W hx ⟨hi, hl, hd, ht, hsz⟩
   have hlt : w.heap.size + 1 < W.heap.size := by omega
   have hy := run_yield (P := P) (args := encs x) hl (by rw [hrec]; exact hps x)
   rw [hrec] at hy
   refine ⟨fn, _, assign, body, hy, roundIn_of_wpIn trivial (hassign x W _ ?_)⟩
   clear hy
   refine ⟨_, run_beginRound hl (by rw [hrec]), ?_⟩
   have hl2 : (W.putObj (w.heap.size + 1) (.loop { rec .ready none with state := .busy })).heap[w.heap.size + 1]? = some (.loop { rec .ready none with state := .busy }) := World.putObj_heap_same hlt
   have hd2 : (W.putObj (w.heap.size + 1) (.loop { rec .ready none with state := .busy })).heap[w.heap.size]? = some (.deferred (some [])) := (World.putObj_heap_other (by omega)).trans hd
   have hput : ∀ (X : World) o, Turn (fun b => S b ∨ b = w.heap.size + 1) X (X.putObj (w.heap.size + 1) o) := fun X o => (Turn.refl _ X).putObj (.inr (.inr rfl)) o
   have hputK : ∀ (X : World) o, Turn (fun b => ¬ K b) X (X.putObj (w.heap.size + 1) o) := fun X o => (Turn.refl _ X).putObj (.inr (fun hk => by have := hK _ hk; omega)) o
   refine wpIn_mono (hbody pre x rest _ hx (by simpa using hsz) (ht.after (hputK W _) (fun b _ hb => .inl hb)) (hI _ _ _ hi (hput W _))) ?_
   have fin : ∀ (jump : Option Code) (W3 : World), Turn (fun b => ¬ (K b ∨ b = w.heap.size ∨ b = w.heap.size + 1)) (W.putObj (w.heap.size + 1) (.loop { rec .ready none with state := .busy })) W3 →
     (Instr.endRound (w.heap.size + 1) jump).run P W3 = .ok (.bool jump.isNone) (W3.putObj (w.heap.size + 1) (.loop (rec (if jump.isNone then .ready else .done) jump))) ∧
     (W3.putObj (w.heap.size + 1) (.loop (rec (if jump.isNone then .ready else .done) jump))).heap[w.heap.size + 1]? = some (.loop (rec (if jump.isNone then .ready else .done) jump)) ∧
     (W3.putObj (w.heap.size + 1) (.loop (rec (if jump.isNone then .ready else .done) jump))).heap[w.heap.size]? = some (.deferred (some [])) ∧
     Turn (fun b => ¬ K b) W (W3.putObj (w.heap.size + 1) (.loop (rec (if jump.isNone then .ready else .done) jump))) := fun jump W3 hk3 => by
    have hl3 := hk3.heap hl2 (fun h => h (.inr (.inr rfl)))
    have hd3 := hk3.heap hd2 (fun h => h (.inr (.inl rfl)))
    have := run_endRound (P := P) jump hl3
    rw [hrec] at this ⊢
    refine ⟨this, World.putObj_heap_same (Array.getElem?_eq_some_iff.1 hl3).1, (World.putObj_heap_other (by omega)).trans hd3, ?_⟩
    exact ((hputK W _).trans (hk3.mono fun b _ hb hk => hb (.inl hk))).trans (hputK W3 _)
   rintro e a3 W3 hp
   cases e with
   | normal =>
    obtain ⟨hk3, hi3⟩ := hp
    obtain ⟨hr, hl4, hd4, ht4⟩ := fin none W3 hk3
    exact ⟨_, _, hr, .inl ⟨rfl, ⟨hI _ _ _ hi3 (hput W3 _), hl4, hd4, ht.after ht4 (fun b _ hb => .inl hb), Nat.le_trans hsz ht4.size⟩, ht4⟩⟩
   | ret =>
    obtain ⟨hk3, hi3⟩ := hp
    obtain ⟨hr, hl4, hd4, ht4⟩ := fin (some .ret) W3 hk3
    exact ⟨_, _, hr, .inr ⟨rfl, .ret, hIx _ _ _ _ hi3 (hput W3 _), hl4, hd4⟩⟩
   | exit id =>
    obtain ⟨hk3, hi3⟩ := hp
    obtain ⟨hr, hl4, hd4, ht4⟩ := fin (some (.exit id)) W3 hk3
    exact ⟨_, _, hr, .inr ⟨rfl, .exit id, hIx _ _ _ _ hi3 (hput W3 _), hl4, hd4⟩⟩
   | goto t =>
    obtain ⟨hk3, hi3⟩ := hp
    obtain ⟨hr, hl4, hd4, ht4⟩ := fin (some (.goto t)) W3 hk3
    exact ⟨_, _, hr, .inr ⟨rfl, .goto t, hIx _ _ _ _ hi3 (hput W3 _), hl4, hd4⟩⟩
   | panic ch => exact hp.elim
   | outgrown => exact hp.elim
  · -- behind the iterator
   have hput : ∀ (X : World) o, Turn (fun b => S b ∨ b = w.heap.size + 1) X (X.putObj (w.heap.size + 1) o) := fun X o => (Turn.refl _ X).putObj (.inr (.inr rfl)) o
   rintro e W2 ⟨⟨v, rfl⟩, (⟨hi, hl, hd, ht, hsz⟩ | ⟨pre, x, rest, hx, c, hi, hl, hd⟩)⟩
   ·refine ⟨none, _, by have := run_endLoop (P := P) hl (by rw [hrec]; simp); rw [hrec] at this; exact this, ?_⟩
    exact hdone _ (hI _ _ _ hi (hput W2 _)) (ht.putObj (.inl (by omega)) _) ((World.putObj_heap_other (by omega)).trans hd)
   ·refine ⟨some c, _, by have := run_endLoop (P := P) hl (by rw [hrec]; simp); rw [hrec] at this; exact this, ?_⟩
    exact (wpIn_wide (n := 0)).2 (hstop c pre x rest _ hx (hIx _ _ _ _ hi (hput W2 _)) ((World.putObj_heap_other (by omega)).trans hd))
end Go.Ab

namespace Go.Ab
open Go.RowKit
variable {P : Program} {ops : Array Oper} {Q : Exit → Act → World → Prop}

theorem oper_bridge {o : Oper} {a : Act} {w : World} {K : Act → World → Prop} {l n : Nat} (hd : ∀ c, o.op ≠ .defer c) (hQ : ¬ LetsOut Q)
  (h : o.wp P a w K Q ∨ (o.asks P a w ∧ LetsOut Q)) : o.wpIn (Fence.wide.inRound l) n P a w K Q := by
 have h := h.resolve_right fun h => hQ h.2
 refine ⟨fun _ _ => trivial, ?_⟩
 rw [Oper.semAt_eq _ _ _ hd]
 unfold Oper.wp at h
 generalize (execOp a.eval o).run P w = r at *
 cases r with
 | ok x w' =>
  cases x <;> simp only [Oper.upon, Oper.uponIn] at h ⊢ <;> first
   | exact h
   | exact ⟨fun hh => by simp [Fence.wide] at hh, (callsIn_wide.2 h).inRound l⟩
   | exact ⟨fun hh => by simp [Fence.wide] at hh, fun c cs _ => let ⟨v, w'', hR, hs⟩ := h c cs; ⟨v, w'', hR, stepsIn_wide.2 hs⟩⟩
 | halt x w' => cases x <;> simp only [Oper.upon, Oper.uponIn] at h ⊢ <;> exact h

/-- No operation of the region is a defer statement. -/
def noDefer (ops : Array Oper) : Bool := ops.all fun o => match o.op with | .defer _ => false | _ => true
theorem noDefer_spec (h : noDefer ops = true) {i : Nat} {o : Oper} (ho : ops[i]? = some o) (c : Call) : o.op ≠ .defer c := by
 intro e
 have := Array.all_eq_true.1 h i (Array.getElem?_eq_some_iff.1 ho).1
 rw [(Array.getElem?_eq_some_iff.1 ho).2, e] at this
 simp at this

theorem wpOp_bridge {l n : Nat} (hd : noDefer ops = true) (hQ : ¬ LetsOut Q) {i : Nat} {K K' : Act → World → Prop} {a : Act} {w : World} (hK : ∀ a w, K a w → K' a w)
  (h : wpOp P ops Q i K a w) : wpOpIn (Fence.wide.inRound l) n P ops Q i K' a w := by
 have h := wpOp_mono hK h
 unfold wpOp at h
 unfold wpOpIn
 split
 ·rename_i hi; rw [hi] at h; exact h
 ·rename_i o hi
  rw [hi] at h
  simp only at h
  split
  ·rename_i hw; rw [if_pos hw] at h; exact oper_bridge (noDefer_spec hd hi) hQ h
  ·rename_i hw; rw [if_neg hw] at h; exact ⟨fun _ _ => trivial, h⟩

theorem wpAny_bridge {l n : Nat} {md : Region.Mode} (hd : noDefer ops = true) (hQ : ¬ LetsOut Q) : ∀ (f : Nat) (listed : Array Bool) (a : Act) (w : World),
  wpAny P md ops Q f listed a w → wpAnyIn (Fence.wide.inRound l) n P md ops Q f listed a w
 | 0, _, _, _, h => h
 | f + 1, _, _, _, h => ⟨h.1, fun i hi => wpOp_bridge hd hQ (fun a w h => wpAny_bridge hd hQ f _ a w h) (h.2 i hi)⟩

theorem wpOps_bridge {l n : Nat} (hd : noDefer ops = true) (hQ : ¬ LetsOut Q) : ∀ (is : List Nat) (a : Act) (w : World),
  wpOps P ops Q is a w → wpOpsIn (Fence.wide.inRound l) n P ops Q is a w
 | [], _, _, h => h
 | i :: is, a, w, h => by
  rw [wpOps_cons] at h
  rw [wpOpsIn_cons]
  exact wpOp_bridge hd hQ (fun a w h => wpOps_bridge hd hQ is a w h) h

/-- A region in the text's order, in a round's frame. -/
theorem wpIn_region_plain {id l n : Nat} {a : Act} {w : World} {os : List Oper} (hd : noDefer os.toArray = true) (hQ : ¬ LetsOut Q)
  (h : wpList P os.toArray Q os a w) : (Code.region id os.toArray false).wpIn (Fence.wide.inRound l) n P Q a w :=
 wpIn_region (wpOps_bridge hd hQ _ _ _ (by
  have := wpOps_eq_wpList (P := P) (ops := os.toArray) (Q := Q) os 0 (by simp)
  rw [show List.range os.toArray.size = List.range' 0 os.length by simp [List.range_eq_range'], this]; exact h))

theorem wpIn_region_any' {id l n : Nat} {a : Act} {w : World} (hm : P.follows .mixedOrders = true) (hd : noDefer ops = true) (hQ : ¬ LetsOut Q)
  (h : wpAny P .any ops Q ops.size (Array.replicate ops.size false) a { w with drawn := w.drawn + 1 }) : (Code.region id ops true).wpIn (Fence.wide.inRound l) n P Q a w :=
 wpIn_region_any hm (wpAny_bridge hd hQ _ _ _ _ h)

/-- 'wp_region_still_tail' in a round's frame: the first m operations only read; the rest stand in one order, and are walked as everywhere. -/
theorem wpIn_region_still_tail {id k n : Nat} {a : Act} {w : World} {l : List Oper} (m : Nat) (hm : P.follows .mixedOrders = true) (hB : Region.lexTailB .any l.toArray m = true) (hd : noDefer l.toArray = true) (hQ : ¬ LetsOut Q)
  (h : wpStill P l.toArray w.drew (fun a' => wpList P l.toArray Q (l.drop m) a' w.drew) (l.take m) a) : (Code.region id l.toArray true).wpIn (Fence.wide.inRound k) n P Q a w := by
 simp only [Region.lexTailB, Bool.and_eq_true, decide_eq_true_eq] at hB
 obtain ⟨⟨⟨⟨hsel, hn⟩, hs⟩, hc⟩, hlex⟩ := hB
 have hn' : m < l.length := by simpa using hn
 have htl : (l.take m).length = m := by simp; omega
 have hdl : (l.drop m).length = l.toArray.size - m := by simp
 have inv0 : HeadInv .any l.toArray m (Array.replicate l.toArray.size false) :=
  ⟨by simp, fun j oj _ hl => (by rw [getD_replicate_false] at hl; cases hl), fun t _ ht => getD_in (by simpa using ht) (getD_replicate_false _ _)⟩
 have H := wpAnyL_lex (md := .any) (g := l.toArray.size - m) hsel hs hc hn (l.take m) 0 _ a (fun j hj => by
  have hj' : j < m := by rw [htl] at hj; exact hj
  simp [hj']) (by simpa using htl) inv0 (by rw [htl]; exact hlex) h
 refine wpIn_region_any' hm hd hQ ?_
 have := wpAny_of_head (Q' := Q) (g := l.toArray.size - m) (fun listed a' hL => by
  have := wpAny_of_seq (md := .any) (Q' := Q) (l.drop m) m listed a' { w with drawn := w.drawn + 1 } (fun j => by simp [List.getElem?_drop]) (by rw [hdl]; exact hL.1) hL.2
  rwa [hdl] at this) _ _ _ H
 rw [htl, show m + (l.toArray.size - m) = l.toArray.size by omega] at this
 exact this

/-- The same outside of rounds. -/
theorem region_still {id : Nat} {a : Act} {w : World} {l : List Oper} (m : Nat) (hm : P.follows .mixedOrders = true) (hB : Region.lexTailB .any l.toArray m = true)
  (h : wpStill P l.toArray w.drew (fun a' => wpList P l.toArray Q (l.drop m) a' w.drew) (l.take m) a) : (Code.region id l.toArray true).wp P Q a w :=
 wp_region_still_tail m hm hB h

end Go.Ab

namespace Go.Ab
open Go.RowKit

/-- v is a slice of n elements of sz cells each, which read as xs. -/
def Rd (w : World) (v : Value) (n sz : Nat) (xs : List Value) : Prop :=
 xs.length = n * sz ∧ n ≤ maxLen ∧ ∃ ao cap, v = .slice ao n cap ∧ (0 < n → ∃ g off, ao = some ⟨g, off, none⟩ ∧ g < w.heap.size ∧ ∀ j, j < n * sz → w.cell? ⟨g, off + j, none⟩ = some (xs.getD j undef))

theorem Rd.keep {S : Nat → Prop} {A B : World} {v : Value} {n sz : Nat} {xs : List Value} (h : Rd A v n sz xs) (ht : Turn S A B) (hS : ∀ g off len cap, v = .slice (some ⟨g, off, none⟩) len cap → ¬ S g) : Rd B v n sz xs := by
 obtain ⟨h1, h2, ao, cap, hv, h3⟩ := h
 refine ⟨h1, h2, ao, cap, hv, fun hn => ?_⟩
 obtain ⟨g, off, ha, hg, hc⟩ := h3 hn
 exact ⟨g, off, ha, Nat.lt_of_lt_of_le hg ht.size, fun j hj => ht.cell_some (hc j hj) (hS g off n cap (by rw [hv, ha]))⟩
theorem Rd.ext {A B : World} {v : Value} {n sz : Nat} {xs : List Value} (h : Rd A v n sz xs) (ht : Ext A B) : Rd B v n sz xs := h.keep ht fun _ _ _ _ _ h => h
theorem Rd.drewN {A : World} {v : Value} {n sz : Nat} {xs : List Value} (h : Rd A v n sz xs) (m : Nat) : Rd (A.drewN m) v n sz xs := h.ext ((Turn.refl _ A).drewN m)

theorem Rd.of_own {w : World} {base : Nat} {e : TypeId} {sz : Nat} {v : Value} {n : Nat} {xs : List Value} (h : w.ownsRow base e sz v n xs) : Rd w v n sz xs := by
 have hl := h.1
 rcases h.2 with ⟨rfl, rfl⟩ | ⟨g, cap, cur, rfl, hb, hg, hnc, hcm, hcs, htake⟩
 ·exact ⟨hl, by simp [maxLen], none, 0, rfl, fun h => by omega⟩
 ·refine ⟨hl, Nat.le_trans hnc hcm, some ⟨g, 0, none⟩, cap, rfl, fun _ => ⟨g, 0, rfl, (Array.getElem?_eq_some_iff.1 hg).1, fun j hj => ?_⟩⟩
  rw [Nat.zero_add, h.cellAt j hj, List.getD_eq_getElem?_getD]
  have : j < xs.length := by omega
  simp [this]

theorem own_keep {S : Nat → Prop} {A B : World} {base : Nat} {e : TypeId} {sz : Nat} {v : Value} {n : Nat} {xs : List Value} (h : A.ownsRow base e sz v n xs) (ht : Turn S A B) (hS : ∀ g, v.ownBlock = some g → ¬ S g) : B.ownsRow base e sz v n xs := by
 obtain ⟨hl, h2⟩ := h
 refine ⟨hl, ?_⟩
 rcases h2 with ⟨rfl, rfl⟩ | ⟨g, cap, cur, rfl, hb, hg, hr⟩
 ·exact .inl ⟨rfl, rfl⟩
 ·exact .inr ⟨g, cap, cur, rfl, hb, ht.heap hg (hS g rfl), hr⟩
theorem own_ext {A B : World} {base : Nat} {e : TypeId} {sz : Nat} {v : Value} {n : Nat} {xs : List Value} (h : A.ownsRow base e sz v n xs) (ht : Ext A B) : B.ownsRow base e sz v n xs := own_keep h ht fun _ _ h => h
/-- What is owned lies in cells. -/
theorem own_turn {S : Nat → Prop} {A B : World} {base : Nat} {e : TypeId} {sz : Nat} {v : Value} {n : Nat} {xs : List Value} (h : A.ownsRow base e sz v n xs) (ht : Turn S A B) (hS : ∀ g o, A.heap[g]? = some o → o.isCells = true → ¬ S g) : B.ownsRow base e sz v n xs := by
 refine own_keep h ht fun g hg => ?_
 rcases h.2 with ⟨e, _⟩ | ⟨g', cap, cur, e, _, hc, _⟩
 ·rw [e] at hg; simp [Value.ownBlock] at hg
 ·rw [e] at hg; simp [Value.ownBlock] at hg; subst hg; exact hS _ _ hc rfl
theorem own_base {A : World} {base base' : Nat} {e : TypeId} {sz : Nat} {v : Value} {n : Nat} {xs : List Value} (h : A.ownsRow base e sz v n xs) (hb : base' ≤ base) : A.ownsRow base' e sz v n xs := by
 obtain ⟨hl, h2⟩ := h
 refine ⟨hl, ?_⟩
 rcases h2 with h | ⟨g, cap, cur, hv, hb', hr⟩
 ·exact .inl h
 ·exact .inr ⟨g, cap, cur, hv, Nat.le_trans hb hb', hr⟩

/-- Where the row lies behind an append: where it lay, or in a new block. -/
theorem append_block {P : Program} {w : World} {base : Nat} {t ty e : TypeId} {i : TypeInfo} {z : Value} (ht : P.underlying t = some (.slice e)) (hi : P.info? e = some i) (hz : i.zero = some z) (_hsz : 0 < i.size)
  {v : Value} {n : Nat} {xs : List Value} (hown : w.ownsRow base e i.size v n xs)
  (a : Addr) (m c : Nat) (news : List Value) (hl : news.length = m * i.size) (hnews : ∀ j u, news[j]? = some u → w.cell? (a.add j) = some u) (h1 : ∀ u ∈ news, u.oneCell' = true)
  (h63 : n + m ≤ maxLen) (hbytes : (n + m) * i.bytes ≤ 140737488355328) {v' : Value} {w' : World}
  (hr : (Builtin.append_ #[t, t] ty #[v, .slice (some a) m c]).run P w = .ok v' w') : v'.ownBlock = v.ownBlock ∨ v'.ownBlock = some w.heap.size := by
 have hsmall : n + m ≤ 9223372036854775807 := by simp only [maxLen] at h63; omega
 rcases hown.2 with ⟨rfl, rfl⟩ | ⟨g, cap, cur, rfl, hbg, hg, hnc, hcm, hcs, htake⟩
 ·by_cases hm : m = 0
  ·subst hm
   have hn : news = [] := List.eq_nil_of_length_eq_zero (by simpa using hl)
   subst hn
   have : (Builtin.append_ #[t, t] ty #[.slice none 0 0, .slice (some a) 0 c]).run P w = .ok (.slice none 0 0) w := by
    simp [Builtin.append_, run_underlying ht, sizeOf, typeInfo, hi, Builtin.lenOf, Builtin.firstCells, loadCells, loadCellsFrom]
   rw [this] at hr
   cases hr
   exact .inl rfl
  ·have hr' := run_append_nil (P := P) w t ty e i z ht hi hz a m c news hl hnews (by omega) (by omega) (by have hb := hbytes; simp only [Nat.zero_add] at hb; omega)
   rw [hr'] at hr
   cases hr
   exact .inr rfl
 ·by_cases hroom : n + m ≤ cap
  ·have hfit : n * i.size + news.length ≤ cur.size := by rw [hl, hcs, ← Nat.add_mul]; exact Nat.mul_le_mul_right _ hroom
   have hr' := run_append_room (P := P) w t ty e i ht hi g n cap cur hg a m c news hl hnews h1 hroom hfit
   rw [hr'] at hr
   cases hr
   exact .inl rfl
  ·have holds : ∀ j u, xs[j]? = some u → w.cell? ((⟨g, 0, none⟩ : Addr).add j) = some u := hown.cells (g := g) rfl
   have hr' := run_append_grow (P := P) w t ty e i z ht hi hz ⟨g, 0, none⟩ n cap xs hown.1 holds a m c news hl hnews (by omega) (by omega) (growslice_fits (by omega) hbytes)
   rw [hr'] at hr
   cases hr
   exact .inr rfl

/-- The value of a slice. -/
def IsSlice (v : Value) : Prop := ∃ ao n cap, v = .slice ao n cap
theorem own_slice {w : World} {base : Nat} {e : TypeId} {sz : Nat} {v : Value} {n : Nat} {xs : List Value} (h : w.ownsRow base e sz v n xs) : ∃ ao cap, v = .slice ao n cap := by
 rcases h.2 with ⟨rfl, rfl⟩ | ⟨g, cap, cur, rfl, _⟩
 ·exact ⟨_, _, rfl⟩
 ·exact ⟨_, _, rfl⟩

/-- append of m elements that lie in cells. -/
theorem append_row {P : Program} {w : World} {ops : Array Oper} {rest : List Oper} {o : Oper} {a : Act} {Q : Exit → Act → World → Prop} (hgd : o.guard = none) (s x : Operand) (t : TypeId)
  (ho : o.op = .call { callee := .builtin .append, args := #[s, x], argTypes := #[t, t] })
  (base : Nat) (e : TypeId) (z : Value) (size bytes : Nat) (ht : P.underlying t = some (.slice e)) (hinfo : (P.info? e).map (fun i => (i.zero, i.size, i.bytes)) = some (some z, size, bytes))
  (hzs : z.cells.size = size) (hsz : 0 < size)
  (v : Value) (n : Nat) (xs : List Value) (hs : a.eval s = v) (hown : w.ownsRow base e size v n xs)
  (ad : Addr) (m c : Nat) (news : List Value) (hx : a.eval x = .slice (some ad) m c) (hl : news.length = m * size) (hnews : ∀ j u, news[j]? = some u → w.cell? (ad.add j) = some u) (h1 : ∀ u ∈ news, u.oneCell' = true)
  (h63 : n + m ≤ maxLen) (hbytes : (n + m) * bytes ≤ 140737488355328) (hbase : base ≤ w.heap.size)
  (h : ∀ ao c' w', w'.ownsRow base e size (.slice ao (n + m) c') (n + m) (xs ++ news) → Turn (fun b => v.ownBlock = some b) w w' → ((Value.slice ao (n + m) c').ownBlock = v.ownBlock ∨ (Value.slice ao (n + m) c').ownBlock = some w.heap.size) → wpList P ops Q rest (a.put o.dst (.slice ao (n + m) c')) w') : wpList P ops Q (o :: rest) a w := by
 obtain ⟨i, hi, hz, hs1, hb1⟩ := info_parts hinfo
 subst hs1
 subst hb1
 refine wpList_plain hgd fun K hK => ?_
 obtain ⟨v', w', hr, h2, h3, h4⟩ := run_append_own (P := P) w base t o.type e i z _ _ ht hi hz rfl rfl hzs hsz v n xs hown ad m c news hl hnews h1 h63 hbytes hbase
 have h5 := append_block ht hi hz hsz hown ad m c news hl hnews h1 h63 hbytes hr
 unfold Oper.wp execOp
 simp only [ho, resolve, invoke, builtin, Sem.run_bind, Sem.run_pure, Result.andThen_ok, List.map_toArray, List.map_cons, List.map_nil, hs, hx, hr]
 obtain ⟨ao, c', rfl⟩ := own_slice h2
 exact hK _ _ (h ao c' w' h2 ((Turn.refl _ w).grown h3 (fun k e => .inr e)) h5)

/-- The cells of a block that was just laid. -/
theorem new_cells {w : World} {l : List Value} {t : TypeId} : ∀ j u, l[j]? = some u → (w.alloc (.cells l.toArray t)).cell? ((⟨w.heap.size, 0, none⟩ : Addr).add j) = some u := by
 intro j u hj
 have e : ((⟨w.heap.size, 0, none⟩ : Addr).add j) = ⟨w.heap.size, j, none⟩ := by
  unfold Addr.add; split
  ·rename_i h; subst h; rfl
  ·simp
 rw [e, World.cell?_alloc_new]
 simpa using hj
theorem new_cells' {w : World} {l : List Value} {t : TypeId} {n : Nat} (hn : n = w.heap.size) : ∀ j u, l[j]? = some u → (w.alloc (.cells l.toArray t)).cell? ((⟨n, 0, none⟩ : Addr).add j) = some u := by
 subst hn; exact new_cells
theorem madeCells_one (z : Value) (n : Nat) : (madeCells #[z] n).toList = List.replicate n z := by
 simp only [madeCells, Array.toList_map, Array.toList_range]
 apply List.ext_getElem
 ·simp
 ·intro i h1 h2
  simp [Nat.mod_one]

/-- make of n elements of one cell. -/
theorem make_row1 {P : Program} {w : World} {ops : Array Oper} {rest : List Oper} {o : Oper} {a : Act} {Q : Exit → Act → World → Prop}
  (hg : o.guard = none) (l c : Operand) (t : TypeId) (hop : o.op = Op.makeSlice t l c)
  (base : Nat) (e : TypeId) (z : Value) (bytes : Nat) (h1 : P.underlying t = some (.slice e)) (hinfo : (P.info? e).map (fun i => (i.zero, i.size, i.bytes)) = some (some z, 1, bytes)) (hz : z.cells = #[z])
  (kl kc : IntKind) (L C : Int) (n : Nat) (hl : a.eval l = .int kl L) (hc : a.eval c = .int kc C) (hL : L = (n : Int)) (hC : C = (n : Int)) (b2 : bytes * n ≤ 281474976710656) (b3 : n ≤ maxLen) (b4 : base ≤ w.heap.size)
  (hK : ∀ w', w'.ownsRow base e 1 (.slice (some ⟨w.heap.size, 0, none⟩) n n) n (List.replicate n z) → Ext w w' → wpList P ops Q rest (a.put o.dst (.slice (some ⟨w.heap.size, 0, none⟩) n n)) w') :
  wpList P ops Q (o :: rest) a w := by
 obtain ⟨i, hi, hz1, hs1, hb1⟩ := info_parts hinfo
 subst hb1
 refine wpList_make_full w hg l c t hop base e i z 1 h1 hi hz1 hs1 kl kc L C n hl hc hL hC b2 b3 b4 fun w' hO hG => ?_
 rw [hz, Nat.mul_one, madeCells_one] at hO
 exact hK w' hO ((Turn.refl _ w).grown hG (fun k e => by cases e))

/-- A store into a row of one-cell elements. -/
theorem own_store {w : World} {base g n cap : Nat} {e : TypeId} {xs : List Value} (h : w.ownsRow base e 1 (.slice (some ⟨g, 0, none⟩) n cap) n xs) (j : Nat) (u : Value) :
  (w.setCell ⟨g, j, none⟩ u).ownsRow base e 1 (.slice (some ⟨g, 0, none⟩) n cap) n (xs.set j u) := (h.stored j u).1
end Go.Ab

namespace Go.Ab
open Go.RowKit

/-- The cells of a word. -/
def sndL (w : Wd) : List Value := w.flatMap fun s => [Value.int .u32 (s.1 : Int), Value.int .u32 (s.2 : Int)]
theorem sndL_cons (s : Nat × Nat) (w : Wd) : sndL (s :: w) = .int .u32 (s.1 : Int) :: .int .u32 (s.2 : Int) :: sndL w := rfl
theorem sndL_length (w : Wd) : (sndL w).length = w.length * 2 := by
 induction w with
 | nil => rfl
 | cons s w ih => simp [sndL_cons, ih]; omega
theorem sndL_append (v w : Wd) : sndL (v ++ w) = sndL v ++ sndL w := by simp [sndL]
theorem sndL_get (w : Wd) (i : Nat) (h : i < w.length) : (sndL w)[i * 2]? = some (.int .u32 ((w.getD i (0, 0)).1 : Int)) ∧ (sndL w)[i * 2 + 1]? = some (.int .u32 ((w.getD i (0, 0)).2 : Int)) := by
 induction w generalizing i with
 | nil => simp at h
 | cons s w ih =>
  cases i with
  | zero => simp [sndL_cons]
  | succ i =>
   rw [sndL_cons, show (i + 1) * 2 = i * 2 + 1 + 1 by omega]
   simpa using ih i (by simpa using h)
def WdOk (w : Wd) : Prop := ∀ s ∈ w, s.1 < 4294967296 ∧ s.2 < 4294967296
theorem WdOk.get {w : Wd} (h : WdOk w) (i : Nat) (hi : i < w.length) : (w.getD i (0, 0)).1 < 4294967296 ∧ (w.getD i (0, 0)).2 < 4294967296 := by
 refine h _ ?_
 rw [List.getD_eq_getElem?_getD, List.getElem?_eq_getElem hi]
 exact List.getElem_mem hi
/-- v is this word. -/
def WordAt (W : World) (v : Value) (w : Wd) : Prop := Rd W v w.length 2 (sndL w) ∧ WdOk w
theorem WordAt.ext {A B : World} {v : Value} {w : Wd} (h : WordAt A v w) (ht : Ext A B) : WordAt B v w := ⟨h.1.ext ht, h.2⟩
/-- The cells of one sound. -/
theorem WordAt.at {W : World} {v : Value} {w : Wd} (h : WordAt W v w) {i : Nat} (hi : i < w.length) :
  ∃ g off cap, v = .slice (some ⟨g, off, none⟩) w.length cap ∧ g < W.heap.size ∧ W.cell? ⟨g, off + i * 2, none⟩ = some (.int .u32 ((w.getD i (0, 0)).1 : Int)) ∧ W.cell? ⟨g, off + i * 2 + 1, none⟩ = some (.int .u32 ((w.getD i (0, 0)).2 : Int)) := by
 obtain ⟨⟨h1, h2, ao, cap, hv, h3⟩, h4⟩ := h
 obtain ⟨g, off, ha, hg, hc⟩ := h3 (by omega)
 have e := sndL_get w i hi
 have c1 := hc (i * 2) (by omega)
 have c2 := hc (i * 2 + 1) (by omega)
 rw [List.getD_eq_getElem?_getD, e.1] at c1
 rw [List.getD_eq_getElem?_getD, e.2, ← Nat.add_assoc] at c2
 exact ⟨g, off, cap, by rw [hv, ha], hg, c1, c2⟩
theorem WordAt.slice {W : World} {v : Value} {w : Wd} (h : WordAt W v w) : ∃ ao cap, v = .slice ao w.length cap ∧ w.length ≤ maxLen := by
 obtain ⟨⟨h1, h2, ao, cap, hv, h3⟩, h4⟩ := h
 exact ⟨ao, cap, hv, h2⟩

theorem and_not32 (a b : Nat) (ha : a < 4294967296) (hb : b < 4294967296) : a &&& (4294967295 - b) = 0 ↔ a &&& b = a := by
 have hn : ∀ i, (4294967295 - b).testBit i = (decide (i < 32) && !b.testBit i) := fun i => by
  have := Nat.testBit_two_pow_sub_succ (n := 32) (x := b) (by simpa using hb) i
  simpa using this
 have ha2 : ∀ i, 32 ≤ i → a.testBit i = false := fun i hi => Nat.testBit_lt_two_pow (Nat.lt_of_lt_of_le ha (Nat.pow_le_pow_right (n := 2) (by decide) hi))
 constructor
 ·intro h
  apply Nat.eq_of_testBit_eq
  intro i
  have := congrArg (fun v => Nat.testBit v i) h
  simp only [Nat.testBit_and, hn, Nat.zero_testBit] at this
  rw [Nat.testBit_and]
  by_cases hi : i < 32
  ·cases q : a.testBit i <;> cases r : b.testBit i <;> simp_all
  ·rw [ha2 i (by omega)]; rfl
 ·intro h
  apply Nat.eq_of_testBit_eq
  intro i
  have := congrArg (fun v => Nat.testBit v i) h
  simp only [Nat.testBit_and] at this
  rw [Nat.testBit_and, hn, Nat.zero_testBit]
  cases q : a.testBit i <;> cases r : b.testBit i <;> simp_all

theorem sat_bits {s c : Nat × Nat} (h1 : s.1 < 4294967296) (h2 : s.2 < 4294967296) (h3 : c.1 < 4294967296) (h4 : c.2 < 4294967296) :
  (bits .or .u32 (bits .andNot .u32 (c.1 : Int) (s.1 : Int)) (bits .andNot .u32 (c.2 : Int) (s.2 : Int)) == 0) = sat s c := by
 have l1 : c.1 &&& (4294967295 - s.1) < 4294967296 := Nat.lt_of_le_of_lt Nat.and_le_left h3
 have l2 : c.2 &&& (4294967295 - s.2) < 4294967296 := Nat.lt_of_le_of_lt Nat.and_le_left h4
 rw [u32_andNot_nat _ _ h3 h1, u32_andNot_nat _ _ h4 h2, u32_or_nat _ _ l1 l2]
 apply Bool.eq_iff_iff.2
 rw [beq_iff_eq, sat, Bool.and_eq_true, beq_iff_eq, beq_iff_eq, ← and_not32 _ _ h3 h1, ← and_not32 _ _ h4 h2]
 constructor
 ·intro h
  have h : (c.1 &&& (4294967295 - s.1) ||| c.2 &&& (4294967295 - s.2)) = 0 := by exact_mod_cast h
  exact Nat.or_eq_zero_iff.1 h
 ·intro h
  have : (c.1 &&& (4294967295 - s.1) ||| c.2 &&& (4294967295 - s.2)) = 0 := Nat.or_eq_zero_iff.2 h
  exact_mod_cast this
theorem okSound_bits {a b : Nat} (ha : a < 4294967296) (hb : b < 4294967296) : ((bits .and .u32 (a : Int) (b : Int) == 0) = (a &&& b == 0)) ∧ bits .or .u32 (a : Int) (b : Int) = ((a ||| b : Nat) : Int) := by
 rw [u32_and_nat _ _ ha hb, u32_or_nat _ _ ha hb]
 refine ⟨?_, rfl⟩
 apply Bool.eq_iff_iff.2
 rw [beq_iff_eq, beq_iff_eq]
 exact ⟨fun h => by exact_mod_cast h, fun h => by rw [h]; rfl⟩
end Go.Ab

namespace Go.Ab
open Go.RowKit

/-- The seven cells of a node. -/
def patCells (k : Int) (pl mi : Nat) (nt : Bool) (mn mx : Int) (ao : Option Addr) (n cap : Nat) : List Value :=
 [.int .i64 k, .int .u32 pl, .int .u32 mi, .bool nt, .int .i64 mn, .int .i64 mx, .slice ao n cap]

mutual
/-- These cells are this pattern; all that it reaches lies in blocks of K. -/
def PatAt (K : Nat → Prop) (w : World) : Pat → List Value → Prop
 | .node k pl mi nt mn mx l, cs => ∃ ao cap, cs = patCells k pl mi nt mn mx ao l.length cap ∧ pl < 4294967296 ∧ mi < 4294967296 ∧ l.length ≤ cap ∧ cap ≤ maxLen ∧ PatsAt K w l ao 0
/-- These patterns lie one behind the other, from place i on. -/
def PatsAt (K : Nat → Prop) (w : World) : List Pat → Option Addr → Nat → Prop
 | [], _, _ => True
 | p :: l, ao, i => (∃ g off cs, ao = some ⟨g, off, none⟩ ∧ K g ∧ g < w.heap.size ∧ w.rangeAt g (off + i * 7) cs ∧ PatAt K w p cs) ∧ PatsAt K w l ao (i + 1)
end

theorem PatsAt.get {K : Nat → Prop} {w : World} : ∀ {l : List Pat} {ao : Option Addr} {i : Nat}, PatsAt K w l ao i → ∀ j (h : j < l.length), ∃ g off cs, ao = some ⟨g, off, none⟩ ∧ K g ∧ g < w.heap.size ∧ w.rangeAt g (off + (i + j) * 7) cs ∧ PatAt K w l[j] cs
 | [], _, _, _, j, h => by simp at h
 | p :: l, ao, i, h, 0, _ => by unfold PatsAt at h; exact h.1
 | p :: l, ao, i, h, j + 1, hj => by
  unfold PatsAt at h
  have := PatsAt.get h.2 j (by simpa using hj)
  rw [show i + (j + 1) = i + 1 + j by omega]
  exact this
theorem PatsAt.mk {K : Nat → Prop} {w : World} : ∀ {l : List Pat} {ao : Option Addr} {i : Nat}, (∀ j (h : j < l.length), ∃ g off cs, ao = some ⟨g, off, none⟩ ∧ K g ∧ g < w.heap.size ∧ w.rangeAt g (off + (i + j) * 7) cs ∧ PatAt K w l[j] cs) → PatsAt K w l ao i
 | [], _, _, _ => by unfold PatsAt; trivial
 | p :: l, ao, i, h => by
  unfold PatsAt
  refine ⟨h 0 (by simp), PatsAt.mk fun j hj => ?_⟩
  have := h (j + 1) (by simpa using hj)
  rw [show i + (j + 1) = i + 1 + j by omega] at this
  exact this

theorem rangeAt_turn {S : Nat → Prop} {A B : World} (ht : Turn S A B) {g o : Nat} {cs : List Value} (h : A.rangeAt g o cs) (hS : ¬ S g) : B.rangeAt g o cs := fun j v hv => ht.cell_some (h j v hv) hS

mutual
theorem PatAt.keep {K S : Nat → Prop} {A B : World} (ht : Turn S A B) (hS : ∀ g, K g → ¬ S g) : ∀ {p : Pat} {cs : List Value}, PatAt K A p cs → PatAt K B p cs
 | .node k pl mi nt mn mx l, cs, h => by
  unfold PatAt at h ⊢
  obtain ⟨ao, cap, h1, h2, h3, h4, h5, h6⟩ := h
  exact ⟨ao, cap, h1, h2, h3, h4, h5, PatsAt.keep ht hS h6⟩
theorem PatsAt.keep {K S : Nat → Prop} {A B : World} (ht : Turn S A B) (hS : ∀ g, K g → ¬ S g) : ∀ {l : List Pat} {ao : Option Addr} {i : Nat}, PatsAt K A l ao i → PatsAt K B l ao i
 | [], _, _, _ => by unfold PatsAt; trivial
 | p :: l, ao, i, h => by
  unfold PatsAt at h ⊢
  obtain ⟨⟨g, off, cs, h1, h2, h3, h4, h5⟩, h6⟩ := h
  exact ⟨⟨g, off, cs, h1, h2, Nat.lt_of_lt_of_le h3 ht.size, rangeAt_turn ht h4 (hS g h2), PatAt.keep ht hS h5⟩, PatsAt.keep ht hS h6⟩
end
theorem PatAt.ext {K : Nat → Prop} {A B : World} {p : Pat} {cs : List Value} (h : PatAt K A p cs) (ht : Ext A B) : PatAt K B p cs := h.keep ht fun _ _ h => h
theorem PatsAt.ext {K : Nat → Prop} {A B : World} {l : List Pat} {ao : Option Addr} {i : Nat} (h : PatsAt K A l ao i) (ht : Ext A B) : PatsAt K B l ao i := h.keep ht fun _ _ h => h
mutual
theorem PatAt.mono {K L : Nat → Prop} {A : World} (hK : ∀ g, K g → L g) : ∀ {p : Pat} {cs : List Value}, PatAt K A p cs → PatAt L A p cs
 | .node k pl mi nt mn mx l, cs, h => by
  unfold PatAt at h ⊢
  obtain ⟨ao, cap, h1, h2, h3, h4, h5, h6⟩ := h
  exact ⟨ao, cap, h1, h2, h3, h4, h5, PatsAt.mono hK h6⟩
theorem PatsAt.mono {K L : Nat → Prop} {A : World} (hK : ∀ g, K g → L g) : ∀ {l : List Pat} {ao : Option Addr} {i : Nat}, PatsAt K A l ao i → PatsAt L A l ao i
 | [], _, _, _ => by unfold PatsAt; trivial
 | p :: l, ao, i, h => by
  unfold PatsAt at h ⊢
  obtain ⟨⟨g, off, cs, h1, h2, h3, h4, h5⟩, h6⟩ := h
  exact ⟨⟨g, off, cs, h1, hK g h2, h3, h4, PatAt.mono hK h5⟩, PatsAt.mono hK h6⟩
end
end Go.Ab

namespace Go.Ab
open Go.RowKit

/-- An element of Out. -/
structure OutD where
 frm : Int
 cl : Nat
 st : Nat × Nat
 tk : Nat
 ofi : Int
/-- A law. -/
structure LawD where
 name : ByteArray
 left : Pat
 right : Pat
 ifs : Wd
 outs : List OutD
 mode : Int

def outCells (x : OutD) : List Value := [.int .i64 x.frm, .int .u32 (x.cl : Int), .int .u32 (x.st.1 : Int), .int .u32 (x.st.2 : Int), .int .u32 (x.tk : Int), .int .i64 x.ofi]
def outL (l : List OutD) : List Value := l.flatMap outCells
def OutOk (x : OutD) : Prop := x.cl < 4294967296 ∧ lt32 x.st ∧ x.tk < 4294967296
theorem outL_cons (x : OutD) (l : List OutD) : outL (x :: l) = outCells x ++ outL l := rfl
theorem outL_length (l : List OutD) : (outL l).length = l.length * 6 := by
 induction l with
 | nil => rfl
 | cons x l ih => rw [outL_cons, List.length_append, ih]; simp [outCells]; omega
theorem outL_get : ∀ (l : List OutD) (i j : Nat) (h : i < l.length), j < 6 → (outL l)[i * 6 + j]? = (outCells l[i])[j]?
 | [], i, j, h, _ => by simp at h
 | x :: l, 0, j, _, hj => by rw [outL_cons, Nat.zero_mul, Nat.zero_add, List.getElem?_append_left (by simpa [outCells] using hj)]; rfl
 | x :: l, i + 1, j, h, hj => by
  rw [outL_cons, List.getElem?_append_right (by simp [outCells]; omega), show (i + 1) * 6 + j - (outCells x).length = i * 6 + j by simp [outCells]; omega]
  exact outL_get l i j (by simpa using h) hj
/-- v is a slice that reads as these elements. -/
def OutsAt (w : World) (v : Value) (l : List OutD) : Prop := Rd w v l.length 6 (outL l) ∧ ∀ x ∈ l, OutOk x
theorem OutsAt.ext {A B : World} {v : Value} {l : List OutD} (h : OutsAt A v l) (ht : Ext A B) : OutsAt B v l := ⟨h.1.ext ht, h.2⟩
theorem OutsAt.slice {w : World} {v : Value} {l : List OutD} (h : OutsAt w v l) : ∃ ao cap, v = .slice ao l.length cap ∧ l.length ≤ maxLen := by
 obtain ⟨⟨_, h2, ao, cap, hv, _⟩, _⟩ := h
 exact ⟨ao, cap, hv, h2⟩
/-- The cells of one element. -/
theorem OutsAt.at {w : World} {v : Value} {l : List OutD} (h : OutsAt w v l) {i : Nat} (hi : i < l.length) :
  ∃ g off cap, v = .slice (some ⟨g, off, none⟩) l.length cap ∧ g < w.heap.size ∧ OutOk l[i] ∧ w.cell? ⟨g, off + i * 6, none⟩ = some (.int .i64 l[i].frm) ∧ w.cell? ⟨g, off + i * 6 + 1, none⟩ = some (.int .u32 (l[i].cl : Int)) ∧ w.cell? ⟨g, off + i * 6 + 2, none⟩ = some (.int .u32 (l[i].st.1 : Int)) ∧
   w.cell? ⟨g, off + i * 6 + 3, none⟩ = some (.int .u32 (l[i].st.2 : Int)) ∧ w.cell? ⟨g, off + i * 6 + 4, none⟩ = some (.int .u32 (l[i].tk : Int)) ∧ w.cell? ⟨g, off + i * 6 + 5, none⟩ = some (.int .i64 l[i].ofi) := by
 obtain ⟨⟨h1, h2, ao, cap, hv, h3⟩, h4⟩ := h
 obtain ⟨g, off, ha, hg, hc⟩ := h3 (by omega)
 have key : ∀ j, j < 6 → w.cell? ⟨g, off + i * 6 + j, none⟩ = (outCells l[i])[j]? := fun j hj => by
  have hlt : i * 6 + j < l.length * 6 := by omega
  rw [Nat.add_assoc, hc (i * 6 + j) hlt, ← outL_get l i j hi hj, List.getD_eq_getElem?_getD, List.getElem?_eq_getElem (by rw [outL_length]; exact hlt)]
  rfl
 exact ⟨g, off, cap, by rw [hv, ha], hg, h4 _ (List.getElem_mem hi), key 0 (by decide), key 1 (by decide), key 2 (by decide), key 3 (by decide), key 4 (by decide), key 5 (by decide)⟩

/-- The eighteen cells of a law. -/
def lawCells (name : ByteArray) (lc rc : List Value) (iv ov : Value) (mode : Int) : List Value := .string name :: (lc ++ (rc ++ [iv, ov, .int .i64 mode]))
/-- These cells are this law. -/
def LawAt (w : World) (l : LawD) (cs : List Value) : Prop :=
 ∃ lc rc iv ov, cs = lawCells l.name lc rc iv ov l.mode ∧ l.name.size ≤ maxLen ∧ PatAt (fun g => g < w.heap.size) w l.left lc ∧ PatAt (fun g => g < w.heap.size) w l.right rc ∧ WordAt w iv l.ifs ∧ OutsAt w ov l.outs
theorem LawAt.ext {A B : World} {l : LawD} {cs : List Value} (h : LawAt A l cs) (ht : Ext A B) : LawAt B l cs := by
 obtain ⟨lc, rc, iv, ov, h1, h2, h3, h4, h5, h6⟩ := h
 have hb : ∀ g, g < A.heap.size → g < B.heap.size := fun g hg => Nat.lt_of_lt_of_le hg ht.size
 exact ⟨lc, rc, iv, ov, h1, h2, PatAt.mono hb (h3.ext ht), PatAt.mono hb (h4.ext ht), h5.ext ht, h6.ext ht⟩
end Go.Ab

namespace Go.Proofs.YtedhogbocifipaaGreatDoor
open Go.RowKit Go.Ab
theorem rd_blk {w : World} {g n cap sz : Nat} {xs : List Value} {t : TypeId} (h : w.heap[g]? = some (.cells xs.toArray t (0, 0))) (hl : xs.length = n * sz) (hn : n ≤ maxLen) : Rd w (.slice (some ⟨g, 0, none⟩) n cap) n sz xs := by
 refine ⟨hl, hn, _, cap, rfl, fun _ => ⟨g, 0, rfl, (Array.getElem?_eq_some_iff.1 h).1, fun j hj => ?_⟩⟩
 rw [Nat.zero_add]
 have : j < xs.length := by omega
 simp [World.cell?, h, List.getD_eq_getElem?_getD, this]
theorem pat_leaf (K : Nat → Prop) (w : World) (k : Int) {pl mi : Nat} (nt : Bool) (mn mx : Int) (h1 : pl < 4294967296) (h2 : mi < 4294967296) : PatAt K w (.node k pl mi nt mn mx []) [.int .i64 k, .int .u32 (pl : Int), .int .u32 (mi : Int), .bool nt, .int .i64 mn, .int .i64 mx, .slice none 0 0] := by
 unfold PatAt
 exact ⟨none, 0, rfl, h1, h2, by simp, by simp [maxLen], by unfold PatsAt; trivial⟩
end Go.Proofs.YtedhogbocifipaaGreatDoor

namespace Go.Ab
/-- The numbers 0, 1, .. -/
def upTo (n : Nat) : List Int := (List.range n).map fun (i : Nat) => (i : Int)
def ownB (F : List Int) : Bool := decide (F = upTo F.length)
def seenB (F : List Int) : Bool := (List.range F.length).all fun i => F.contains (i : Int)
def kindF (F : List Int) : Int := if ownB F = true then 1 else if seenB F = true then 4 else 5
theorem upTo_length (n : Nat) : (upTo n).length = n := by simp [upTo]
theorem upTo_sorted (n : Nat) : (upTo n).Pairwise (· ≤ ·) := by
 unfold upTo
 rw [List.pairwise_map]
 exact List.pairwise_lt_range.imp (fun h => by omega)
theorem upTo_nodup (n : Nat) : (upTo n).Nodup := by
 unfold upTo
 show List.Pairwise _ _
 rw [List.pairwise_map]
 exact List.pairwise_lt_range.imp (fun h => by omega)
theorem mem_upTo {n : Nat} {x : Int} : x ∈ upTo n ↔ ∃ i, i < n ∧ x = (i : Int) := by
 unfold upTo
 rw [List.mem_map]
 constructor
 ·rintro ⟨i, hi, rfl⟩; exact ⟨i, List.mem_range.1 hi, rfl⟩
 ·rintro ⟨i, hi, rfl⟩; exact ⟨i, List.mem_range.2 hi, rfl⟩
theorem perm_of_sub : ∀ {U F : List Int}, U.Nodup → (∀ x ∈ U, x ∈ F) → F.length ≤ U.length → U.Perm F
 | [], F, _, _, hl => by
  obtain rfl : F = [] := List.eq_nil_of_length_eq_zero (by simpa using hl)
  exact List.Perm.refl _
 | a :: U, F, hn, hs, hl => by
  have ha := hs a (by simp)
  have hn2 := List.nodup_cons.1 hn
  have h := perm_of_sub (U := U) (F := F.erase a) hn2.2 (fun x hx => (List.mem_erase_of_ne (by rintro rfl; exact hn2.1 hx)).2 (hs x (by simp [hx]))) (by rw [List.length_erase_of_mem ha]; simp at hl; omega)
  exact (h.cons a).trans (List.perm_cons_erase ha).symm
theorem seen_perm {F : List Int} (h : seenB F = true) : F.Perm (upTo F.length) := by
 have hs : ∀ x ∈ upTo F.length, x ∈ F := by
  intro x hx
  obtain ⟨i, hi, rfl⟩ := mem_upTo.1 hx
  have := List.all_eq_true.1 h i (List.mem_range.2 hi)
  simpa using this
 exact (perm_of_sub (upTo_nodup _) hs (by rw [upTo_length]; exact Nat.le_refl _)).symm
theorem perm_seen {F : List Int} (h : F.Perm (upTo F.length)) : seenB F = true := by
 unfold seenB
 rw [List.all_eq_true]
 intro i hi
 have : (i : Int) ∈ F := h.mem_iff.2 (mem_upTo.2 ⟨i, List.mem_range.1 hi, rfl⟩)
 simpa using this
theorem sorted_eq {L : List Int} {n : Nat} (hp : L.Perm (upTo n)) (hs : L.Pairwise (· ≤ ·)) : L = upTo n :=
 List.Perm.eq_of_pairwise (fun _ _ _ _ h1 h2 => Int.le_antisymm h1 h2) hs (upTo_sorted n) hp
/-- What the program finds. -/
theorem kind_prog {F L : List Int} (hp : L.Perm F) (hs : L.Pairwise (· ≤ ·)) : (L = upTo F.length ↔ seenB F = true) := by
 constructor
 ·intro h; exact perm_seen (h ▸ hp.symm)
 ·intro h; exact sorted_eq (hp.trans (seen_perm h)) hs
theorem own_seen {F : List Int} (h : ownB F = true) : seenB F = true := by
 have : F = upTo F.length := by simpa [ownB] using h
 exact perm_seen (by rw [← this])
theorem own_sorted {F : List Int} (h : seenB F = true) : (ownB F = true ↔ F.Pairwise (· ≤ ·)) := by
 constructor
 ·intro h1
  have : F = upTo F.length := by simpa [ownB] using h1
  rw [this]; exact upTo_sorted _
 ·intro h1
  have := sorted_eq (seen_perm h) h1
  simpa [ownB] using this
end Go.Ab

namespace Go.Ab
open Go.RowKit

theorem andn_eq (a : Nat) {b : Nat} (hb : b < 4294967296) : a &&& (4294967295 - b) = andn a b := by
 unfold andn
 congr 1
 refine Nat.eq_of_testBit_eq fun i => ?_
 rw [Nat.testBit_xor, ones32]
 have := Nat.testBit_two_pow_sub_succ (n := 32) (x := b) hb i
 rw [show (2 ^ 32 - (b + 1) : Nat) = 4294967295 - b by omega] at this
 rw [this]
 by_cases hi : i < 32
 ·simp [hi]
 ·rw [high32 hb (by omega)]; simp [hi]
theorem andn32 (a b : Nat) (ha : a < 4294967296) (hb : b < 4294967296) : bits .andNot .u32 (a : Int) (b : Int) = ((andn a b : Nat) : Int) := by
 rw [u32_andNot_nat a b ha hb, andn_eq a hb]
theorem bit32 (x n : Nat) (hx : x < 4294967296) : (bits .and .u32 ((x : Int) / 2 ^ n) 1 == 1) = x.testBit n := by
 have e : ((x : Int) / 2 ^ n) = ((x / 2 ^ n : Nat) : Int) := by simp
 have hlt : x / 2 ^ n < 4294967296 := Nat.lt_of_le_of_lt (Nat.div_le_self _ _) hx
 have h1 := u32_and_nat (x / 2 ^ n) 1 hlt (by decide)
 rw [e, show (1 : Int) = ((1 : Nat) : Int) from rfl, h1, Nat.and_one_is_mod, Nat.testBit_eq_decide_div_mod_eq, Bool.eq_iff_iff, beq_iff_eq, decide_eq_true_iff]
 omega
theorem wrap32 {f : Nat} (hf : f < 32) : IntKind.u32.wrap (2 ^ f) = ((2 ^ f : Nat) : Int) := by
 have h1 : 2 ^ f < 4294967296 := by
  have := Nat.pow_lt_pow_right (a := 2) (by decide) hf
  simpa using this
 rw [IntKind.wrap_u32]
 have e : ((2 : Int) ^ f) = ((2 ^ f : Nat) : Int) := by simp
 rw [e]
 generalize 2 ^ f = p at h1
 omega
theorem pow32 {f : Nat} (hf : f < 32) : 2 ^ f < 4294967296 := by
 have := Nat.pow_lt_pow_right (a := 2) (by decide) hf
 simpa using this
end Go.Ab

namespace Go.Proofs.YtedhogbocifipaaGreatDoor
open Go.RowKit Go.Ab
attribute [local go_sem] Oper.semAt_some wide_fn wide_depth

abbrev sV (s : Nat × Nat) : Value := .agg #[.int .u32 (s.1 : Int), .int .u32 (s.2 : Int)]

theorem fvalid_any {s : Nat × Nat} (hs : lt32 s) (w : World) :
  Calls Tryz.prog 44 #[sV s] w fun e w' => e = .returned (.bool (okS s)) ∧ Ext w w' := by
 obtain ⟨a, b⟩ := s
 obtain ⟨ha, hb⟩ := hs
 obtain ⟨o1, o2⟩ := okSound_bits ha hb
 have hl : a ||| b < 4294967296 := Nat.or_lt_two_pow (n := 32) ha hb
 have hok : okS (a, b) = ((a &&& b == 0) && ((a ||| b) / 16777216 == 0)) := rfl
 obtain ⟨x, hx⟩ : ∃ x, (a &&& b == 0) = x := ⟨_, rfl⟩
 obtain ⟨c, hc⟩ : ∃ c, a ||| b = c := ⟨_, rfl⟩
 rw [hx] at o1 hok
 rw [hc] at o2 hok hl
 have hy : (c / 16777216 == 0) = decide ((c : Int) ≤ 16777215) := by
  apply Bool.eq_iff_iff.2
  rw [beq_iff_eq, decide_eq_true_iff]; omega
 rw [hy] at hok
 obtain ⟨y, hyy⟩ : ∃ y, decide ((c : Int) ≤ 16777215) = y := ⟨_, rfl⟩
 rw [hyy] at hok
 have HOK := Lib.hid hok
 clear hok hx hc hy
 dsimp only at ha hb
 cases y
 ·have h2 : ¬ (c : Int) ≤ 16777215 := of_decide_eq_false hyy
  clear hyy
  go_enter Tryz.func44, Tryz.ntmps44
  cases x
  all_goals
   go_wp2
   go_ret
   exact ⟨by rw [HOK.out]; rfl, (Turn.refl _ _).alloc _⟩
 ·have h2 : (c : Int) ≤ 16777215 := of_decide_eq_true hyy
  clear hyy
  go_enter Tryz.func44, Tryz.ntmps44
  cases x
  all_goals
   go_wp2
   go_ret
   exact ⟨by rw [HOK.out]; rfl, (Turn.refl _ _).alloc _⟩

theorem fhas_any {s : Nat × Nat} (hs : lt32 s) (w : World) :
  Calls Tryz.prog 155 #[sV s] w fun e w' => e = .returned (.int .u32 ((s.1 ||| s.2 : Nat) : Int)) ∧ Ext w w' := by
 obtain ⟨a, b⟩ := s
 obtain ⟨ha, hb⟩ := hs
 have o2 := u32_or_nat a b ha hb
 dsimp only at ha hb ⊢
 go_enter Tryz.func155, Tryz.ntmps155
 go_wp2
 go_ret
 exact ⟨rfl, (Turn.refl _ _).alloc _⟩

theorem fmix_any {s f : Nat × Nat} {m : Nat} (hs : lt32 s) (hf : lt32 f) (hm : m < 4294967296) (w : World) :
  Calls Tryz.prog 156 #[sV s, sV f, .int .u32 (m : Int)] w fun e w' => e = .returned (sV (mixS s f m)) ∧ Ext w w' := by
 obtain ⟨a, b⟩ := s
 obtain ⟨c, d⟩ := f
 obtain ⟨ha, hb⟩ := hs
 obtain ⟨hc, hd⟩ := hf
 dsimp only at ha hb hc hd
 have o1 := andn32 a m ha hm
 have o2 := andn32 b m hb hm
 have o3 := u32_and_nat c m hc hm
 have o4 := u32_and_nat d m hd hm
 have l3 : c &&& m < 4294967296 := Nat.lt_of_le_of_lt Nat.and_le_left hc
 have l4 : d &&& m < 4294967296 := Nat.lt_of_le_of_lt Nat.and_le_left hd
 have o5 := u32_or_nat (andn a m) (c &&& m) (andn_lt ha) l3
 have o6 := u32_or_nat (andn b m) (d &&& m) (andn_lt hb) l4
 clear l3 l4
 go_enter Tryz.func156, Tryz.ntmps156
 go_wp2
 refine bodyPost_ret (results_cell_row rfl _ _ (w.heap.size + 1 + 1) _ #[.int .u32 ((andn a m ||| c &&& m : Nat) : Int), .int .u32 ((andn b m ||| d &&& m : Nat) : Int)] _ _ rfl (new_at (by simp)) Tryz.underlying24 rfl (by kernel_rfl)) rfl ?_
 exact ⟨rfl, (((Turn.refl _ _).alloc _).alloc _).alloc _⟩

theorem snd_result2 {fn : Func} {p u : Tmp} (h : fn.results = #[.cell p 24, .tmp u]) {tmps : Array Value} {w : World} {g : Nat} {cs : Array Value} (hp : tmps.getD p undef = .pointer (some ⟨g, 0, none⟩)) (hg : w.heap[g]? = some (.cells cs 24 (0, 0))) (hi : (Tryz.prog.info? 24).map (·.size) = some cs.size) :
  (results fn tmps).run Tryz.prog w = .ok (.tuple #[.agg cs, tmps.getD u undef]) w := by
 have hp' : tmps[p]?.getD undef = .pointer (some ⟨g, 0, none⟩) := by simpa using hp
 simp [results, h, hp', asAddr, run_loadVar_row w g _ _ _ _ _ hg Tryz.underlying24 rfl hi]

/-- Does a sound satisfy a condition? -/
def satV (s c : Nat × Nat) : Bool := okS s && okS c && satS s c
theorem satS_andn {s c : Nat × Nat} (hc : lt32 c) : satS s c = (andn c.1 s.1 == 0 && andn c.2 s.2 == 0) := by
 unfold satS
 apply Bool.eq_iff_iff.2
 simp only [Bool.and_eq_true, beq_iff_eq]
 rw [andn_zero hc.1, andn_zero hc.2]

theorem fsat_any {s c : Nat × Nat} (hs : lt32 s) (hc : lt32 c) (w : World) :
  Calls Tryz.prog 89 #[sV s, sV c] w fun e w' => e = .returned (.bool (satV s c)) ∧ Ext w w' := by
 have hv1 := fun (V : World) => fvalid_any hs V
 have hv2 := fun (V : World) => fvalid_any hc V
 have hsat : satV s c = (okS s && okS c && (andn c.1 s.1 == 0 && andn c.2 s.2 == 0)) := by unfold satV; rw [satS_andn hc]
 obtain ⟨a, b⟩ := s
 obtain ⟨c, d⟩ := c
 obtain ⟨ha, hb⟩ := hs
 obtain ⟨hc, hd⟩ := hc
 dsimp only at ha hb hc hd
 have o1 := andn32 c a hc ha
 have o2 := andn32 d b hd hb
 dsimp only at hsat
 obtain ⟨x, hx⟩ : ∃ x, okS (a, b) = x := ⟨_, rfl⟩
 obtain ⟨y, hy⟩ : ∃ x, okS (c, d) = x := ⟨_, rfl⟩
 obtain ⟨z, hz⟩ : ∃ x, satV (a, b) (c, d) = x := ⟨_, rfl⟩
 obtain ⟨p, hp⟩ : ∃ x, andn c a = x := ⟨_, rfl⟩
 obtain ⟨q, hq⟩ : ∃ x, andn d b = x := ⟨_, rfl⟩
 rw [hx] at hv1
 rw [hy] at hv2
 rw [hx, hy, hz, hp, hq] at hsat
 rw [hp] at o1
 rw [hq] at o2
 rw [hz]
 have HV1 := Lib.hid hv1; have HV2 := Lib.hid hv2; have HS := Lib.hid hsat
 clear hv1 hv2 hsat hx hy hz hp hq
 go_enter Tryz.func89, Tryz.ntmps89
 go_wp2_with fail
 have hE1 : Ext w ((w.alloc (.cells #[.int .u32 (a : Int), .int .u32 (b : Int)] 24)).alloc (.cells #[.int .u32 (c : Int), .int .u32 (d : Int)] 24)) := ((Turn.refl _ w).alloc _).alloc _
 have h1 : ((w.alloc (.cells #[.int .u32 (a : Int), .int .u32 (b : Int)] 24)).alloc (.cells #[.int .u32 (c : Int), .int .u32 (d : Int)] 24)).heap[w.heap.size]? = some (.cells #[.int .u32 (a : Int), .int .u32 (b : Int)] 24 (0, 0)) := new_keep (new_at rfl)
 have h2 : ((w.alloc (.cells #[.int .u32 (a : Int), .int .u32 (b : Int)] 24)).alloc (.cells #[.int .u32 (c : Int), .int .u32 (d : Int)] 24)).heap[w.heap.size + 1]? = some (.cells #[.int .u32 (c : Int), .int .u32 (d : Int)] 24 (0, 0)) := new_at (by simp)
 refine (HV1.out _).mono ?_
 generalize ((w.alloc (.cells #[.int .u32 (a : Int), .int .u32 (b : Int)] 24)).alloc (.cells #[.int .u32 (c : Int), .int .u32 (d : Int)] 24)) = w1 at hE1 h1 h2 ⊢
 generalize w.heap.size = B at h1 h2 ⊢
 rintro e w2 ⟨rfl, hE2⟩
 have hE02 := hE1.trans hE2
 have g1 := hE2.keep h1
 have g2 := hE2.keep h2
 have cX := fun j => cell_of_row _ _ j _ _ _ g1
 have cY := fun j => cell_of_row _ _ j _ _ _ g2
 clear hE2 h1 h2 hE1
 cases x
 ·clear g1 g2
  go_wp2
  go_ret
  exact ⟨by rw [HS.out]; rfl, hE02⟩
 ·go_wp2_with fail
  refine (HV2.out _).mono ?_
  rintro e w3 ⟨rfl, hE3⟩
  have hE03 := hE02.trans hE3
  have k1 := hE3.keep g1
  have k2 := hE3.keep g2
  clear cX cY hE3 hE02 g1 g2
  have cX := fun j => cell_of_row _ _ j _ _ _ k1
  have cY := fun j => cell_of_row _ _ j _ _ _ k2
  clear k1 k2
  cases y
  ·go_wp2
   go_ret
   exact ⟨by rw [HS.out]; rfl, hE03⟩
  ·by_cases hp : p = 0
   ·subst hp
    have q2 : ((q : Int) == 0) = (q == 0) := by
     apply Bool.eq_iff_iff.2
     rw [beq_iff_eq, beq_iff_eq]; omega
    go_wp2
    go_ret
    refine ⟨?_, hE03⟩
    rw [HS.out]
    simp
   ·have q1 : ((p : Int) == 0) = false := by rw [beq_eq_false_iff_ne]; omega
    have q2 : (p == 0) = false := by rw [beq_eq_false_iff_ne]; exact hp
    rw [q2] at HS
    clear q2
    go_wp2
    go_ret
    exact ⟨by rw [HS.out]; rfl, hE03⟩
end Go.Proofs.YtedhogbocifipaaGreatDoor

namespace Go.Proofs.YtedhogbocifipaaGreatDoor
open Go.RowKit Go.Ab

/-- The table of math/bits, as its initialiser lays it. -/
def Tab (w : World) : Prop := ∀ j, j < 64 → w.cell? ⟨2, j, none⟩ = some (.int .u8 (Lib.deBruijn64tab.getD j 0))

theorem Tab.keep {S : Nat → Prop} {A B : World} (h : Tab A) (ht : Turn S A B) (hS : ¬ S 2) : Tab B :=
 fun j hj => ht.cell_some (h j hj) hS

theorem tz_core (x k idx : Nat) (w : World) (hx0 : ((x : Int) == 0) = false)
  (key : IntKind.u64.wrap (bits BinOp.and IntKind.u64 (x : Int) (IntKind.u64.wrap (-(x : Int))) * 285870213051353865) / 288230376151711744 = (idx : Int))
  (hi : idx < 64) (hk : k < 64) (hcell : w.cell? ⟨2, idx, none⟩ = some (.int .u8 k)) :
  Calls Tryz.prog 165 #[.int .u64 x] w fun e w' => e = .returned (.int .i64 k) ∧ w = w' := by
 go_enter Tryz.func165, Tryz.ntmps165
 go_wp2_with (simp only [key])
 go_ret
 exact ⟨rfl, rfl⟩

theorem tz_any (x : Nat) (hx : x < 18446744073709551616) (hx0 : x ≠ 0) (w : World) (hT : Tab w) :
  Calls Tryz.prog 165 #[.int .u64 x] w fun e w' => e = .returned (.int .i64 (Lib.ctz 64 x)) ∧ w = w' := by
 obtain ⟨hlow, hk⟩ := Lib.lowest_bit 64 x hx0 hx
 obtain ⟨hi, htab⟩ := Lib.deBruijn64_at _ hk
 have hcell := hT _ hi
 rw [htab] at hcell
 exact tz_core x _ _ w (by simp; omega) (tz64_key x _ hx hx0 hlow) hi hk hcell

end Go.Proofs.YtedhogbocifipaaGreatDoor

namespace Go.Ab

/-- What the loop has, ahead of the round k. -/
def outK (X : Bin2) (n lo k : Nat) : Bin2 := if k ≤ lo then noB else sumB X n lo (k - lo - 1)
theorem outK_zero (X : Bin2) (n lo : Nat) : outK X n lo 0 = noB := by unfold outK; rw [if_pos (Nat.zero_le _)]
theorem outK_skip (X : Bin2) (n : Nat) {lo k : Nat} (h : k < lo) : outK X n lo (k + 1) = outK X n lo k := by
 unfold outK; rw [if_pos (by omega), if_pos (by omega)]
theorem outK_step (X : Bin2) (n : Nat) {lo k : Nat} (h : lo ≤ k) : orB (outK X n lo k) (powB X n k) = outK X n lo (k + 1) := by
 unfold outK
 rw [if_neg (by omega : ¬ k + 1 ≤ lo)]
 by_cases e : k ≤ lo
 ·obtain rfl : k = lo := by omega
  rw [if_pos (Nat.le_refl _), no_orB, show k + 1 - k - 1 = 0 by omega]; rfl
 ·rw [if_neg e, show k + 1 - lo - 1 = (k - lo - 1) + 1 by omega]
  show _ = orB _ (powB X n (lo + (k - lo - 1 + 1)))
  rw [show lo + (k - lo - 1 + 1) = k by omega]
theorem outK_mono {n : Nat} {X : Bin2} (h : Mono n X) (lo k : Nat) : Mono n (outK X n lo k) := by
 unfold outK; split
 ·exact Mono.no n
 ·exact Mono.sum h _ _
theorem outK_max (X : Bin2) (n : Nat) {mn mx : Int} {k : Nat} (h0 : 0 ≤ mn) (h1 : mn ≤ mx) (hk : (k : Int) = mx) : outK X n mn.toNat (k + 1) = sumB X n mn.toNat (extra n mn mx) := by
 unfold outK extra
 rw [if_neg (by omega), if_neg (by omega)]
 congr 1; omega
theorem outK_stable {n : Nat} (hn : n ≤ 32) {X : Bin2} (h : Mono n X) {mn mx : Int} {k : Nat} (h0 : 0 ≤ mn) (_h1 : mx = -1 ∨ mn ≤ mx) (hk : mn < k) (hx : mx = -1 ∨ (k : Int) ≤ mx) (he : outK X n mn.toNat k = outK X n mn.toNat (k + 1)) :
  outK X n mn.toNat (k + 1) = sumB X n mn.toNat (extra n mn mx) := by
 rw [← he]
 have e1 : outK X n mn.toNat k = sumB X n mn.toNat (k - mn.toNat - 1) := by unfold outK; rw [if_neg (by omega)]
 have e2 : outK X n mn.toNat (k + 1) = sumB X n mn.toNat (k - mn.toNat - 1 + 1) := by
  unfold outK; rw [if_neg (by omega)]; congr 1; omega
 rw [e1]
 have hs : sumB X n mn.toNat (k - mn.toNat - 1 + 1) = sumB X n mn.toNat (k - mn.toNat - 1) := by rw [← e2, ← he, e1]
 unfold extra
 by_cases hx0 : mx < 0
 ·rw [if_pos hx0]
  by_cases hfar : n ≤ k - mn.toNat - 1
  ·exact sum_far hn h _ _ hfar
  ·exact (sum_stable hn h hs n (by omega)).symm
 ·rw [if_neg hx0]
  exact (sum_stable hn h hs _ (by omega)).symm
theorem outK_far {n : Nat} (hn : n ≤ 32) {X : Bin2} (h : Mono n X) {lo k : Nat} (hk : lo + n + 1 ≤ k) : outK X n lo k = outK X n lo (k + 1) := by
 unfold outK
 rw [if_neg (by omega), if_neg (by omega), sum_far hn h lo (k - lo - 1) (by omega), sum_far hn h lo (k + 1 - lo - 1) (by omega)]

/-! ### Rows of bits -/

def rowM (X : Bin2) (a : Nat) : Nat := mask 33 (X a)
theorem rowM_inj {n : Nat} (hn : n ≤ 32) {X Y : Bin2} (hX : Mono n X) (hY : Mono n Y) (h : ∀ a, a ≤ n → rowM X a = rowM Y a) : X = Y := by
 apply bin_ext; intro a b
 constructor
 ·intro hh
  have h1 := hX _ _ hh
  have := congrArg (fun v => Nat.testBit v b) (h a (by omega))
  simp only [rowM, testBit_mask] at this
  rw [hh] at this
  simp only [show b < 33 by omega, decide_true, Bool.true_and] at this
  exact this.symm
 ·intro hh
  have h1 := hY _ _ hh
  have := congrArg (fun v => Nat.testBit v b) (h a (by omega))
  simp only [rowM, testBit_mask] at this
  rw [hh] at this
  simp only [show b < 33 by omega, decide_true, Bool.true_and] at this
  exact this
theorem rowM_out {n : Nat} {X : Bin2} (hX : Mono n X) {a : Nat} (h : n < a) : rowM X a = 0 := by
 have : X a = fun _ => false := by
  funext b
  cases hh : X a b with
  | false => rfl
  | true => have := hX _ _ hh; omega
 rw [rowM, this, mask_zero]
theorem rowM_or (X Y : Bin2) (a : Nat) : rowM X a ||| rowM Y a = rowM (orB X Y) a := by
 unfold rowM; rw [mask_or]; rfl
theorem rowM_no (a : Nat) : rowM noB a = 0 := mask_zero 33
theorem rowM_id {n a : Nat} (hn : n ≤ 32) (h : a ≤ n) : rowM (idB n) a = 2 ^ a := by
 rw [two_pow_mask (n := 33) (by omega)]
 exact mask_congr fun i _ => by
  apply Bool.eq_iff_iff.2
  rw [idB_iff, beq_iff_eq]
  omega
theorem rowM_bit (X : Bin2) {a b : Nat} (hb : b < 33) : (rowM X a).testBit b = X a b := by
 rw [rowM, testBit_mask]; simp [hb]

/-- The part of a row that has been collected over these places. -/
def partB (Y : Bin2) (pre : List Nat) : Nat := mask 33 fun c => pre.any fun b => Y b c
theorem partB_nil (Y : Bin2) : partB Y [] = 0 := mask_zero 33
theorem partB_snoc (Y : Bin2) (pre : List Nat) (b : Nat) : partB Y (pre ++ [b]) = partB Y pre ||| rowM Y b := by
 unfold partB rowM
 rw [mask_or]
 exact mask_congr fun i _ => by simp
theorem partB_all (X Y : Bin2) (a : Nat) : partB Y ((List.range 33).filter (X a)) = rowM (comp X Y) a := by
 unfold partB rowM comp
 exact mask_congr fun i _ => by rw [List.any_filter]
theorem evs_rowM (X : Bin2) (a : Nat) : evs (rowM X a) = (List.range 33).filter (X a) := evs_mask 33 (by decide) _
theorem partB_upto {n : Nat} (hn : n ≤ 32) {X : Bin2} (hX : Mono n X) (Y : Bin2) (a : Nat) : partB Y ((List.range (n + 1)).filter (X a)) = rowM (comp X Y) a := by
 rw [← partB_all]
 congr 1
 have h33 : 33 = (n + 1) + (32 - n) := by omega
 have e : ((List.range (32 - n)).map (fun x => n + 1 + x)).filter (X a) = [] := by
  rw [List.filter_eq_nil_iff]
  intro b hb hh
  obtain ⟨j, _, rfl⟩ := List.mem_map.1 hb
  have := hX _ _ hh; omega
 have e2 : List.range 33 = List.range (n + 1) ++ (List.range (32 - n)).map (fun x => n + 1 + x) := by
  rw [← List.range_add]; exact congrArg _ h33
 rw [e2, List.filter_append, e, List.append_nil]
theorem filter_snoc (p : Nat → Bool) (b : Nat) : (List.range (b + 1)).filter p = (List.range b).filter p ++ (if p b = true then [b] else []) := by
 rw [List.range_succ, List.filter_append]
 congr 1
 by_cases h : p b = true <;> simp [h]
end Go.Ab

namespace Go.Proofs.YtedhogbocifipaaGreatDoor
open Go.RowKit Go.Ab
attribute [local go_sem] Oper.semAt_some wide_fn wide_depth

/-- Without its lowest bit. -/
theorem andNot_low (v : Nat) (hv : v < 18446744073709551616) (h0 : v ≠ 0) :
  bits BinOp.andNot IntKind.u64 (v : Int) (IntKind.u64.wrap (2 ^ Lib.ctz 64 v)) = ((v &&& (v - 1) : Nat) : Int) := by
 obtain ⟨m, hm, hk⟩ := ctz_form v h0 (by simpa using hv)
 generalize Lib.ctz 64 v = k at hm hk
 have hp : 2 ^ k < 18446744073709551616 := by
  have := Nat.pow_lt_pow_right (a := 2) (by decide) hk
  simpa using this
 have e : IntKind.u64.wrap (2 ^ k) = ((2 ^ k : Nat) : Int) := by
  rw [IntKind.wrap_u64]
  have e : ((2 : Int) ^ k) = ((2 ^ k : Nat) : Int) := by simp
  rw [e]
  generalize 2 ^ k = P at hp
  omega
 rw [e, u64_andNot_nat _ _ hv hp]
 congr 1
 apply Nat.eq_of_testBit_eq
 intro i
 have h1 : (18446744073709551615 - 2 ^ k).testBit i = (decide (i < 64) && !(2 ^ k).testBit i) := by
  have := Nat.testBit_two_pow_sub_succ (n := 64) (x := 2 ^ k) (by simpa using hp) i
  simpa using this
 have h2 : v.testBit i = (decide (i = k) || (decide (k < i) && m.testBit (i - (k + 1)))) := by rw [hm]; exact testBit_form k m i
 have h3 : (v &&& (v - 1)).testBit i = (decide (k < i) && m.testBit (i - (k + 1))) := by
  rw [hm, and_pred, Nat.testBit_two_pow_mul]
  simp only [ge_iff_le, Nat.succ_le_iff]
 rw [h3, Nat.testBit_and, h1, h2, Nat.testBit_two_pow]
 by_cases hik : i = k
 ·subst hik; simp
 ·have hki : ¬ k = i := fun e => hik e.symm
  simp only [hik, hki, decide_false, Bool.false_or, Bool.not_false, Bool.and_true]
  by_cases h64 : i < 64
  ·simp [h64]
  ·have hv2 : v.testBit i = false := Nat.testBit_lt_two_pow (Nat.lt_of_lt_of_le hv (Nat.pow_le_pow_right (n := 2) (by decide) (show 64 ≤ i by omega)))
   rw [h2] at hv2
   simp only [hik, decide_false, Bool.false_or] at hv2
   simp [hv2]

def SBox (w : World) (bx : Nat) (v : Nat) : Prop := w.heap[bx]? = some (.cells #[.int .u64 v] 147 (0, 0))
theorem SBox.cell {w : World} {bx v : Nat} (h : SBox w bx v) : w.cell? ⟨bx, 0, none⟩ = some (.int .u64 v) := cell_of_one h
theorem SBox.free {w : World} {bx v : Nat} (h : SBox w bx v) : w.frozen? ⟨bx, 0, none⟩ = false := free_of_one h
theorem SBox.store {w : World} {bx v : Nat} (u : Nat) (h : SBox w bx v) : SBox (w.setCell ⟨bx, 0, none⟩ (.int .u64 u)) bx u := one_setCell h
def sLeft (w : World) (bx : Nat) : Nat := match w.cell? ⟨bx, 0, none⟩ with | some (.int _ n) => n.toNat | _ => 0
theorem sLeft_eq {w : World} {bx v : Nat} (h : SBox w bx v) : sLeft w bx = v := by unfold sLeft; rw [h.cell]; simp
theorem low_lt (v : Nat) (hv : v < 18446744073709551616) : v &&& (v - 1) < 18446744073709551616 := by
 have := Nat.and_le_left (n := v) (m := v - 1)
 omega
theorem low_lt' (v : Nat) (h0 : v ≠ 0) : (v &&& (v - 1)) < v := by
 have := Nat.and_le_right (n := v) (m := v - 1)
 omega

theorem all_iter (v : Nat) (hv : v < 18446744073709551616) (bx : Nat) (hbx : bx ≠ 2) (w : World) (hb : SBox w bx v) (hT : Tab w) :
  Iter Tryz.prog 164 #[.pointer (some ⟨bx, 0, none⟩)] (fun x : Nat => #[.int .i64 x]) (evs v) (· = bx) (fun b => b = bx ∨ b = 2) w := by
 intro l J Jx W ht hJ hJx hY h0
 have hbW : SBox W bx v := ht.heap hb (by simp)
 have hTW : Tab W := hT.keep ht (by simp)
 refine callsIn_wide.1 (callsIn_of_wp (n := 0) Tryz.func164 rfl trivial ?_ rfl)
 simp only [Tryz.ntmps164, List.size_toArray, List.length_cons, List.length_nil, Nat.reduceAdd, Nat.reduceSub, Array.replicate_succ, Array.replicate_zero, List.push_toArray, List.append_toArray, List.nil_append, List.cons_append]
 gi_wp2
 gi_loopw [3] (fun _ wr => ∃ (pre : List Nat) (u : Nat), SBox wr bx u ∧ u < 18446744073709551616 ∧ evs v = pre ++ evs u ∧ J pre wr ∧ Tab wr)
  (fun _ wr => sLeft wr bx)
 case atStart => exact ⟨[], v, hbW, hv, rfl, h0, hTW⟩
 case round =>
  obtain ⟨pre, u, hbox, hu, hev, hJs, hTs⟩ := hrel
  have hc := hbox.cell
  have hm0 : sLeft wr bx = u := sLeft_eq hbox
  by_cases hu0 : u = 0
  ·subst hu0
   rw [evs_zero, List.append_nil] at hev
   clear hm0
   gi_wp2
   go_end0
   exact ⟨⟨_, rfl⟩, .inl (by rw [hev]; exact hJs)⟩
  ·have hne : ((u : Int) != 0) = true := by simp; omega
   have hcons := evs_cons u hu0 (by simpa using hu)
   rw [hcons] at hev
   have hz64 : Lib.ctz 64 u < 64 := (mem_evs.1 (by rw [hcons]; simp : Lib.ctz 64 u ∈ evs u)).1
   have HC := Lib.hid hcons; clear hcons
   have HM := Lib.hid hm0; clear hm0
   have hp := andNot_low u hu hu0
   obtain ⟨z, hz⟩ : ∃ z, Lib.ctz 64 u = z := ⟨_, rfl⟩
   rw [hz] at hp hz64 hev
   have HE := Lib.hid hev; clear hev
   have htz := tz_any u hu hu0 wr hTs
   rw [hz] at htz
   have HTZ := Lib.hid htz
   clear htz hz
   have hfr := hbox.free
   have hz3 : (z : Int) < 64 := by omega
   have hTs2 : Turn (· = bx) wr (wr.setCell ⟨bx, 0, none⟩ (.int .u64 ((u &&& (u - 1) : Nat) : Int))).drew := (Turn.set1 wr bx 0 _).drew
   have hJ2 := hJ _ _ _ hJs hTs2
   have hb2 : SBox (wr.setCell ⟨bx, 0, none⟩ (.int .u64 ((u &&& (u - 1) : Nat) : Int))).drew bx (u &&& (u - 1)) := drew_keep (SBox.store (w := wr) _ hbox)
   have hT2 : Tab (wr.setCell ⟨bx, 0, none⟩ (.int .u64 ((u &&& (u - 1) : Nat) : Int))).drew := hTs.keep hTs2 (Ne.symm hbx)
   have HT2 := Lib.hid hT2
   have hlow := low_lt u hu
   obtain ⟨fn, tmps, assign, body, hy, hR⟩ := hY pre _ _ _ HE.out hJ2
   gi_wp2_with (gi_at_call 165; refine (callsIn_wide.2 HTZ.out).mono ?_; rintro e w' ⟨rfl, rfl⟩)
   have HY := Lib.hid hy; have HR := Lib.hid hR; have HB2 := Lib.hid hb2
   clear hy hR hTs2 hJ2 hT2 hb2
   refine (wpIn_wide (n := _)).2 ?_
   refine region_still 4 (by kernel_rfl) (by kernel_rfl) ?_
   simp only [List.take_succ_cons, List.take_zero, List.drop_succ_cons, List.drop_zero]
   repeat still_step
   refine wpStill_nil ?_
   go_wp2
   have hy := HY.out
   gi_wp2
   refine HR.out.mono ?_
   rintro e W3 (⟨rfl, hJ3, hk3⟩ | ⟨rfl, hJx3⟩)
   ·have hb3 : SBox W3 bx (u &&& (u - 1)) := hk3.heap HB2.out (by simp)
    have hT3 : Tab W3 := HT2.out.keep hk3 (by simp)
    clear hy hbox hc hTs hJs hp
    gi_wp2
    go_roundw
    case rel => exact ⟨pre ++ [z], u &&& (u - 1), hb3, hlow, by rw [HE.out]; simp, hJ3, hT3⟩
    case measure => rw [HM.out, sLeft_eq hb3]; exact low_lt' u hu0
   ·clear hy
    gi_wp2
    refine bodyPost_ret (results_none rfl _ _ _) rfl ?_
    exact ⟨⟨_, rfl⟩, .inr ⟨pre, _, _, HE.out, hJx3⟩⟩

theorem all_any (v : Int) (w : World) :
  Calls Tryz.prog 148 #[.int .u64 v] w fun e w' => e = .returned (.func (.func 164) #[] #[.pointer (some ⟨w.heap.size, 0, none⟩)]) ∧ w' = w.alloc (.cells #[.int .u64 v] 147) := by
 go_enter Tryz.func148, Tryz.ntmps148
 go_wp2
 go_ret
 exact ⟨rfl, rfl⟩
end Go.Proofs.YtedhogbocifipaaGreatDoor

namespace Go.Ab
open Go.RowKit
def IfCap (l : LawD) (cs : List Value) : Prop := ∃ (io : Option Addr) (ic : Nat), cs[15]? = some (.slice io l.ifs.length ic) ∧ l.ifs.length ≤ ic
end Go.Ab
