/- PLAIN: patterns, their errors, their sizes. -/
import Derived.Test.YtapfoaiibjdfnaaDoorBits
namespace Go.Ab

/-- A pattern, as data. -/
inductive Pat where
  | node (k : Int) (pl mi : Nat) (nt : Bool) (mn mx : Int) (l : List Pat)
namespace Pat
def k : Pat → Int | node k _ _ _ _ _ _ => k
def pl : Pat → Nat | node _ p _ _ _ _ _ => p
def mi : Pat → Nat | node _ _ m _ _ _ _ => m
def nt : Pat → Bool | node _ _ _ b _ _ _ => b
def mn : Pat → Int | node _ _ _ _ x _ _ => x
def mx : Pat → Int | node _ _ _ _ _ x _ => x
def l : Pat → List Pat | node _ _ _ _ _ _ l => l
end Pat

def okSound (pl mi : Nat) : Bool := pl &&& mi == 0 && (pl ||| mi) / 16777216 == 0

/-- The error of a node alone. -/
def nodeE (p : Pat) : Int :=
  if p.k < 0 ∨ 6 < p.k then 2
  else if p.k ≠ 1 ∧ (p.pl ≠ 0 ∨ p.mi ≠ 0 ∨ p.nt = true) then 2
  else if p.k ≠ 3 ∧ p.k ≠ 4 ∧ p.k ≠ 5 ∧ p.l.length ≠ 0 then 2
  else if p.k ≠ 5 ∧ (p.mn ≠ 0 ∨ p.mx ≠ 0) then 2
  else if p.k = 5 ∧ (p.l.length ≠ 1 ∨ p.mn < 0 ∨ 32 < p.mn ∨ (p.mx ≠ -1 ∧ (p.mx < p.mn ∨ 32 < p.mx))) then 2
  else if okSound p.pl p.mi = true then 0 else 14

/-- The first error among the nodes that are still to be examined; f more may be. -/
def chk : Nat → List Pat → Int
  | _, [] => 0
  | 0, _ :: _ => 12
  | f + 1, p :: l => if nodeE p = 0 then chk f (p.l ++ l) else nodeE p
theorem chk_succ (f : Nat) (p : Pat) (l : List Pat) : chk (f + 1) (p :: l) = if nodeE p = 0 then chk f (p.l ++ l) else nodeE p := rfl
def chkP (p : Pat) : Int := chk 40 [p]

/-- The same, a node and then its parts. -/
def bindE (r : Nat × Int) (f : Nat → Nat × Int) : Nat × Int := if r.2 = 0 then f r.1 else r
mutual
def walkP : Pat → Nat → Nat × Int
  | .node k pl mi nt mn mx l, n => if n = 40 then (n, 12) else if nodeE (.node k pl mi nt mn mx l) = 0 then walkL l (n + 1) else (n, nodeE (.node k pl mi nt mn mx l))
def walkL : List Pat → Nat → Nat × Int
  | [], n => (n, 0)
  | p :: l, n => bindE (walkP p n) (walkL l)
end

theorem nodeE_vals (p : Pat) : nodeE p = 0 ∨ nodeE p = 2 ∨ nodeE p = 14 := by
  unfold nodeE
  repeat' split
  all_goals simp

mutual
theorem walkP_chk : ∀ (p : Pat) (n : Nat) (rest : List Pat), n ≤ 40 → ((walkP p n).1 ≤ 40 ∧ n ≤ (walkP p n).1) ∧ chk (40 - n) (p :: rest) = (if (walkP p n).2 = 0 then chk (40 - (walkP p n).1) rest else (walkP p n).2)
  | .node k pl mi nt mn mx l, n, rest, hn => by
    unfold walkP
    by_cases h : n = 40
    · subst h
      rw [if_pos rfl]
      exact ⟨⟨by simp, by simp⟩, by simp [chk]⟩
    · rw [if_neg h]
      obtain ⟨f, hf⟩ : ∃ f, 40 - n = f + 1 := ⟨39 - n, by omega⟩
      rw [hf]
      by_cases he : nodeE (.node k pl mi nt mn mx l) = 0
      · rw [if_pos he]
        have := walkL_chk l (n + 1) rest (by omega)
        refine ⟨⟨this.1.1, by have := this.1.2; omega⟩, ?_⟩
        rw [chk_succ, if_pos he, ← this.2, show 40 - (n + 1) = f by omega]
        rfl
      · rw [if_neg he]
        refine ⟨⟨hn, Nat.le_refl _⟩, ?_⟩
        rw [chk_succ, if_neg he, if_neg he]
theorem walkL_chk : ∀ (l : List Pat) (n : Nat) (rest : List Pat), n ≤ 40 → ((walkL l n).1 ≤ 40 ∧ n ≤ (walkL l n).1) ∧ chk (40 - n) (l ++ rest) = (if (walkL l n).2 = 0 then chk (40 - (walkL l n).1) rest else (walkL l n).2)
  | [], n, rest, hn => by simp [walkL, hn]
  | p :: l, n, rest, hn => by
    have h1 := walkP_chk p n (l ++ rest) hn
    rw [List.cons_append]
    unfold walkL bindE
    by_cases he : (walkP p n).2 = 0
    · rw [if_pos he] at h1 ⊢
      have h2 := walkL_chk l (walkP p n).1 rest h1.1.1
      exact ⟨⟨h2.1.1, Nat.le_trans h1.1.2 h2.1.2⟩, h1.2.trans h2.2⟩
    · rw [if_neg he] at h1 ⊢
      exact ⟨h1.1, by rw [h1.2, if_neg he]⟩
end
theorem walkP_zero (p : Pat) : (walkP p 0).2 = chkP p := by
  have h := (walkP_chk p 0 [] (by omega)).2
  unfold chkP
  rw [h]
  by_cases he : (walkP p 0).2 = 0
  · rw [if_pos he, he]; cases 40 - (walkP p 0).1 <;> rfl
  · rw [if_neg he]

/-- No more than the first f + 1 nodes are ever looked at. -/
theorem chk_take : ∀ (f : Nat) (l : List Pat) (m : Nat), f + 1 ≤ m → chk f (l.take m) = chk f l
  | f, [], m, _ => by simp
  | 0, p :: l, m, h => by
    obtain ⟨m, rfl⟩ : ∃ k, m = k + 1 := ⟨m - 1, by omega⟩
    rfl
  | f + 1, p :: l, m, h => by
    obtain ⟨m, rfl⟩ : ∃ k, m = k + 1 := ⟨m - 1, by omega⟩
    rw [List.take_succ_cons]
    rw [chk_succ, chk_succ]
    by_cases he : nodeE p = 0
    · rw [if_pos he, if_pos he]
      have h1 := chk_take f (p.l ++ l) (p.l.length + m) (by omega)
      have h2 : (p.l ++ l).take (p.l.length + m) = p.l ++ l.take m := by
        rw [List.take_append]; simp [List.take_of_length_le]
      rw [← h1, h2]
    · rw [if_neg he, if_neg he]
theorem chk_cut (f : Nat) (l rest : List Pat) (hf : f ≤ 40) : chk f (l.take 41 ++ rest) = chk f (l ++ rest) := by
  rw [← chk_take f (l.take 41 ++ rest) 41 (by omega), ← chk_take f (l ++ rest) 41 (by omega), List.take_append, List.take_append, List.take_take, List.length_take]
  congr 2
  by_cases h : l.length ≤ 41
  · rw [Nat.min_eq_right h]
  · rw [Nat.min_eq_left (by omega), show 41 - l.length = 0 by omega]

/-! ### Sizes -/

/-- How many nodes there are, but f at most. -/
def szW : Nat → List Pat → Nat
  | _, [] => 0
  | 0, _ :: _ => 0
  | f + 1, p :: l => szW f (p.l ++ l) + 1
def sizeP (p : Pat) : Nat := szW 41 [p]
mutual
def cntP : Pat → Nat → Nat
  | .node _ _ _ _ _ _ l, n => cntL l (n + 1)
def cntL : List Pat → Nat → Nat
  | [], n => n
  | p :: l, n => if n ≤ 40 then cntL l (cntP p n) else n
end
theorem szW_zero (l : List Pat) : szW 0 l = 0 := by cases l <;> rfl
mutual
theorem cntP_sz : ∀ (p : Pat) (n : Nat) (rest : List Pat), n ≤ 40 → (cntP p n ≤ 41 ∧ n < cntP p n) ∧ n + szW (41 - n) (p :: rest) = cntP p n + szW (41 - cntP p n) rest
  | .node k pl mi nt mn mx l, n, rest, hn => by
    unfold cntP
    obtain ⟨f, hf⟩ : ∃ f, 41 - n = f + 1 := ⟨40 - n, by omega⟩
    have h := cntL_sz l (n + 1) rest (by omega)
    refine ⟨⟨h.1.1, h.1.2⟩, ?_⟩
    rw [← h.2, hf, show 41 - (n + 1) = f by omega]
    show n + (szW f (l ++ rest) + 1) = _
    omega
theorem cntL_sz : ∀ (l : List Pat) (n : Nat) (rest : List Pat), n ≤ 41 → (cntL l n ≤ 41 ∧ n ≤ cntL l n) ∧ n + szW (41 - n) (l ++ rest) = cntL l n + szW (41 - cntL l n) rest
  | [], n, rest, hn => ⟨⟨hn, Nat.le_refl _⟩, rfl⟩
  | p :: l, n, rest, hn => by
    unfold cntL
    by_cases h : n ≤ 40
    · rw [if_pos h]
      have h1 := cntP_sz p n (l ++ rest) h
      have h2 := cntL_sz l (cntP p n) rest h1.1.1
      exact ⟨⟨h2.1.1, by have := h1.1.2; have := h2.1.2; omega⟩, by rw [List.cons_append, h1.2, h2.2]⟩
    · rw [if_neg h]
      obtain rfl : n = 41 := by omega
      exact ⟨⟨Nat.le_refl _, Nat.le_refl _⟩, by rw [Nat.sub_self, szW_zero, szW_zero]⟩
end
theorem cntP_zero (p : Pat) : cntP p 0 = sizeP p := by
  have h := (cntP_sz p 0 [] (by omega)).2
  have e : szW (41 - cntP p 0) [] = 0 := by cases 41 - cntP p 0 <;> rfl
  rw [e, Nat.sub_zero, Nat.zero_add, Nat.add_zero] at h
  exact h.symm
theorem szW_take : ∀ (f : Nat) (l : List Pat) (m : Nat), f ≤ m → szW f (l.take m) = szW f l
  | 0, l, m, _ => by rw [szW_zero, szW_zero]
  | f + 1, [], m, _ => by simp
  | f + 1, p :: l, m, h => by
    obtain ⟨m, rfl⟩ : ∃ k, m = k + 1 := ⟨m - 1, by omega⟩
    rw [List.take_succ_cons]
    show szW f _ + 1 = szW f _ + 1
    have h1 := szW_take f (p.l ++ l) (p.l.length + m) (by omega)
    have h2 : (p.l ++ l).take (p.l.length + m) = p.l ++ l.take m := by
      rw [List.take_append]; simp [List.take_of_length_le]
    rw [← h1, h2]
end Go.Ab
