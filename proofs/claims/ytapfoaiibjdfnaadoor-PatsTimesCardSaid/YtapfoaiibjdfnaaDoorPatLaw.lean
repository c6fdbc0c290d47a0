/- PLAIN: which patterns are valid; sums, repetitions, empty patterns. -/
import Derived.Test.YtapfoaiibjdfnaaDoorGood
import Derived.Test.YtapfoaiibjdfnaaDoorSize
import Derived.Test.YtapfoaiibjdfnaaDoorEmpty
import Derived.Test.YtapfoaiibjdfnaaDoorMatch
namespace Go.Proofs.YtapfoaiibjdfnaaDoor
open Go.RowKit Go.Ab

mutual
def allN : Pat → Prop
  | .node k pl mi nt mn mx l => nodeE (.node k pl mi nt mn mx l) = 0 ∧ allNs l
def allNs : List Pat → Prop
  | [] => True
  | p :: l => allN p ∧ allNs l
end
theorem allN_eq (p : Pat) : allN p ↔ nodeE p = 0 ∧ allNs p.l := by cases p; unfold allN; exact Iff.rfl
theorem allNs_cons (p : Pat) (l : List Pat) : allNs (p :: l) ↔ allN p ∧ allNs l := by rw [allNs]
theorem allNs_append (a b : List Pat) : allNs (a ++ b) ↔ allNs a ∧ allNs b := by
  induction a with
  | nil => simp [allNs]
  | cons p a ih => rw [List.cons_append, allNs_cons, allNs_cons, ih, and_assoc]
theorem allNs_iff {l : List Pat} : allNs l ↔ ∀ p ∈ l, allN p := by
  induction l with
  | nil => simp [allNs]
  | cons p l ih => rw [allNs_cons, ih]; simp
theorem totL_cons (p : Pat) (l : List Pat) : totL (p :: l) = totP p + totL l := by rw [totL]
theorem chk_zero : ∀ (f : Nat) (l : List Pat), chk f l = 0 ↔ allNs l ∧ totL l ≤ f
  | f, [] => by cases f <;> simp [chk, allNs, totL]
  | 0, p :: l => by
    have h1 : totL (p :: l) = totL p.l + 1 + totL l := by rw [totL_cons, totP_eq]
    constructor
    · intro h; simp [chk] at h
    · rintro ⟨_, h⟩; omega
  | f + 1, p :: l => by
    have h1 : totL (p :: l) = totL p.l + 1 + totL l := by rw [totL_cons, totP_eq]
    rw [chk_succ]
    by_cases he : nodeE p = 0
    · rw [if_pos he, chk_zero f, allNs_append, totL_append, allNs_cons, allN_eq]
      constructor
      · rintro ⟨⟨h2, h3⟩, h4⟩; exact ⟨⟨⟨he, h2⟩, h3⟩, by omega⟩
      · rintro ⟨⟨⟨_, h2⟩, h3⟩, h4⟩; exact ⟨⟨h2, h3⟩, by omega⟩
    · rw [if_neg he, allNs_cons, allN_eq]
      constructor
      · intro h; exact absurd h he
      · rintro ⟨⟨⟨h, _⟩, _⟩, _⟩; exact absurd h he
theorem chkP_zero (p : Pat) : chkP p = 0 ↔ allN p ∧ totP p ≤ 40 := by
  unfold chkP
  rw [chk_zero, allNs_cons, totL_cons]
  simp [allNs, totL]
theorem relE_zero {p : Pat} {ws : Wd} : relE p ws = 0 ↔ chkP p = 0 ∧ ws.length ≤ 32 ∧ allV ws = true := by
  unfold relE
  by_cases h : chkP p = 0
  · rw [if_pos h]
    by_cases h2 : 32 < ws.length
    · rw [if_pos h2]; simp [h]; omega
    · rw [if_neg h2]
      by_cases h3 : allV ws = true
      · rw [if_pos h3]; simp [h, h3]; omega
      · rw [if_neg h3]; simp [h3]
  · rw [if_neg h]; simp [h]
theorem goodV_iff {p : Pat} {ws : Wd} : goodV p ws = true ↔ relE p ws = 0 := by
  rw [relE_zero]
  unfold goodV wE
  simp only [Bool.and_eq_true, decide_eq_true_eq]
  constructor
  · rintro ⟨⟨h1, h2⟩, h3⟩
    rw [if_neg (by omega)] at h2
    refine ⟨h3, h1, ?_⟩
    by_cases h : allV ws = true
    · exact h
    · rw [if_neg h] at h2; exact absurd h2 (by decide)
  · rintro ⟨h1, h2, h3⟩
    exact ⟨⟨h2, by rw [if_neg (by omega), if_pos h3]⟩, h1⟩
theorem relR_good {p : Pat} {ws : Wd} (h : relE p ws = 0) : relR p ws = relP ws p := by unfold relR; rw [if_pos h]
theorem goodV_len {p : Pat} {ws : Wd} (h : goodV p ws = true) : ws.length ≤ 32 := (relE_zero.1 (goodV_iff.1 h)).2.1

/-! ### What is built of patterns -/

theorem nodeE_seq (l : List Pat) : nodeE (.node 3 0 0 false 0 0 l) = 0 := by simp [nodeE, Pat.k, Pat.pl, Pat.mi, Pat.nt, Pat.mn, Pat.mx, Pat.l, okSound]
theorem nodeE_alt (l : List Pat) : nodeE (.node 4 0 0 false 0 0 l) = 0 := by simp [nodeE, Pat.k, Pat.pl, Pat.mi, Pat.nt, Pat.mn, Pat.mx, Pat.l, okSound]
theorem nodeE_rep (p : Pat) {lo hi : Int} (h1 : 0 ≤ lo) (h2 : lo ≤ 32) (h3 : hi = -1 ∨ (lo ≤ hi ∧ hi ≤ 32)) : nodeE (.node 5 0 0 false lo hi [p]) = 0 := by
  simp [nodeE, Pat.k, Pat.pl, Pat.mi, Pat.nt, Pat.mn, Pat.mx, Pat.l, okSound]
  omega
theorem good_of {p q : Pat} {ws : Wd} (h : relE p ws = 0) (h1 : allN q) (h2 : totP q ≤ 40) : relE q ws = 0 := by
  rw [relE_zero] at h ⊢
  exact ⟨(chkP_zero q).2 ⟨h1, h2⟩, h.2⟩
theorem good_allN {p : Pat} {ws : Wd} (h : relE p ws = 0) : allN p := ((chkP_zero p).1 (relE_zero.1 h).1).1
theorem good_tot {p : Pat} {ws : Wd} (h : relE p ws = 0) : totP p ≤ 40 := ((chkP_zero p).1 (relE_zero.1 h).1).2
theorem allN_seq {l : List Pat} (h : ∀ p ∈ l, allN p) : allN (.node 3 0 0 false 0 0 l) := by rw [allN_eq]; exact ⟨nodeE_seq l, allNs_iff.2 h⟩
theorem allN_alt {l : List Pat} (h : ∀ p ∈ l, allN p) : allN (.node 4 0 0 false 0 0 l) := by rw [allN_eq]; exact ⟨nodeE_alt l, allNs_iff.2 h⟩
theorem allN_rep {p : Pat} (h : allN p) {lo hi : Int} (h1 : 0 ≤ lo) (h2 : lo ≤ 32) (h3 : hi = -1 ∨ (lo ≤ hi ∧ hi ≤ 32)) : allN (.node 5 0 0 false lo hi [p]) := by
  rw [allN_eq]; exact ⟨nodeE_rep p h1 h2 h3, allNs_iff.2 (by simpa [Pat.l] using h)⟩
theorem totP_node (k : Int) (pl mi : Nat) (nt : Bool) (mn mx : Int) (l : List Pat) : totP (.node k pl mi nt mn mx l) = totL l + 1 := totP_eq _

theorem relP_node (w : Wd) (k : Int) (pl mi : Nat) (nt : Bool) (mn mx : Int) (l : List Pat) : relP w (.node k pl mi nt mn mx l) = if k = 1 then soundB w (pl, mi) nt else if k = 2 then edgeB 0 else if k = 6 then edgeB w.length else if k = 4 then altB w l else if k = 5 then oneB w l mn mx else seqB w l (idB w.length) := by rw [relP]
theorem relP_seq (ws : Wd) (l : List Pat) : relP ws (.node 3 0 0 false 0 0 l) = seqB ws l (idB ws.length) := by rw [relP_node]; simp
theorem relP_alt (ws : Wd) (l : List Pat) : relP ws (.node 4 0 0 false 0 0 l) = altB ws l := by rw [relP_node]; simp
theorem relP_rep (ws : Wd) (hn : ws.length ≤ 32) (p : Pat) (lo hi : Int) : relP ws (.node 5 0 0 false lo hi [p]) = sumB (relP ws p) ws.length lo.toNat (extra ws.length lo hi) := by
  rw [relP_node, if_neg (by decide), if_neg (by decide), if_neg (by decide), if_neg (by decide), if_pos rfl, oneB]
  exact repB_sum hn (relP_mono ws p) _ _

/-- One, and then the other. -/
theorem relP_two (ws : Wd) (hn : ws.length ≤ 32) (p q : Pat) : relP ws (.node 3 0 0 false 0 0 [p, q]) = comp (relP ws p) (relP ws q) := by
  rw [relP_seq]
  unfold seqB seqB seqB
  rw [id_comp hn (relP_mono ws p)]
theorem relP_either (ws : Wd) (p q : Pat) : relP ws (.node 4 0 0 false 0 0 [p, q]) = orB (relP ws p) (relP ws q) := by
  rw [relP_alt]
  unfold altB altB altB
  rw [orB_no]
/-- The way through the places between. -/
theorem comp_through {n : Nat} (hn : n ≤ 32) {X Y : Bin2} (hX : Mono n X) (hY : Mono n Y) (i k : Nat) : comp X Y i k = ((List.range (k + 1 - i)).any fun j => X i (i + j) && Y (i + j) k) := by
  apply Bool.eq_iff_iff.2
  rw [comp_iff, List.any_eq_true]
  constructor
  · rintro ⟨b, _, h1, h2⟩
    have := hX _ _ h1
    have := hY _ _ h2
    exact ⟨b - i, List.mem_range.2 (by omega), by rw [show i + (b - i) = b by omega, h1, h2]; rfl⟩
  · rintro ⟨j, hj, h⟩
    rw [Bool.and_eq_true] at h
    have := hX _ _ h.1
    exact ⟨i + j, by omega, h.1, h.2⟩

/-! ### Times -/

theorem seqB_rep (ws : Wd) (hn : ws.length ≤ 32) (p : Pat) : ∀ k, seqB ws (List.replicate k p) (idB ws.length) = powB (relP ws p) ws.length k
  | 0 => by simp [seqB, powB]
  | k + 1 => by
    rw [show List.replicate (k + 1) p = List.replicate k p ++ [p] from List.replicate_succ', seqB_snoc, seqB_rep ws hn p k, pow_snoc hn (relP_mono ws p)]
theorem times_one (ws : Wd) (hn : ws.length ≤ 32) (p : Pat) (k : Nat) : relP ws (.node 5 0 0 false k k [p]) = powB (relP ws p) ws.length k := by
  rw [relP_rep ws hn]
  unfold extra
  rw [if_neg (by omega), show ((k : Int) - (k : Int)).toNat = 0 by omega, show ((k : Int)).toNat = k by omega]
  rfl
theorem times_list (ws : Wd) (hn : ws.length ≤ 32) (p : Pat) (k : Nat) : relP ws (.node 3 0 0 false 0 0 (List.replicate k p)) = powB (relP ws p) ws.length k := by rw [relP_seq, seqB_rep ws hn]
theorem times_more (ws : Wd) (hn : ws.length ≤ 32) (p : Pat) (k : Nat) : relP ws (.node 5 0 0 false k ((k : Int) + 1) [p]) = sumB (relP ws p) ws.length k 1 := by
  rw [relP_rep ws hn]
  unfold extra
  rw [if_neg (by omega), show ((k : Int) + 1 - (k : Int)).toNat = 1 by omega, show ((k : Int)).toNat = k by omega]
theorem times_opt (ws : Wd) (hn : ws.length ≤ 32) (p : Pat) : relP ws (.node 5 0 0 false 0 1 [p]) = sumB (relP ws p) ws.length 0 1 := by
  rw [relP_rep ws hn]; rfl
theorem times_often (ws : Wd) (hn : ws.length ≤ 32) (p : Pat) (k : Nat) : relP ws (.node 5 0 0 false k (-1) [p]) = sumB (relP ws p) ws.length k ws.length := by
  rw [relP_rep ws hn]
  unfold extra
  rw [if_pos (by omega), show ((k : Int)).toNat = k by omega]
theorem times_any (ws : Wd) (hn : ws.length ≤ 32) (p : Pat) : relP ws (.node 5 0 0 false 0 (-1) [p]) = sumB (relP ws p) ws.length 0 ws.length := by
  rw [relP_rep ws hn]; rfl
theorem times_next (ws : Wd) (hn : ws.length ≤ 32) (p : Pat) (k : Nat) : relP ws (.node 3 0 0 false 0 0 [.node 5 0 0 false k k [p], .node 5 0 0 false 0 1 [p]]) = sumB (relP ws p) ws.length k 1 := by
  rw [relP_two ws hn, times_one ws hn, times_opt ws hn, ← pow_orId hn (relP_mono ws p), ← repB_sum hn (relP_mono ws p)]
  rfl
theorem times_on (ws : Wd) (hn : ws.length ≤ 32) (p : Pat) (k : Nat) : relP ws (.node 3 0 0 false 0 0 [.node 5 0 0 false k (-1) [p], .node 5 0 0 false 0 (-1) [p]]) = sumB (relP ws p) ws.length k ws.length := by
  rw [relP_two ws hn, times_often ws hn, times_any ws hn, ← pow_orId hn (relP_mono ws p), ← repB_sum hn (relP_mono ws p)]
  unfold repB
  rw [comp_assoc, ← pow_add hn ((relP_mono ws p).or (Mono.id _))]
  show repB _ _ _ _ = repB _ _ _ _
  rw [repB_sum hn (relP_mono ws p), repB_sum hn (relP_mono ws p), sum_far hn (relP_mono ws p) k (ws.length + ws.length) (by omega)]
theorem sum_le {X : Bin2} {n lo e f a b : Nat} (h : e ≤ f) (hh : sumB X n lo e a b = true) : sumB X n lo f a b = true := by
  obtain ⟨j, h1, h2⟩ := sumB_iff.1 hh
  exact sumB_iff.2 ⟨j, by omega, h2⟩
theorem times_le (ws : Wd) (hn : ws.length ≤ 32) (p : Pat) (k a b : Nat) : (powB (relP ws p) ws.length k a b = true → sumB (relP ws p) ws.length k 1 a b = true) ∧ (sumB (relP ws p) ws.length k 1 a b = true → sumB (relP ws p) ws.length k ws.length a b = true) := by
  refine ⟨fun h => sum_le (e := 0) (by omega) h, fun h => ?_⟩
  by_cases h1 : 1 ≤ ws.length
  · exact sum_le h1 h
  · rw [sum_far hn (relP_mono ws p) k 1 (by omega)] at h; exact h

/-! ### Empty patterns -/

theorem comp_diag {n : Nat} (hn : n ≤ 32) {X Y : Bin2} (hX : Mono n X) (hY : Mono n Y) (a : Nat) : comp X Y a a = true ↔ X a a = true ∧ Y a a = true := by
  rw [comp_iff]
  constructor
  · rintro ⟨b, _, h1, h2⟩
    have := hX _ _ h1
    have := hY _ _ h2
    obtain rfl : a = b := by omega
    exact ⟨h1, h2⟩
  · rintro ⟨h1, h2⟩
    have := hX _ _ h1
    exact ⟨a, by omega, h1, h2⟩
theorem pow_diag {n : Nat} (hn : n ≤ 32) {X : Bin2} (hX : Mono n X) {a : Nat} (ha : a ≤ n) : ∀ k, powB X n k a a = true ↔ k = 0 ∨ X a a = true
  | 0 => by simp [powB, idB_iff, ha]
  | k + 1 => by
    show comp X (powB X n k) a a = true ↔ _
    rw [comp_diag hn hX (Mono.pow hX k), pow_diag hn hX ha k]
    constructor
    · exact fun h => .inr h.1
    · rintro (h | h)
      · omega
      · exact ⟨h, .inr h⟩
theorem seq_diag (ws : Wd) (hn : ws.length ≤ 32) {a : Nat} (f : Pat → Prop) : ∀ (l : List Pat) (X : Bin2), Mono ws.length X → (∀ p ∈ l, (relP ws p a a = true ↔ f p)) → (seqB ws l X a a = true ↔ X a a = true ∧ ∀ p ∈ l, f p)
  | [], X, _, _ => by simp [seqB]
  | p :: l, X, hX, h => by
    unfold seqB
    rw [seq_diag ws hn f l _ (hX.comp (relP_mono ws p)) (fun q hq => h q (List.mem_cons_of_mem _ hq)), comp_diag hn hX (relP_mono ws p), h p (List.mem_cons_self ..)]
    simp [and_assoc]
theorem alt_diag (ws : Wd) {a : Nat} (f : Pat → Prop) : ∀ (l : List Pat), (∀ p ∈ l, (relP ws p a a = true ↔ f p)) → (altB ws l a a = true ↔ ∃ p, p ∈ l ∧ f p)
  | [], _ => by simp [altB, noB]
  | p :: l, h => by
    unfold altB
    rw [orB_iff, alt_diag ws f l (fun q hq => h q (List.mem_cons_of_mem _ hq)), h p (List.mem_cons_self ..)]
    simp
theorem nodeE_kind' {p : Pat} (h : nodeE p = 0) : 0 ≤ p.k ∧ p.k ≤ 6 ∧ (p.k ≠ 3 → p.k ≠ 4 → p.k ≠ 5 → p.l.length = 0) ∧ (p.k = 5 → p.l.length = 1 ∧ 0 ≤ p.mn ∧ p.mn ≤ 32) := by
  unfold nodeE at h
  by_cases h1 : p.k < 0 ∨ 6 < p.k
  · rw [if_pos h1] at h; exact absurd h (by decide)
  rw [if_neg h1] at h
  by_cases h2 : p.k ≠ 1 ∧ (p.pl ≠ 0 ∨ p.mi ≠ 0 ∨ p.nt = true)
  · rw [if_pos h2] at h; exact absurd h (by decide)
  rw [if_neg h2] at h
  by_cases h3 : p.k ≠ 3 ∧ p.k ≠ 4 ∧ p.k ≠ 5 ∧ p.l.length ≠ 0
  · rw [if_pos h3] at h; exact absurd h (by decide)
  rw [if_neg h3] at h
  by_cases h4 : p.k ≠ 5 ∧ (p.mn ≠ 0 ∨ p.mx ≠ 0)
  · rw [if_pos h4] at h; exact absurd h (by decide)
  rw [if_neg h4] at h
  by_cases h5 : p.k = 5 ∧ (p.l.length ≠ 1 ∨ p.mn < 0 ∨ 32 < p.mn ∨ (p.mx ≠ -1 ∧ (p.mx < p.mn ∨ 32 < p.mx)))
  · rw [if_pos h5] at h; exact absurd h (by decide)
  refine ⟨by omega, by omega, fun a b c => ?_, fun hk => ?_⟩
  · exact Decidable.byContradiction fun hh => h3 ⟨a, b, c, hh⟩
  · have h6 := fun hh => h5 ⟨hk, hh⟩
    omega
theorem nodeE_kind {k : Int} {pl mi : Nat} {nt : Bool} {mn mx : Int} {l : List Pat} (h : nodeE (.node k pl mi nt mn mx l) = 0) :
    0 ≤ k ∧ k ≤ 6 ∧ (k ≠ 3 → k ≠ 4 → k ≠ 5 → l = []) ∧ (k = 5 → (∃ q, l = [q]) ∧ 0 ≤ mn ∧ mn ≤ 32) := by
  obtain ⟨h1, h2, h3, h4⟩ := nodeE_kind' h
  refine ⟨h1, h2, fun a b c => List.eq_nil_of_length_eq_zero (h3 a b c), fun hk => ?_⟩
  obtain ⟨h5, h6, h7⟩ := h4 hk
  refine ⟨?_, h6, h7⟩
  have h5 : l.length = 1 := h5
  match l, h5 with
  | [q], _ => exact ⟨q, rfl⟩
theorem emptyP_law (ws : Wd) (hn : ws.length ≤ 32) : ∀ p : Pat, allN p → (∀ a, 0 < a → a < ws.length → (relP ws p a a = true ↔ emptyP p = true)) ∧ (∀ a, a ≤ ws.length → emptyP p = true → relP ws p a a = true)
  | .node k pl mi nt mn mx l => by
    intro h
    rw [allN_eq] at h
    obtain ⟨h1, h2⟩ := h
    rw [allNs_iff] at h2
    obtain ⟨h3, h4, h5, h6⟩ := nodeE_kind h1
    have ih : ∀ q ∈ l, (∀ a, 0 < a → a < ws.length → (relP ws q a a = true ↔ emptyP q = true)) ∧ (∀ a, a ≤ ws.length → emptyP q = true → relP ws q a a = true) := fun q hq => emptyP_law ws hn q (h2 q hq)
    have hk : k = 0 ∨ k = 1 ∨ k = 2 ∨ k = 3 ∨ k = 4 ∨ k = 5 ∨ k = 6 := by omega
    rw [emptyP_eq]
    simp only [relP_node]
    rcases hk with rfl | rfl | rfl | rfl | rfl | rfl | rfl
    · obtain rfl := h5 (by decide) (by decide) (by decide)
      simp [seqB, idB_iff]
      omega
    · simp [soundB]
    · simp [edgeB]
      omega
    · simp only [show ¬ ((3 : Int) = 1) by decide, show ¬ ((3 : Int) = 2) by decide, show ¬ ((3 : Int) = 6) by decide, show ¬ ((3 : Int) = 4) by decide, show ¬ ((3 : Int) = 5) by decide, show ¬ ((3 : Int) = 0) by decide, if_false, if_true]
      have ha : allE l = true ↔ ∀ q ∈ l, emptyP q = true := by rw [allE_eq]; simp
      constructor
      · intro a a0 a1
        rw [seq_diag ws hn (fun q => emptyP q = true) l _ (Mono.id _) (fun q hq => (ih q hq).1 a a0 a1), ha, idB_iff]
        constructor
        · exact fun h => h.2
        · exact fun h => ⟨⟨rfl, by omega⟩, h⟩
      · intro a a1 he
        rw [seq_diag ws hn (fun q => relP ws q a a = true) l _ (Mono.id _) (fun q hq => Iff.rfl), idB_iff]
        exact ⟨⟨rfl, a1⟩, fun q hq => (ih q hq).2 a a1 (ha.1 he q hq)⟩
    · simp only [show ¬ ((4 : Int) = 1) by decide, show ¬ ((4 : Int) = 2) by decide, show ¬ ((4 : Int) = 6) by decide, show ¬ ((4 : Int) = 3) by decide, show ¬ ((4 : Int) = 0) by decide, if_false, if_true]
      have ha : anyE l = true ↔ ∃ q, q ∈ l ∧ emptyP q = true := by rw [anyE_eq]; simp
      constructor
      · intro a a0 a1
        rw [alt_diag ws (fun q => emptyP q = true) l (fun q hq => (ih q hq).1 a a0 a1), ha]
      · intro a a1 he
        rw [alt_diag ws (fun q => relP ws q a a = true) l (fun q hq => Iff.rfl)]
        obtain ⟨q, hq, he⟩ := ha.1 he
        exact ⟨q, hq, (ih q hq).2 a a1 he⟩
    · simp only [show ¬ ((5 : Int) = 1) by decide, show ¬ ((5 : Int) = 2) by decide, show ¬ ((5 : Int) = 6) by decide, show ¬ ((5 : Int) = 3) by decide, show ¬ ((5 : Int) = 4) by decide, show ¬ ((5 : Int) = 0) by decide, if_false, if_true]
      obtain ⟨⟨q, rfl⟩, h7, _⟩ := h6 rfl
      have iq := ih q (by simp)
      have he : (mn == 0 || headE [q]) = true ↔ mn.toNat = 0 ∨ emptyP q = true := by
        unfold headE
        rw [Bool.or_eq_true, beq_iff_eq]
        constructor
        · rintro (h | h)
          · exact .inl (by omega)
          · exact .inr h
        · rintro (h | h)
          · exact .inl (by omega)
          · exact .inr h
      have hr : ∀ a, a ≤ ws.length → (oneB ws [q] mn mx a a = true ↔ mn.toNat = 0 ∨ relP ws q a a = true) := by
        intro a ha
        unfold oneB
        rw [repB_sum hn (relP_mono ws q), sumB_iff]
        constructor
        · rintro ⟨j, hj, h⟩
          rw [pow_diag hn (relP_mono ws q) ha] at h
          rcases h with h | h
          · exact .inl (by omega)
          · exact .inr h
        · intro h
          exact ⟨0, by omega, (pow_diag hn (relP_mono ws q) ha _).2 (h.imp (by omega) id)⟩
      rw [he]
      constructor
      · intro a a0 a1
        rw [hr a (by omega), iq.1 a a0 a1]
      · intro a a1 h
        rw [hr a a1]
        exact h.imp id (iq.2 a a1)
    · simp [edgeB]
      omega
end Go.Proofs.YtapfoaiibjdfnaaDoor
