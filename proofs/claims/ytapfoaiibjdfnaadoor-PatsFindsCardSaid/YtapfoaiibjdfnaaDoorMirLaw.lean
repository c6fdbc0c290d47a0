/- PLAIN: mirrors. -/
import Derived.Test.YtapfoaiibjdfnaaDoorPatLaw
namespace Go.Proofs.YtapfoaiibjdfnaaDoor
open Go.RowKit Go.Ab

mutual
def mirP : Pat → Pat
  | .node k pl mi nt mn mx l => .node (if k = 2 then 6 else if k = 6 then 2 else k) pl mi nt mn mx (if k = 3 then (mirL l).reverse else mirL l)
def mirL : List Pat → List Pat
  | [] => []
  | p :: l => mirP p :: mirL l
end
theorem mirL_eq (l : List Pat) : mirL l = l.map mirP := by
  induction l with
  | nil => rfl
  | cons p l ih => rw [mirL, ih]; rfl
theorem mirP_eq (k : Int) (pl mi : Nat) (nt : Bool) (mn mx : Int) (l : List Pat) :
    mirP (.node k pl mi nt mn mx l) = .node (if k = 2 then 6 else if k = 6 then 2 else k) pl mi nt mn mx (if k = 3 then (l.map mirP).reverse else l.map mirP) := by rw [mirP, mirL_eq]
theorem mirP_twice : ∀ p : Pat, mirP (mirP p) = p
  | .node k pl mi nt mn mx l => by
    have ih : ∀ q ∈ l, mirP (mirP q) = q := fun q hq => mirP_twice q
    have ih2 : l.map (fun q => mirP (mirP q)) = l := by
      conv => rhs; rw [← List.map_id l]
      exact List.map_congr_left fun q hq => ih q hq
    rw [mirP_eq, mirP_eq]
    congr 1
    · by_cases h2 : k = 2
      · simp [h2]
      · by_cases h6 : k = 6
        · simp [h6]
        · simp [h2, h6]
    · by_cases h3 : k = 3
      · subst h3
        simp only [show ¬ ((3 : Int) = 2) by decide, show ¬ ((3 : Int) = 6) by decide, if_false, if_true, List.map_reverse, List.reverse_reverse, List.map_map]
        exact ih2
      · have : ¬ ((if k = 2 then (6 : Int) else if k = 6 then 2 else k) = 3) := by split; decide; split; decide; exact h3
        rw [if_neg this, if_neg h3, List.map_map]
        exact ih2
theorem totL_map {f : Pat → Pat} : ∀ {l : List Pat}, (∀ q ∈ l, totP (f q) = totP q) → totL (l.map f) = totL l
  | [], _ => rfl
  | p :: l, h => by rw [List.map_cons, totL_cons, totL_cons, h p (List.mem_cons_self ..), totL_map fun q hq => h q (List.mem_cons_of_mem _ hq)]
theorem totL_reverse (l : List Pat) : totL l.reverse = totL l := by
  induction l with
  | nil => rfl
  | cons p l ih => rw [List.reverse_cons, totL_append, ih, totL_cons, totL_cons]; simp [totL]; omega
theorem mirP_tot : ∀ p : Pat, totP (mirP p) = totP p
  | .node k pl mi nt mn mx l => by
    have ih : ∀ q ∈ l, totP (mirP q) = totP q := fun q hq => mirP_tot q
    rw [mirP_eq, totP_eq, totP_eq]
    show totL (if k = 3 then _ else _) + 1 = totL l + 1
    split
    · rw [totL_reverse, totL_map ih]
    · rw [totL_map ih]
def nodeF (k : Int) (pl mi : Nat) (nt : Bool) (mn mx : Int) (n : Nat) : Int :=
  if k < 0 ∨ 6 < k then 2
  else if k ≠ 1 ∧ (pl ≠ 0 ∨ mi ≠ 0 ∨ nt = true) then 2
  else if k ≠ 3 ∧ k ≠ 4 ∧ k ≠ 5 ∧ n ≠ 0 then 2
  else if k ≠ 5 ∧ (mn ≠ 0 ∨ mx ≠ 0) then 2
  else if k = 5 ∧ (n ≠ 1 ∨ mn < 0 ∨ 32 < mn ∨ (mx ≠ -1 ∧ (mx < mn ∨ 32 < mx))) then 2
  else if okSound pl mi = true then 0 else 14
theorem nodeE_F (k : Int) (pl mi : Nat) (nt : Bool) (mn mx : Int) (l : List Pat) : nodeE (.node k pl mi nt mn mx l) = nodeF k pl mi nt mn mx l.length := rfl
theorem nodeF_swap (pl mi : Nat) (nt : Bool) (mn mx : Int) (n : Nat) : nodeF 2 pl mi nt mn mx n = nodeF 6 pl mi nt mn mx n := by simp [nodeF]
theorem mirP_node (k : Int) (pl mi : Nat) (nt : Bool) (mn mx : Int) (l : List Pat) : nodeE (mirP (.node k pl mi nt mn mx l)) = nodeE (.node k pl mi nt mn mx l) := by
  rw [mirP_eq, nodeE_F, nodeE_F]
  have e : (if k = 3 then (l.map mirP).reverse else l.map mirP).length = l.length := by split <;> simp
  rw [e]
  by_cases h2 : k = 2
  · subst h2; rw [if_pos rfl]; exact (nodeF_swap _ _ _ _ _ _).symm
  · by_cases h6 : k = 6
    · subst h6; rw [if_neg (by decide), if_pos rfl]; exact nodeF_swap _ _ _ _ _ _
    · rw [if_neg h2, if_neg h6]
theorem mirP_allN : ∀ p : Pat, allN p → allN (mirP p)
  | .node k pl mi nt mn mx l, h => by
    have h0 := h
    rw [allN_eq] at h
    obtain ⟨h1, h2⟩ := h
    have h2 : allNs l := h2
    rw [allNs_iff] at h2
    have ih : ∀ q ∈ l, allN (mirP q) := fun q hq => mirP_allN q (h2 q hq)
    rw [allN_eq]
    refine ⟨by rw [mirP_node]; exact h1, ?_⟩
    rw [mirP_eq, allNs_iff]
    show ∀ q ∈ (if k = 3 then (l.map mirP).reverse else l.map mirP), allN q
    intro q hq
    have : q ∈ l.map mirP := by split at hq; exact List.mem_reverse.1 hq; exact hq
    obtain ⟨x, hx, rfl⟩ := List.mem_map.1 this
    exact ih x hx
theorem mirP_empty : ∀ p : Pat, emptyP (mirP p) = emptyP p
  | .node k pl mi nt mn mx l => by
    have ih : ∀ q ∈ l, emptyP (mirP q) = emptyP q := fun q hq => mirP_empty q
    have ha : (l.map mirP).any emptyP = l.any emptyP := by
      rw [List.any_map]
      apply Bool.eq_iff_iff.2
      rw [List.any_eq_true, List.any_eq_true]
      exact ⟨fun ⟨x, h1, h2⟩ => ⟨x, h1, by rw [← ih x h1]; exact h2⟩, fun ⟨x, h1, h2⟩ => ⟨x, h1, by show emptyP (mirP x) = true; rw [ih x h1]; exact h2⟩⟩
    have hb : (l.map mirP).any (fun p => !emptyP p) = l.any (fun p => !emptyP p) := by
      rw [List.any_map]
      apply Bool.eq_iff_iff.2
      rw [List.any_eq_true, List.any_eq_true]
      exact ⟨fun ⟨x, h1, h2⟩ => ⟨x, h1, by rw [← ih x h1]; exact h2⟩, fun ⟨x, h1, h2⟩ => ⟨x, h1, by show (!emptyP (mirP x)) = true; rw [ih x h1]; exact h2⟩⟩
    rw [mirP_eq, emptyP_eq, emptyP_eq]
    by_cases h3 : k = 3
    · subst h3
      simp only [show ¬ ((3 : Int) = 2) by decide, show ¬ ((3 : Int) = 6) by decide, show ¬ ((3 : Int) = 0) by decide, if_false, if_true]
      rw [allE_eq, allE_eq, List.any_reverse, hb]
    · by_cases h2 : k = 2
      · subst h2; simp
      · by_cases h6 : k = 6
        · subst h6; simp
        · rw [if_neg h2, if_neg h6, if_neg h3]
          by_cases h4 : k = 4
          · subst h4
            simp only [show ¬ ((4 : Int) = 0) by decide, show ¬ ((4 : Int) = 3) by decide, if_false, if_true]
            rw [anyE_eq, anyE_eq, ha]
          · by_cases h5 : k = 5
            · subst h5
              simp only [show ¬ ((5 : Int) = 0) by decide, show ¬ ((5 : Int) = 3) by decide, show ¬ ((5 : Int) = 4) by decide, if_false, if_true]
              cases l with
              | nil => rfl
              | cons q l => simp only [List.map_cons, headE]; rw [ih q (List.mem_cons_self ..)]
            · simp [h3, h4, h5]

/-- A relation, seen from the end. -/
def flipB (n : Nat) (X : Bin2) : Bin2 := fun a b => decide (a ≤ n) && decide (b ≤ n) && X (n - b) (n - a)
theorem flipB_iff {n : Nat} {X : Bin2} {a b : Nat} : flipB n X a b = true ↔ a ≤ n ∧ b ≤ n ∧ X (n - b) (n - a) = true := by simp [flipB, and_assoc]
theorem flip_comp {n : Nat} (hn : n ≤ 32) {X Y : Bin2} (hX : Mono n X) (hY : Mono n Y) : flipB n (comp X Y) = comp (flipB n Y) (flipB n X) := by
  apply bin_ext; intro a c
  rw [flipB_iff, comp_iff, comp_iff]
  constructor
  · rintro ⟨h1, h2, b, hb, h3, h4⟩
    have := hX _ _ h3
    have := hY _ _ h4
    refine ⟨n - b, by omega, flipB_iff.2 ⟨h1, by omega, ?_⟩, flipB_iff.2 ⟨by omega, h2, ?_⟩⟩
    · rw [show n - (n - b) = b by omega]; exact h4
    · rw [show n - (n - b) = b by omega]; exact h3
  · rintro ⟨b, hb, h3, h4⟩
    obtain ⟨h1, h2, h3⟩ := flipB_iff.1 h3
    obtain ⟨_, h5, h4⟩ := flipB_iff.1 h4
    exact ⟨h1, h5, n - b, by omega, h4, h3⟩
theorem flip_or (n : Nat) (X Y : Bin2) : flipB n (orB X Y) = orB (flipB n X) (flipB n Y) := by
  apply bin_ext; intro a c
  simp only [flipB_iff, orB_iff]
  constructor
  · rintro ⟨h1, h2, h3 | h3⟩
    · exact .inl ⟨h1, h2, h3⟩
    · exact .inr ⟨h1, h2, h3⟩
  · rintro (⟨h1, h2, h3⟩ | ⟨h1, h2, h3⟩)
    · exact ⟨h1, h2, .inl h3⟩
    · exact ⟨h1, h2, .inr h3⟩
theorem flip_id (n : Nat) : flipB n (idB n) = idB n := by
  apply bin_ext; intro a c
  rw [flipB_iff, idB_iff, idB_iff]
  omega
theorem flip_no (n : Nat) : flipB n noB = noB := by
  apply bin_ext; intro a c
  rw [flipB_iff]; simp [noB]
theorem mono_flip {n : Nat} {X : Bin2} (h : Mono n X) : Mono n (flipB n X) := fun a b hh => by
  obtain ⟨h1, h2, h3⟩ := flipB_iff.1 hh
  have := h _ _ h3
  omega
theorem flip_pow {n : Nat} (hn : n ≤ 32) {X : Bin2} (h : Mono n X) : ∀ k, flipB n (powB X n k) = powB (flipB n X) n k
  | 0 => flip_id n
  | k + 1 => by
    show flipB n (comp X (powB X n k)) = _
    rw [flip_comp hn h (Mono.pow h k), flip_pow hn h k, pow_snoc hn (mono_flip h)]
theorem flip_sum {n : Nat} (hn : n ≤ 32) {X : Bin2} (h : Mono n X) (lo e : Nat) : flipB n (sumB X n lo e) = sumB (flipB n X) n lo e := by
  apply bin_ext; intro a c
  rw [flipB_iff, sumB_iff, sumB_iff]
  constructor
  · rintro ⟨h1, h2, j, hj, h3⟩
    exact ⟨j, hj, by rw [← flip_pow hn h]; exact flipB_iff.2 ⟨h1, h2, h3⟩⟩
  · rintro ⟨j, hj, h3⟩
    rw [← flip_pow hn h] at h3
    obtain ⟨h1, h2, h4⟩ := flipB_iff.1 h3
    exact ⟨h1, h2, j, hj, h4⟩
theorem getD_reverse (w : Wd) {i : Nat} (h : i < w.length) : w.reverse.getD i (0, 0) = w.getD (w.length - 1 - i) (0, 0) := by
  rw [List.getD_eq_getElem?_getD, List.getD_eq_getElem?_getD, List.getElem?_reverse h]
theorem flip_seq (w : Wd) (hn : w.length ≤ 32) : ∀ (l : List Pat) (X : Bin2), Mono w.length X → (∀ q ∈ l, relP w.reverse (mirP q) = flipB w.length (relP w q)) →
    comp (seqB w.reverse (l.map mirP).reverse (idB w.length)) (flipB w.length X) = flipB w.length (seqB w l X)
  | [], X, hX, _ => by
    simp only [List.map_nil, List.reverse_nil, seqB]
    exact id_comp hn (mono_flip hX)
  | p :: l, X, hX, h => by
    rw [List.map_cons, List.reverse_cons, seqB_snoc, h p (List.mem_cons_self ..), comp_assoc, ← flip_comp hn hX (relP_mono w p)]
    rw [flip_seq w hn l (comp X (relP w p)) (hX.comp (relP_mono w p)) fun q hq => h q (List.mem_cons_of_mem _ hq)]
    conv => rhs; unfold seqB
theorem flip_alt (w : Wd) : ∀ (l : List Pat), (∀ q ∈ l, relP w.reverse (mirP q) = flipB w.length (relP w q)) → altB w.reverse (l.map mirP) = flipB w.length (altB w l)
  | [], _ => by simp only [List.map_nil, altB]; exact (flip_no _).symm
  | p :: l, h => by
    rw [List.map_cons]
    unfold altB
    rw [h p (List.mem_cons_self ..), flip_alt w l fun q hq => h q (List.mem_cons_of_mem _ hq), flip_or]
theorem mirror_law (w : Wd) (hn : w.length ≤ 32) : ∀ p : Pat, allN p → relP w.reverse (mirP p) = flipB w.length (relP w p)
  | .node k pl mi nt mn mx l => by
    intro h
    rw [allN_eq] at h
    obtain ⟨h1, h2⟩ := h
    have h2 : allNs l := h2
    rw [allNs_iff] at h2
    obtain ⟨h3, h4, h5, h6⟩ := nodeE_kind h1
    have ih : ∀ q ∈ l, relP w.reverse (mirP q) = flipB w.length (relP w q) := fun q hq => mirror_law w hn q (h2 q hq)
    have hk : k = 0 ∨ k = 1 ∨ k = 2 ∨ k = 3 ∨ k = 4 ∨ k = 5 ∨ k = 6 := by omega
    rw [mirP_eq]
    simp only [relP_node]
    rcases hk with rfl | rfl | rfl | rfl | rfl | rfl | rfl
    · obtain rfl := h5 (by decide) (by decide) (by decide)
      simp [seqB, flip_id]
    · simp only [show ¬ ((1 : Int) = 2) by decide, show ¬ ((1 : Int) = 6) by decide, if_false, if_true]
      apply bin_ext; intro a b
      rw [flipB_iff]
      simp only [soundB, Bool.and_eq_true, beq_iff_eq, decide_eq_true_eq, List.length_reverse]
      constructor
      · rintro ⟨⟨rfl, h7⟩, h8⟩
        rw [getD_reverse w h7] at h8
        exact ⟨by omega, by omega, ⟨by omega, by omega⟩, by rw [show w.length - (a + 1) = w.length - 1 - a by omega]; exact h8⟩
      · rintro ⟨h7, h8, ⟨h9, h10⟩, h11⟩
        obtain rfl : b = a + 1 := by omega
        exact ⟨⟨rfl, by omega⟩, by rw [getD_reverse w (by omega), show w.length - 1 - a = w.length - (a + 1) by omega]; exact h11⟩
    · simp
      apply bin_ext; intro a b
      rw [flipB_iff]
      simp [edgeB]
      omega
    · simp only [show ¬ ((3 : Int) = 1) by decide, show ¬ ((3 : Int) = 2) by decide, show ¬ ((3 : Int) = 6) by decide, show ¬ ((3 : Int) = 4) by decide, show ¬ ((3 : Int) = 5) by decide, if_false, if_true, List.length_reverse]
      have := flip_seq w hn l (idB w.length) (Mono.id _) ih
      rw [flip_id] at this
      rw [← this]
      have hm : Mono w.length (seqB w.reverse (l.map mirP).reverse (idB w.length)) := by
        have := seqB_mono w.reverse (l.map mirP).reverse (idB w.length) (by rw [List.length_reverse]; exact Mono.id _)
        rwa [List.length_reverse] at this
      exact (comp_id hn hm).symm
    · simp only [show ¬ ((4 : Int) = 1) by decide, show ¬ ((4 : Int) = 2) by decide, show ¬ ((4 : Int) = 6) by decide, show ¬ ((4 : Int) = 3) by decide, if_false, if_true]
      exact flip_alt w l ih
    · simp only [show ¬ ((5 : Int) = 1) by decide, show ¬ ((5 : Int) = 2) by decide, show ¬ ((5 : Int) = 6) by decide, show ¬ ((5 : Int) = 3) by decide, show ¬ ((5 : Int) = 4) by decide, if_false, if_true]
      obtain ⟨⟨q, rfl⟩, h7, _⟩ := h6 rfl
      simp only [List.map_cons, List.map_nil, oneB, List.length_reverse]
      have hm := relP_mono w.reverse (mirP q)
      rw [List.length_reverse] at hm
      rw [repB_sum hn hm, repB_sum hn (relP_mono w q), flip_sum hn (relP_mono w q), ih q (by simp)]
    · simp
      apply bin_ext; intro a b
      rw [flipB_iff]
      simp [edgeB]
      omega
end Go.Proofs.YtapfoaiibjdfnaaDoor
