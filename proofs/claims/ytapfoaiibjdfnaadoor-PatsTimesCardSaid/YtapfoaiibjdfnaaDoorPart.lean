/- PLAIN: what patterns are compiled to; valid patterns. -/
import Derived.Test.YtapfoaiibjdfnaaDoorPatTab
namespace Go.Ab

inductive PartS where
  | sound (pl mi : Nat) (nt : Bool)
  | edge (e : Bool)
  | seq (l : List PartS)
  | alt (l : List PartS)
  | rep (of : PartS) (mn mx : Int)

mutual
def relS (w : Wd) : PartS → Bin2
  | .sound pl mi nt => soundB w (pl, mi) nt
  | .edge e => edgeB (if e then w.length else 0)
  | .seq l => seqS w l (idB w.length)
  | .alt l => altS w l noB
  | .rep p mn mx => repB (relS w p) w.length mn.toNat (extra w.length mn mx)
def seqS (w : Wd) : List PartS → Bin2 → Bin2
  | [], X => X
  | p :: l, X => seqS w l (comp X (relS w p))
def altS (w : Wd) : List PartS → Bin2 → Bin2
  | [], X => X
  | p :: l, X => altS w l (orB X (relS w p))
end
theorem seqS_snoc (w : Wd) (p : PartS) : ∀ (l : List PartS) (X : Bin2), seqS w (l ++ [p]) X = comp (seqS w l X) (relS w p)
  | [], X => by simp [seqS]
  | q :: l, X => by rw [List.cons_append]; unfold seqS; exact seqS_snoc w p l _
theorem altS_snoc (w : Wd) (p : PartS) : ∀ (l : List PartS) (X : Bin2), altS w (l ++ [p]) X = orB (altS w l X) (relS w p)
  | [], X => by simp [altS]
  | q :: l, X => by rw [List.cons_append]; unfold altS; exact altS_snoc w p l _

mutual
theorem relS_mono (w : Wd) : ∀ p, Mono w.length (relS w p)
  | .sound pl mi nt => by unfold relS; exact Mono.sound _ _ _
  | .edge e => by unfold relS; exact Mono.edge (by cases e <;> simp)
  | .seq l => by unfold relS; exact seqS_mono w l _ (Mono.id _)
  | .alt l => by unfold relS; exact altS_mono w l _ (Mono.no _)
  | .rep p mn mx => by unfold relS repB; exact (Mono.pow (relS_mono w p) _).comp (Mono.pow ((relS_mono w p).or (Mono.id _)) _)
theorem seqS_mono (w : Wd) : ∀ (l : List PartS) (X : Bin2), Mono w.length X → Mono w.length (seqS w l X)
  | [], _, h => by unfold seqS; exact h
  | p :: l, X, h => by unfold seqS; exact seqS_mono w l _ (h.comp (relS_mono w p))
theorem altS_mono (w : Wd) : ∀ (l : List PartS) (X : Bin2), Mono w.length X → Mono w.length (altS w l X)
  | [], _, h => by unfold altS; exact h
  | p :: l, X, h => by unfold altS; exact altS_mono w l _ (h.or (relS_mono w p))
end

/-! ### Compiled patterns -/
mutual
def cmp : Pat → PartS
  | .node k pl mi nt mn mx l =>
    if k = 1 then .sound pl mi nt
    else if k = 2 then .edge false
    else if k = 6 then .edge true
    else if k = 4 then .alt (cmpL l)
    else if k = 5 then .rep ((cmpL l).headD (.seq [])) mn mx
    else .seq (cmpL l)
def cmpL : List Pat → List PartS
  | [] => []
  | p :: l => cmp p :: cmpL l
end
theorem cmpL_map (l : List Pat) : cmpL l = l.map cmp := by
  induction l with
  | nil => rfl
  | cons p l ih => unfold cmpL; rw [ih]; rfl

mutual
/-- Every node is valid by itself. -/
def okPat : Pat → Prop
  | .node k pl mi nt mn mx l => nodeE (.node k pl mi nt mn mx l) = 0 ∧ l.length ≤ 40 ∧ okPats l
def okPats : List Pat → Prop
  | [] => True
  | p :: l => okPat p ∧ okPats l
end
theorem okPats_iff {l : List Pat} : okPats l ↔ ∀ p ∈ l, okPat p := by
  induction l with
  | nil => simp [okPats]
  | cons p l ih => unfold okPats; rw [ih]; simp
theorem walkP_up (p : Pat) (n : Nat) (hn40 : n ≤ 40) (h : (walkP p n).2 = 0) : n + 1 ≤ (walkP p n).1 := by
  cases p with
  | node k pl mi nt mn mx l =>
    unfold walkP at h ⊢
    by_cases hn : n = 40
    · rw [if_pos hn] at h; cases h
    · rw [if_neg hn] at h ⊢
      by_cases he : nodeE (.node k pl mi nt mn mx l) = 0
      · rw [if_pos he]
        exact (walkL_chk l (n + 1) [] (by omega)).1.2
      · rw [if_neg he] at h; exact absurd h he
theorem walkL_len : ∀ (l : List Pat) (n : Nat), n ≤ 40 → (walkL l n).2 = 0 → n + l.length ≤ (walkL l n).1
  | [], n, _, _ => by simp [walkL]
  | p :: l, n, hn, h => by
    unfold walkL bindE at h ⊢
    by_cases he : (walkP p n).2 = 0
    · rw [if_pos he] at h ⊢
      have h1 := walkP_up p n hn he
      have h2 := walkL_len l _ (walkP_chk p n [] hn).1.1 h
      simp only [List.length_cons]; omega
    · rw [if_neg he] at h; exact absurd h he
mutual
theorem walkP_ok : ∀ (p : Pat) (n : Nat), n ≤ 40 → (walkP p n).2 = 0 → okPat p
  | .node k pl mi nt mn mx l, n, hn40, h => by
    unfold walkP at h
    unfold okPat
    by_cases hn : n = 40
    · rw [if_pos hn] at h; cases h
    · rw [if_neg hn] at h
      by_cases he : nodeE (.node k pl mi nt mn mx l) = 0
      · rw [if_pos he] at h
        have h1 := walkL_len l (n + 1) (by omega) h
        have h2 := (walkL_chk l (n + 1) [] (by omega)).1.1
        exact ⟨he, by omega, walkL_ok l _ (by omega) h⟩
      · rw [if_neg he] at h; exact absurd h he
theorem walkL_ok : ∀ (l : List Pat) (n : Nat), n ≤ 40 → (walkL l n).2 = 0 → okPats l
  | [], _, _, _ => by unfold okPats; trivial
  | p :: l, n, hn, h => by
    unfold walkL bindE at h
    unfold okPats
    by_cases he : (walkP p n).2 = 0
    · rw [if_pos he] at h
      exact ⟨walkP_ok p n hn he, walkL_ok l _ (walkP_chk p n [] hn).1.1 h⟩
    · rw [if_neg he] at h; exact absurd h he
end
theorem chkP_ok {p : Pat} (h : chkP p = 0) : okPat p := walkP_ok p 0 (by omega) (by rw [walkP_zero]; exact h)

theorem ite_zero {c : Prop} [Decidable c] (h : (if c then (0 : Int) else 14) = 0) : c := by
  by_cases hc : c
  · exact hc
  · rw [if_neg hc] at h; cases h
theorem ite_two {c : Prop} [Decidable c] {x : Int} (h : (if c then 2 else x) = 0) : ¬ c ∧ x = 0 := by
  by_cases hc : c
  · rw [if_pos hc] at h; cases h
  · rw [if_neg hc] at h; exact ⟨hc, h⟩

/-- What a valid node is like. -/
theorem nodeE_zero {k : Int} {pl mi : Nat} {nt : Bool} {mn mx : Int} {l : List Pat} (h : nodeE (.node k pl mi nt mn mx l) = 0) :
    (0 ≤ k ∧ k ≤ 6) ∧ (k ≠ 1 → pl = 0 ∧ mi = 0 ∧ nt = false) ∧ (k ≠ 3 → k ≠ 4 → k ≠ 5 → l = []) ∧ (k ≠ 5 → mn = 0 ∧ mx = 0) ∧
      (k = 5 → l.length = 1 ∧ 0 ≤ mn ∧ mn ≤ 32 ∧ (mx = -1 ∨ mn ≤ mx ∧ mx ≤ 32)) ∧ okSound pl mi = true := by
  unfold nodeE at h
  simp only [Pat.k, Pat.pl, Pat.mi, Pat.nt, Pat.mn, Pat.mx, Pat.l] at h
  obtain ⟨h1, h⟩ := ite_two h
  obtain ⟨h2, h⟩ := ite_two h
  obtain ⟨h3, h⟩ := ite_two h
  obtain ⟨h4, h⟩ := ite_two h
  obtain ⟨h5, h⟩ := ite_two h
  have h6 : okSound pl mi = true := ite_zero h
  refine ⟨by omega, fun hk => ?_, fun a b c => ?_, fun hk => by omega, fun hk => ?_, h6⟩
  · refine ⟨?_, ?_, ?_⟩
    · exact Classical.byContradiction fun hh => h2 ⟨hk, .inl hh⟩
    · exact Classical.byContradiction fun hh => h2 ⟨hk, .inr (.inl hh)⟩
    · cases nt
      · rfl
      · exact absurd ⟨hk, .inr (.inr rfl)⟩ h2
  · exact List.eq_nil_of_length_eq_zero (Classical.byContradiction fun hh => h3 ⟨a, b, c, hh⟩)
  · refine ⟨Classical.byContradiction fun hh => h5 ⟨hk, .inl hh⟩, ?_, ?_, ?_⟩
    · apply Int.not_lt.1; exact fun hh => h5 ⟨hk, .inr (.inl hh)⟩
    · apply Int.not_lt.1; exact fun hh => h5 ⟨hk, .inr (.inr (.inl hh))⟩
    · by_cases e : mx = -1
      · exact .inl e
      · refine .inr ⟨?_, ?_⟩
        · apply Int.not_lt.1; exact fun hh => h5 ⟨hk, .inr (.inr (.inr ⟨e, .inl hh⟩))⟩
        · apply Int.not_lt.1; exact fun hh => h5 ⟨hk, .inr (.inr (.inr ⟨e, .inr hh⟩))⟩

theorem altS_or (w : Wd) : ∀ (l : List PartS) (X Y : Bin2), altS w l (orB X Y) = orB X (altS w l Y)
  | [], X, Y => by unfold altS; rfl
  | p :: l, X, Y => by unfold altS; rw [orB_assoc, altS_or w l]
mutual
theorem relS_cmp (w : Wd) : ∀ p, okPat p → relS w (cmp p) = relP w p
  | .node k pl mi nt mn mx l, h => by
    unfold okPat at h
    obtain ⟨_, _, _, _, h5, _⟩ := nodeE_zero h.1
    unfold cmp relP
    split
    · unfold relS; rfl
    · split
      · unfold relS; rfl
      · split
        · unfold relS; rfl
        · split
          · unfold relS; exact (altS_cmp w l h.2.2)
          · split
            · rename_i hk
              have hl := (h5 hk).1
              match l, hl, h.2.2 with
              | [q], _, h2 =>
                unfold okPats at h2
                unfold relS oneB
                show repB (relS w (cmp q)) _ _ _ = _
                rw [relS_cmp w q h2.1]
            · unfold relS; exact seqS_cmp w l _ h.2.2
theorem seqS_cmp (w : Wd) : ∀ (l : List Pat) (X : Bin2), okPats l → seqS w (cmpL l) X = seqB w l X
  | [], X, _ => by unfold cmpL seqS seqB; rfl
  | p :: l, X, h => by
    unfold okPats at h
    unfold cmpL seqS seqB
    rw [relS_cmp w p h.1, seqS_cmp w l _ h.2]
theorem altS_cmp (w : Wd) : ∀ (l : List Pat), okPats l → altS w (cmpL l) noB = altB w l
  | [], _ => by unfold cmpL altS altB; rfl
  | p :: l, h => by
    unfold okPats at h
    unfold cmpL altS altB
    rw [no_orB, ← orB_no (relS w (cmp p)), altS_or, relS_cmp w p h.1, altS_cmp w l h.2]
end
end Go.Ab
