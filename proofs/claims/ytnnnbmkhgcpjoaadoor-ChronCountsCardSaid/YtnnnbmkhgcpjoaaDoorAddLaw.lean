/- PLAIN: with two events whose order is free, the possible orders are those with the one, and those with the other relation. -/
import Derived.Test.YtnnnbmkhgcpjoaaDoorCnt
import Derived.Test.YtnnnbmkhgcpjoaaDoorClose
import Derived.Test.YtnnnbmkhgcpjoaaDoorRedLaw
namespace Go.Proofs.YtnnnbmkhgcpjoaaDoor
open Go.RowKit Go.Ab

theorem sum_add {α : Type} (l : List α) (f g h : α → Nat) (e : ∀ x ∈ l, f x = g x + h x) : (l.map f).sum = (l.map g).sum + (l.map h).sum := by
  induction l with
  | nil => rfl
  | cons x l ih =>
    have h1 := e x (List.mem_cons_self ..)
    have h2 := ih fun y hy => e y (List.mem_cons_of_mem _ hy)
    simp only [List.map_cons, List.sum_cons]
    omega
theorem sum_ge {α : Type} (l : List α) (f : α → Nat) (x : α) (hx : x ∈ l) : f x ≤ (l.map f).sum := by
  induction l with
  | nil => cases hx
  | cons y l ih =>
    simp only [List.map_cons, List.sum_cons]
    rcases List.mem_cons.1 hx with rfl | hx
    · omega
    · have := ih hx; omega

/-- All that lies before something of s lies in s. -/
def DownS (R : Bin) (s : Nat) : Prop := ∀ i x, s.testBit x = true → R i x = true → s.testBit i = true
theorem readyS_iff {n : Nat} {R : Bin} (hR : Rel n R) {s x : Nat} : readyS n R s x = true ↔ ∀ i, R i x = true → s.testBit i = true := by
  simp only [readyS, List.all_eq_true, List.mem_range, Bool.or_eq_true, Bool.not_eq_true']
  constructor
  · intro h i hi
    rcases h i (hR.dom _ _ hi).1 with h | h
    · rw [hi] at h; cases h
    · exact h
  · intro h i _
    cases hi : R i x with
    | false => exact .inl rfl
    | true => exact .inr (h i hi)
theorem DownS.add {R : Bin} {s x : Nat} (h : DownS R s) (hx : ∀ i, R i x = true → s.testBit i = true) : DownS R (s ||| 2 ^ x) := by
  intro i y hy hi
  rw [testBit_or_two, Bool.or_eq_true, decide_eq_true_eq] at *
  rcases hy with hy | rfl
  · exact .inl (h i y hy hi)
  · exact .inl (hx i hi)

theorem cnt_succ (n : Nat) (R : Bin) (k s : Nat) : cnt n R (k + 1) s = (((List.range n).filter fun x => !s.testBit x).map fun x => if readyS n R s x then cnt n R k (s ||| 2 ^ x) else 0).sum := rfl

theorem cnt_in {n : Nat} {R : Bin} (hR : Rel n R) {a b : Nat} (hR1 : Rel n (addR R a b)) : ∀ (k s : Nat), DownS R s → s.testBit a = true → cnt n (addR R a b) k s = cnt n R k s
  | 0, _, _, _ => rfl
  | k + 1, s, hd, ha => by
    rw [cnt_succ, cnt_succ]
    congr 1
    apply List.map_congr_left
    intro x _
    have e : readyS n (addR R a b) s x = readyS n R s x := by
      apply Bool.eq_iff_iff.2
      rw [readyS_iff hR1, readyS_iff hR]
      constructor
      · exact fun h i hi => h i (addR_sub R a b i x hi)
      · intro h i hi
        simp only [addR, Bool.or_eq_true, Bool.and_eq_true, beq_iff_eq] at hi
        rcases hi with hi | ⟨h1, _⟩
        · exact h i hi
        · rcases h1 with rfl | h1
          · exact ha
          · exact hd i a ha h1
    rw [e]
    split
    · rename_i hr
      exact cnt_in hR hR1 k _ (hd.add ((readyS_iff hR).1 hr)) (by rw [testBit_or_two, ha]; rfl)
    · rfl

theorem cnt_out {n : Nat} {R : Bin} (hR : Rel n R) {a b : Nat} (han : a < n) (hbn : b < n) (hab : a ≠ b) (h1 : R a b = false) (h2 : R b a = false) (hR1 : Rel n (addR R a b)) (hR2 : Rel n (addR R b a)) :
    ∀ (k s : Nat), miss n s = k → DownS R s → s.testBit a = false → s.testBit b = false → cnt n R k s = cnt n (addR R a b) k s + cnt n (addR R b a) k s
  | 0, s, hm, _, ha, _ => by
    unfold miss at hm
    rw [List.countP_eq_zero] at hm
    have := hm a (List.mem_range.2 han)
    rw [ha] at this; simp at this
  | k + 1, s, hm, hd, ha, hb => by
    rw [cnt_succ, cnt_succ, cnt_succ]
    apply sum_add
    intro x hx
    rw [List.mem_filter, List.mem_range] at hx
    have hxs : s.testBit x = false := by simpa using hx.2
    have hms := miss_add hx.1 hxs
    cases hr : readyS n R s x with
    | false =>
      have n1 : readyS n (addR R a b) s x = false := by
        cases hh : readyS n (addR R a b) s x with
        | false => rfl
        | true => rw [(readyS_iff hR).2 fun i hi => (readyS_iff hR1).1 hh i (addR_sub R a b i x hi)] at hr; cases hr
      have n2 : readyS n (addR R b a) s x = false := by
        cases hh : readyS n (addR R b a) s x with
        | false => rfl
        | true => rw [(readyS_iff hR).2 fun i hi => (readyS_iff hR2).1 hh i (addR_sub R b a i x hi)] at hr; cases hr
      simp [n1, n2]
    | true =>
      have hrr := (readyS_iff hR).1 hr
      have hbx : R b x = false := by
        cases hh : R b x with
        | false => rfl
        | true => have := hrr b hh; rw [hb] at this; cases this
      have hax : R a x = false := by
        cases hh : R a x with
        | false => rfl
        | true => have := hrr a hh; rw [ha] at this; cases this
      have hd' := hd.add hrr
      by_cases hxa : x = a
      · subst hxa
        have n2 : readyS n (addR R b x) s x = false := by
          cases hh : readyS n (addR R b x) s x with
          | false => rfl
          | true => have := (readyS_iff hR2).1 hh b (addR_mem R b x); rw [hb] at this; cases this
        have n1 : readyS n (addR R x b) s x = true := (readyS_iff hR1).2 fun i hi => by
          simp only [addR, Bool.or_eq_true, Bool.and_eq_true, beq_iff_eq, h2] at hi
          rcases hi with hi | ⟨_, hi⟩
          · exact hrr i hi
          · rcases hi with hi | hi
            · exact absurd hi hab
            · cases hi
        simp only [n1, n2, if_true, Bool.false_eq_true, if_false, Nat.add_zero]
        exact (cnt_in hR hR1 k _ hd' (by rw [testBit_or_two]; simp)).symm
      · by_cases hxb : x = b
        · subst hxb
          have n1 : readyS n (addR R a x) s x = false := by
            cases hh : readyS n (addR R a x) s x with
            | false => rfl
            | true => have := (readyS_iff hR1).1 hh a (addR_mem R a x); rw [ha] at this; cases this
          have n2 : readyS n (addR R x a) s x = true := (readyS_iff hR2).2 fun i hi => by
            simp only [addR, Bool.or_eq_true, Bool.and_eq_true, beq_iff_eq, h1] at hi
            rcases hi with hi | ⟨_, hi⟩
            · exact hrr i hi
            · rcases hi with hi | hi
              · exact absurd hi.symm hab
              · cases hi
          simp only [n1, n2, if_true, Bool.false_eq_true, if_false, Nat.zero_add]
          exact (cnt_in hR hR2 k _ hd' (by rw [testBit_or_two]; simp)).symm
        · have n1 : readyS n (addR R a b) s x = true := (readyS_iff hR1).2 fun i hi => by
            simp only [addR, Bool.or_eq_true, Bool.and_eq_true, beq_iff_eq, hbx] at hi
            rcases hi with hi | ⟨_, hi⟩
            · exact hrr i hi
            · rcases hi with hi | hi
              · exact absurd hi hxb
              · cases hi
          have n2 : readyS n (addR R b a) s x = true := (readyS_iff hR2).2 fun i hi => by
            simp only [addR, Bool.or_eq_true, Bool.and_eq_true, beq_iff_eq, hax] at hi
            rcases hi with hi | ⟨_, hi⟩
            · exact hrr i hi
            · rcases hi with hi | hi
              · exact absurd hi hxa
              · cases hi
          simp only [n1, n2, if_true]
          exact cnt_out hR han hbn hab h1 h2 hR1 hR2 k _ (by omega) hd' (by rw [testBit_or_two, ha]; simp [hxa]) (by rw [testBit_or_two, hb]; simp [hxb])

theorem count_add {n : Nat} {R : Bin} (hR : Rel n R) {a b : Nat} (han : a < n) (hbn : b < n) (hab : a ≠ b) (h1 : R a b = false) (h2 : R b a = false) :
    countR n (addR R a b) + countR n (addR R b a) = countR n R :=
  (cnt_out hR han hbn hab h1 h2 (addR_rel hR han hbn hab h2) (addR_rel hR hbn han (Ne.symm hab) h1) n 0 (miss_zero n) (fun i x hx => by simp at hx) (by simp) (by simp)).symm

theorem cnt_pos {n : Nat} {R : Bin} (hR : Rel n R) : ∀ (k s : Nat), miss n s = k → 1 ≤ cnt n R k s
  | 0, _, _ => Nat.le_refl _
  | k + 1, s, hm => by
    have hex : ∃ x, x < n ∧ s.testBit x = false := by
      apply Classical.byContradiction
      intro hno
      have : miss n s = 0 := by
        unfold miss
        rw [List.countP_eq_zero]
        intro x hx
        cases hb : s.testBit x with
        | true => simp
        | false => exact absurd ⟨x, List.mem_range.1 hx, hb⟩ hno
      omega
    obtain ⟨x, hx, hxs⟩ := hex
    obtain ⟨y, hy, hp, hq⟩ := hR.least (fun a => !s.testBit a) _ x hx (by simp [hxs]) (Nat.le_refl _)
    have hys : s.testBit y = false := by simpa using hp
    have hr : readyS n R s y = true := (readyS_iff hR).2 fun i hi => by simpa using hq i hi
    have hms := miss_add hy hys
    have := cnt_pos hR k (s ||| 2 ^ y) (by omega)
    rw [cnt_succ]
    have h := sum_ge ((List.range n).filter fun x => !s.testBit x) (fun x => if readyS n R s x then cnt n R k (s ||| 2 ^ x) else 0) y (by simp [hy, hys])
    simp only [hr, if_true] at h
    omega
theorem count_pos {n : Nat} {R : Bin} (hR : Rel n R) : 1 ≤ countR n R := cnt_pos hR n 0 (miss_zero n)
theorem count_le8 {n : Nat} (R : Bin) (h : n ≤ 8) : countR n R ≤ 40320 := by
  have h1 := cnt_le n R n 0 (miss_zero n)
  have h2 := fact_mono h
  have h3 : fact 8 = 40320 := by decide
  unfold countR
  omega
end Go.Proofs.YtnnnbmkhgcpjoaaDoor
