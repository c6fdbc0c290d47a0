/- PLAIN: the mirror image of a law. -/
import Derived.Test.YtedhogbocifipaaGreatDoorGa08
import Derived.Test.YtedhogbocifipaaGreatDoorGa24
namespace Go.Proofs.YtedhogbocifipaaGreatDoor
open Go.RowKit Go.Ab

def mirOut (k : Nat) (x : OutD) : OutD := ⟨if 0 ≤ x.frm then (k : Int) - 1 - x.frm else x.frm, x.cl, x.st, x.tk, if x.tk = 0 then x.ofi else (k : Int) - 1 - x.ofi⟩
def mirLaw (l : LawD) : LawD := ⟨l.name, mirP l.right, mirP l.left, l.ifs.reverse, (l.outs.map (mirOut l.ifs.length)).reverse, if l.mode = 2 then 3 else 2⟩

theorem mirOut_fit {k : Nat} {x : OutD} (h : fitB k x = true) : fitB k (mirOut k x) = true := by
 unfold fitB mirOut at *
 simp only [Bool.and_eq_true, decide_eq_true_eq] at h ⊢
 obtain ⟨⟨⟨⟨⟨⟨⟨⟨h1, h2⟩, h3⟩, h4⟩, h5⟩, h6⟩, h7⟩, h8⟩, h9⟩ := h
 refine ⟨⟨⟨⟨⟨⟨⟨⟨?_, ?_⟩, h3⟩, h4⟩, h5⟩, h6⟩, h7⟩, h8⟩, ?_⟩
 ·split <;> omega
 ·split <;> omega
 ·by_cases h0 : x.tk = 0
  ·rw [if_pos h0] at h9 ⊢; rw [if_pos h0]; exact h9
  ·rw [if_neg h0] at h9 ⊢; rw [if_neg h0]
   simp only [Bool.and_eq_true, decide_eq_true_eq] at h9 ⊢
   omega
theorem mirOut_twice {k : Nat} {x : OutD} (h : fitB k x = true) : mirOut k (mirOut k x) = x := by
 unfold fitB at h
 simp only [Bool.and_eq_true, decide_eq_true_eq] at h
 obtain ⟨⟨⟨⟨⟨⟨⟨⟨h1, h2⟩, h3⟩, h4⟩, h5⟩, h6⟩, h7⟩, h8⟩, h9⟩ := h
 obtain ⟨fr, cl, st, tk, ofi⟩ := x
 simp only at h1 h2 h9
 unfold mirOut
 simp only
 congr 1
 ·by_cases h0 : 0 ≤ fr
  ·rw [if_pos h0, if_pos (by omega)]; omega
  ·rw [if_neg h0, if_neg h0]
 ·by_cases h0 : tk = 0
  ·rw [if_pos h0, if_pos h0]
  ·rw [if_neg h0, if_neg h0]; omega
theorem mirLaw_ok {l : LawD} (h : lawB l = true) (_hm : l.mode = 2 ∨ l.mode = 3) : lawB (mirLaw l) = true := by
 unfold lawB at h ⊢
 simp only [Bool.and_eq_true, decide_eq_true_eq] at h ⊢
 obtain ⟨⟨⟨⟨⟨⟨⟨⟨⟨h0, h1⟩, h2⟩, h3⟩, h4⟩, h5⟩, h6⟩, h7⟩, h8⟩, h9⟩ := h
 have hc : ∀ p, chkP p = 0 → chkP (mirP p) = 0 := fun p h => (chkP_zero _).2 ⟨mirP_allN _ ((chkP_zero p).1 h).1, by rw [mirP_tot]; exact ((chkP_zero p).1 h).2⟩
 unfold mirLaw
 refine ⟨⟨⟨⟨⟨⟨⟨⟨⟨h0, hc _ h2⟩, hc _ h1⟩, by simpa using h3⟩, by simpa using h4⟩, by simpa using h5⟩, ?_⟩, ?_⟩, ?_⟩, ?_⟩
 ·show 1 ≤ (if l.mode = 2 then (3 : Int) else 2); split <;> decide
 ·show (if l.mode = 2 then (3 : Int) else 2) ≤ 3; split <;> decide
 ·simpa using h8
 ·show ((l.outs.map (mirOut l.ifs.length)).reverse).all (fitB l.ifs.reverse.length) = true
  rw [List.all_reverse, List.length_reverse, List.all_map, List.all_eq_true]
  intro x hx
  exact mirOut_fit (List.all_eq_true.1 h9 x hx)
theorem mirLaw_twice {l : LawD} (h : lawB l = true) (hm : l.mode = 2 ∨ l.mode = 3) : mirLaw (mirLaw l) = l := by
 obtain ⟨_, _, _, _, hf, _⟩ := lawB_parts h
 obtain ⟨nm, le, ri, ifs, outs, mo⟩ := l
 unfold mirLaw
 simp only [mirP_twice, List.reverse_reverse, List.length_reverse, List.map_reverse, List.map_map]
 congr 1
 ·conv => rhs; rw [← List.map_id outs]
  exact List.map_congr_left fun x hx => mirOut_twice (hf x hx)
 ·rcases hm with hm | hm
  ·simp only at hm; rw [if_pos hm, hm]; rfl
  ·simp only at hm; rw [hm]; rfl
theorem mirOut_S {cut : Wd} {x : OutD} (h : fitB cut.length x = true) : outS cut.reverse (mirOut cut.length x) = outS cut x := by
 unfold fitB at h
 simp only [Bool.and_eq_true, decide_eq_true_eq] at h
 obtain ⟨⟨⟨⟨⟨⟨⟨⟨h1, h2⟩, h3⟩, h4⟩, h5⟩, h6⟩, h7⟩, h8⟩, h9⟩ := h
 have hget : ∀ z : Int, 0 ≤ z → z < cut.length → cut.reverse.getD ((cut.length : Int) - 1 - z).toNat (0, 0) = cut.getD z.toNat (0, 0) := by
  intro z hz1 hz2
  rw [getD_reverse cut (by omega)]
  congr 1; omega
 have e1 : (if 0 ≤ (mirOut cut.length x).frm then cut.reverse.getD (mirOut cut.length x).frm.toNat (0, 0) else (0, 0)) = (if 0 ≤ x.frm then cut.getD x.frm.toNat (0, 0) else (0, 0)) := by
  unfold mirOut
  simp only
  by_cases h0 : 0 ≤ x.frm
  ·rw [if_pos h0, if_pos (by omega), if_pos h0]; exact hget _ h0 h2
  ·rw [if_neg h0, if_neg h0, if_neg h0]
 unfold outS
 rw [e1]
 by_cases h0 : x.tk = 0
 ·rw [if_pos (show (mirOut cut.length x).tk = 0 from h0), if_pos h0]; rfl
 ·rw [if_neg (show ¬ (mirOut cut.length x).tk = 0 from h0), if_neg h0]
  rw [if_neg h0] at h9
  simp only [Bool.and_eq_true, decide_eq_true_eq] at h9
  have e2 : cut.reverse.getD (mirOut cut.length x).ofi.toNat (0, 0) = cut.getD x.ofi.toNat (0, 0) := by
   unfold mirOut
   simp only
   rw [if_neg h0]; exact hget _ h9.1 h9.2
  rw [e2]; rfl
theorem mirLaw_put {l : LawD} (h : lawB l = true) {cut : Wd} (hc : cut.length = l.ifs.length) : putL (mirLaw l) cut.reverse = (putL l cut).reverse := by
 obtain ⟨_, _, _, _, hf, _⟩ := lawB_parts h
 unfold putL mirLaw
 simp only
 rw [List.map_reverse, List.map_map]
 congr 1
 refine List.map_congr_left fun x hx => ?_
 show outS cut.reverse (mirOut l.ifs.length x) = outS cut x
 rw [← hc]
 exact mirOut_S (by rw [hc]; exact hf x hx)

theorem allV_reverse (w : Wd) : allV w.reverse = allV w := by unfold allV; rw [List.all_reverse]
theorem wE_reverse (w : Wd) : wE w.reverse = wE w := by unfold wE; rw [List.length_reverse, allV_reverse]
/-- What is at a place, by the relation. -/
theorem beg_ne {p : Pat} {ws : Wd} {i : Nat} : (begL p ws (i : Int)).isEmpty = false ↔ relE p ws = 0 ∧ i ≤ ws.length ∧ ∃ a, a ≤ ws.length ∧ relP ws p a i = true := by
 unfold begL placeE
 by_cases h : relE p ws = 0
 ·rw [if_pos h]
  unfold exE
  by_cases hi : i ≤ ws.length
  ·rw [if_neg (show ¬ ((i : Int) < 0 ∨ (ws.length : Int) < (i : Int)) by omega), if_pos rfl]
   rw [List.isEmpty_eq_false_iff_exists_mem]
   constructor
   ·rintro ⟨a, ha⟩
    obtain ⟨h1, h2⟩ := List.mem_filter.1 ha
    rw [relR_good h] at h2
    exact ⟨h, hi, a, by have := List.mem_range.1 h1; omega, h2⟩
   ·rintro ⟨_, _, a, ha, h2⟩
    exact ⟨a, List.mem_filter.2 ⟨List.mem_range.2 (by omega), by rw [relR_good h]; exact h2⟩⟩
  ·rw [if_pos (show (i : Int) < 0 ∨ (ws.length : Int) < (i : Int) by omega), if_neg (show ¬ (3 : Int) = 0 by decide)]
   simp; intros; omega
 ·rw [if_neg h, if_neg h]; simp [h]
theorem end_ne {p : Pat} {ws : Wd} {i : Nat} : (endL p ws (i : Int)).isEmpty = false ↔ relE p ws = 0 ∧ i ≤ ws.length ∧ ∃ b, b ≤ ws.length ∧ relP ws p i b = true := by
 unfold endL placeE
 by_cases h : relE p ws = 0
 ·rw [if_pos h]
  unfold exE
  by_cases hi : i ≤ ws.length
  ·rw [if_neg (show ¬ ((i : Int) < 0 ∨ (ws.length : Int) < (i : Int)) by omega), if_pos rfl]
   rw [List.isEmpty_eq_false_iff_exists_mem]
   constructor
   ·rintro ⟨a, ha⟩
    obtain ⟨h1, h2⟩ := List.mem_filter.1 ha
    rw [relR_good h] at h2
    exact ⟨h, hi, a, by have := List.mem_range.1 h1; omega, h2⟩
   ·rintro ⟨_, _, a, ha, h2⟩
    exact ⟨a, List.mem_filter.2 ⟨List.mem_range.2 (by omega), by rw [relR_good h]; exact h2⟩⟩
  ·rw [if_pos (show (i : Int) < 0 ∨ (ws.length : Int) < (i : Int) by omega), if_neg (show ¬ (3 : Int) = 0 by decide)]
   simp; intros; omega
 ·rw [if_neg h, if_neg h]; simp [h]
theorem fits_iff {l : LawD} {ws : Wd} {i : Nat} : fitsB l ws i = true ↔ (begL l.left ws (i : Int)).isEmpty = false ∧ (endL l.right ws ((i + l.ifs.length : Nat) : Int)).isEmpty = false := by
 unfold fitsB; simp
theorem mirLaw_fits {l : LawD} (h : lawB l = true) {w : Wd} {i : Nat} (hi : i + l.ifs.length ≤ w.length) : fitsB (mirLaw l) w.reverse (w.length - l.ifs.length - i) = fitsB l w i := by
 obtain ⟨_, _, _, _, _, hcl, hcr, _⟩ := lawB_parts h
 have hk : (mirLaw l).ifs.length = l.ifs.length := by simp [mirLaw]
 have hr : ∀ p : Pat, chkP p = 0 → (relE (mirP p) w.reverse = 0 ↔ w.length ≤ 32 ∧ allV w = true) := fun p hp => by
  rw [relE_zero, List.length_reverse, allV_reverse]
  exact ⟨fun h => h.2, fun h => ⟨(chkP_zero _).2 ⟨mirP_allN _ ((chkP_zero p).1 hp).1, by rw [mirP_tot]; exact ((chkP_zero p).1 hp).2⟩, h⟩⟩
 have hr2 : ∀ p : Pat, chkP p = 0 → (relE p w = 0 ↔ w.length ≤ 32 ∧ allV w = true) := fun p hp => by
  rw [relE_zero]; exact ⟨fun h => h.2, fun h => ⟨hp, h⟩⟩
 have hfl : ∀ p : Pat, chkP p = 0 → w.length ≤ 32 → ∀ a b, relP w.reverse (mirP p) a b = true ↔ a ≤ w.length ∧ b ≤ w.length ∧ relP w p (w.length - b) (w.length - a) = true := fun p hp hn a b => by
  rw [mirror_law w hn p ((chkP_zero p).1 hp).1, flipB_iff]
 apply Bool.eq_iff_iff.2
 rw [fits_iff, fits_iff, beg_ne, beg_ne, end_ne, end_ne]
 show (relE (mirP l.right) w.reverse = 0 ∧ _ ∧ ∃ a, _ ∧ relP w.reverse (mirP l.right) a _ = true) ∧ (relE (mirP l.left) w.reverse = 0 ∧ _ ∧ ∃ b, _ ∧ relP w.reverse (mirP l.left) (w.length - l.ifs.length - i + l.ifs.reverse.length) b = true) ↔ _
 rw [hr _ hcr, hr _ hcl, hr2 _ hcl, hr2 _ hcr]
 simp only [List.length_reverse]
 constructor
 ·rintro ⟨⟨hv, h1, a, ha, h2⟩, ⟨_, h3, b, hb, h4⟩⟩
  rw [hfl _ hcr hv.1] at h2
  rw [hfl _ hcl hv.1] at h4
  refine ⟨⟨hv, by omega, w.length - b, by omega, ?_⟩, ⟨hv, hi, w.length - a, by omega, ?_⟩⟩
  ·rw [show i = w.length - (w.length - l.ifs.length - i + l.ifs.length) by omega]; exact h4.2.2
  ·rw [show i + l.ifs.length = w.length - (w.length - l.ifs.length - i) by omega]; exact h2.2.2
 ·rintro ⟨⟨hv, h1, a, ha, h2⟩, ⟨_, h3, b, hb, h4⟩⟩
  refine ⟨⟨hv, by omega, w.length - b, by omega, ?_⟩, ⟨hv, by omega, w.length - a, by omega, ?_⟩⟩
  ·rw [hfl _ hcr hv.1]
   refine ⟨by omega, by omega, ?_⟩
   rw [show w.length - (w.length - l.ifs.length - i) = i + l.ifs.length by omega, show w.length - (w.length - b) = b by omega]; exact h4
  ·rw [hfl _ hcl hv.1]
   refine ⟨by omega, by omega, ?_⟩
   rw [show w.length - (w.length - l.ifs.length - i + l.ifs.length) = i by omega, show w.length - (w.length - a) = a by omega]; exact h2
theorem mirLaw_cond {l : LawD} {w : Wd} {i : Nat} (hi : i + l.ifs.length ≤ w.length) : condB (mirLaw l) w.reverse (w.length - l.ifs.length - i) = condB l w i := by
 unfold condB
 show (decide (_ + l.ifs.reverse.length ≤ _) && (List.range l.ifs.reverse.length).all fun j => satV (w.reverse.getD (w.length - l.ifs.length - i + j) (0, 0)) (l.ifs.reverse.getD j (0, 0))) = _
 simp only [List.length_reverse]
 rw [decide_eq_true (show w.length - l.ifs.length - i + l.ifs.length ≤ w.length by omega), decide_eq_true hi, Bool.true_and, Bool.true_and]
 apply Bool.eq_iff_iff.2
 rw [List.all_eq_true, List.all_eq_true]
 have key : ∀ j, j < l.ifs.length → satV (w.reverse.getD (w.length - l.ifs.length - i + j) (0, 0)) (l.ifs.reverse.getD j (0, 0)) = satV (w.getD (i + (l.ifs.length - 1 - j)) (0, 0)) (l.ifs.getD (l.ifs.length - 1 - j) (0, 0)) := by
  intro j hj
  rw [getD_reverse w (by omega), getD_reverse l.ifs hj]
  congr 2; omega
 constructor
 ·intro h j hj
  have hj := List.mem_range.1 hj
  have := h (l.ifs.length - 1 - j) (List.mem_range.2 (by omega))
  rw [key _ (by omega), show l.ifs.length - 1 - (l.ifs.length - 1 - j) = j by omega] at this
  exact this
 ·intro h j hj
  have hj := List.mem_range.1 hj
  rw [key _ hj]
  exact h _ (List.mem_range.2 (by omega))
theorem mirLaw_hit {l : LawD} (h : lawB l = true) {w : Wd} {i : Nat} (hi : i + l.ifs.length ≤ w.length) : hitL (mirLaw l) w.reverse (w.length - l.ifs.length - i) = hitL l w i := by
 unfold hitL; rw [mirLaw_cond hi, mirLaw_fits h hi]
/-- From right to left is from left to right in the mirror. -/
theorem mirLaw_trace {l : LawD} (h : lawB l = true) (hm : l.mode = 2) (w : Wd) : (traceL (mirLaw l) w.reverse).map (·.2) = (traceL l w).map fun x => x.2.reverse := by
 have hk : (mirLaw l).ifs.length = l.ifs.length := by simp [mirLaw]
 have hmo : (mirLaw l).mode = 3 := by simp [mirLaw, hm]
 unfold traceL
 rw [hmo, hm, if_neg (by decide), if_neg (by decide), if_neg (by decide), if_pos rfl, hk, List.length_reverse]
 exact mirrorT (H := hitL l) (P := putL l) (H' := hitL (mirLaw l)) (P' := putL (mirLaw l)) (fun c hc => mirLaw_put h hc) (fun c _ => putL_length l c) (fun u i hi => mirLaw_hit h hi) (w.length + 1) w 0
theorem longT_map {t t' : List (Nat × Wd)} (h : t.map (·.2) = t'.map fun x => x.2.reverse) : longT t = longT t' := by
 have h1 : ∀ t : List (Nat × Wd), longT t = ((t.map (·.2)).map List.length).any (fun n => decide (32 < n)) := fun t => by unfold longT; rw [List.map_map, List.any_map]; rfl
 rw [h1, h1, h, List.map_map, List.map_map]
 simp only [Function.comp_def, List.length_reverse]
theorem lastT_map {t t' : List (Nat × Wd)} (w : Wd) (h : t.map (·.2) = t'.map fun x => x.2.reverse) : lastT w.reverse t = (lastT w t').reverse := by
 unfold lastT
 rw [h]
 have : ∀ (l : List (Nat × Wd)) (d : Wd), (l.map fun x => x.2.reverse).getLastD d.reverse = ((l.map (·.2)).getLastD d).reverse := by
  intro l
  induction l with
  | nil => intro d; rfl
  | cons a l ih => intro d; rw [List.map_cons, List.map_cons, List.getLastD_cons, List.getLastD_cons]; exact ih a.2
 exact this _ _
theorem mir_two {l : LawD} (h : lawB l = true) (hm : l.mode = 2) (w : Wd) : trE (mirLaw l) w.reverse = trE l w ∧ appL (mirLaw l) w.reverse = (appL l w).reverse := by
 have h2 := mirLaw_ok h (.inl hm)
 have ht := mirLaw_trace h hm w
 have he : trE (mirLaw l) w.reverse = trE l w := by
  unfold trE lawW
  rw [if_pos h, if_pos h2, wE_reverse, longT_map ht]
 refine ⟨he, ?_⟩
 unfold appL
 rw [he]
 split
 ·exact lastT_map w ht
 ·rfl
/-- P8.8 for laws from the right, and from the left. -/
theorem mir_law {l : LawD} (h : lawB l = true) (hm : l.mode = 2 ∨ l.mode = 3) (w : Wd) : trE (mirLaw l) w.reverse = trE l w ∧ appL (mirLaw l) w.reverse = (appL l w).reverse := by
 rcases hm with hm | hm
 ·exact mir_two h hm w
 ·have h2 := mirLaw_ok h (.inr hm)
  have hm2 : (mirLaw l).mode = 2 := by simp [mirLaw, hm]
  have := mir_two h2 hm2 w.reverse
  rw [mirLaw_twice h (.inr hm), List.reverse_reverse] at this
  refine ⟨this.1.symm, ?_⟩
  rw [this.2, List.reverse_reverse]
end Go.Proofs.YtedhogbocifipaaGreatDoor
