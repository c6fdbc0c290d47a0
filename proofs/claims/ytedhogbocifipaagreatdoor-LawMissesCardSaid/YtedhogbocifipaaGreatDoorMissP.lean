/- PLAIN: the first replacement, and none, as LawMisses wants them. -/
import Derived.Test.YtedhogbocifipaaGreatDoorLawLaw
import Derived.Test.YtedhogbocifipaaGreatDoorGa20
namespace Go.Proofs.YtedhogbocifipaaGreatDoor
open Go.RowKit Go.Ab

theorem hitsV_bad {l : LawD} {ws : Wd} (h : lawW l ws ≠ 0) : hitsV l ws = [] := by unfold hitsV; rw [if_neg h]
theorem hitsV_good {l : LawD} {ws : Wd} (h : lawW l ws = 0) : hitsV l ws = hitsL l ws := by unfold hitsV; rw [if_pos h]
theorem miss_none {l : LawD} {ws : Wd} (h : lawW l ws = 0) (hn : (hitsV l ws).length = 0) : trE l ws = 0 ∧ (trT l ws).length = 0 ∧ appL l ws = ws := by
 rw [hitsV_good h] at hn
 have ht := traceL_nil (List.eq_nil_of_length_eq_zero hn)
 have he : trE l ws = 0 := by unfold trE; rw [if_pos h, ht]; rfl
 have hz : (trT l ws).length = 0 := by unfold trT; rw [if_pos he, ht]; rfl
 exact ⟨he, hz, appL_nil he hz⟩
theorem miss_first {l : LawD} {ws : Wd} (h : trE l ws = 0) (hn : (hitsV l ws).length ≠ 0) :
  ∃ a : Nat, (trT l ws).length ≠ 0 ∧ ((trT l ws).map (·.1)).getD 0 0 = a ∧ onceE l ws a = 0 ∧ onceW l ws a = ((trT l ws).map (·.2)).getD 0 [] ∧
   (l.mode ≠ 3 → (hitsV l ws).getD 0 0 = a) ∧ (l.mode = 3 → (hitsV l ws).getD ((hitsV l ws).length - 1) 0 = a) := by
 have h0 := trE_law h
 rw [hitsV_good h0] at hn ⊢
 obtain ⟨a, rest, ht, h1, h2, h3, h4⟩ := first_once h (fun e => hn (by rw [e]; rfl))
 have hm : 1 ≤ l.mode ∧ l.mode ≤ 3 := by
  have hb := (lawW_zero h0).1
  unfold lawB at hb
  simp only [Bool.and_eq_true, decide_eq_true_eq] at hb
  exact ⟨hb.1.1.1.2, hb.1.1.2⟩
 refine ⟨a, by rw [ht]; simp, by rw [ht]; rfl, h3, by rw [ht, h4]; rfl, fun hm3 => ?_, fun hm3 => ?_⟩
 ·have := h1 (by omega)
  rw [List.getD_eq_getElem?_getD, ← List.head?_eq_getElem?, this]; rfl
 ·have := h2 (by omega)
  rw [List.getD_eq_getElem?_getD, ← List.getLast?_eq_getElem?, this]; rfl
end Go.Proofs.YtedhogbocifipaaGreatDoor
