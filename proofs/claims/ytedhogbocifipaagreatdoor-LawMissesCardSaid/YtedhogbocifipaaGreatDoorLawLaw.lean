/- PLAIN: the laws of chapter 8: lengths, the first replacement, laws for each sound alone. -/
import Derived.Test.YtedhogbocifipaaGreatDoorMirLaw2
import Derived.Test.YtedhogbocifipaaGreatDoorGa31
import Derived.Test.YtedhogbocifipaaGreatDoorGa20
import Derived.Test.YtedhogbocifipaaGreatDoorGa35
namespace Go.Proofs.YtedhogbocifipaaGreatDoor
open Go.RowKit Go.Ab

theorem traceL_len {l : LawD} {ws : Wd} {j : Nat} {x : Nat × Wd} (h : (traceL l ws)[j]? = some x) : x.2.length + (j + 1) * l.ifs.length = ws.length + (j + 1) * l.outs.length := by
 unfold traceL at h
 have hP : ∀ c : Wd, c.length = l.ifs.length → (putL l c).length = l.outs.length := fun c _ => putL_length l c
 split at h
 ·have := allT_len hP ws (fun j hj => hit_le hj) _ _ _ 0 (fun _ => by simp) j x h
  simpa using this
 ·split at h
  ·exact rightT_len hP _ _ _ j x h
  ·exact leftT_len hP (fun _ _ hj => hit_le hj) _ _ _ j x h
theorem traceL_first {l : LawD} {ws : Wd} : (traceL l ws).head? = ((if l.mode = 1 ∨ l.mode = 2 then (hitsL l ws).head? else (hitsL l ws).getLast?)).map fun j => (j, replL l ws j) := by
 have hz : ((List.range (ws.length + 1)).filter fun j => decide (0 ≤ j) && hitL l ws j) = hitsL l ws := by
  unfold hitsL; congr 1
 unfold traceL
 by_cases h1 : l.mode = 1
 ·rw [if_pos h1, if_pos (.inl h1), allT_first ws (fun j hj => hit_le hj) _ 0 [] (by omega) (by simp), hz]; rfl
 ·rw [if_neg h1]
  by_cases h2 : l.mode = 2
  ·rw [if_pos h2, if_pos (.inr h2), rightT_first (fun _ _ hj => hit_le hj) _ _ _ (by omega), hz]; rfl
  ·rw [if_neg h2, if_neg (by omega), leftT_first _ _ _ (by omega)]
   have : (List.range (ws.length + 1 - l.ifs.length)).filter (hitL l ws) = hitsL l ws := by
    unfold hitsL
    conv => rhs; rw [show ws.length + 1 = (ws.length + 1 - l.ifs.length) + (ws.length + 1 - (ws.length + 1 - l.ifs.length)) by omega, List.range_add, List.filter_append]
    have hn : (List.map (fun x => ws.length + 1 - l.ifs.length + x) (List.range (ws.length + 1 - (ws.length + 1 - l.ifs.length)))).filter (hitL l ws) = [] := by
     rw [List.filter_eq_nil_iff]
     intro j hj hh
     obtain ⟨i, _, rfl⟩ := List.mem_map.1 hj
     have := hit_le hh
     omega
    rw [hn, List.append_nil]
   rw [this]; rfl
theorem traceL_nil {l : LawD} {ws : Wd} (h : hitsL l ws = []) : traceL l ws = [] := by
 have := traceL_first (l := l) (ws := ws)
 rw [h] at this
 have h2 : (traceL l ws).head? = none := by rw [this]; split <;> rfl
 exact List.head?_eq_none_iff.1 h2
/-- The first replacement is what Once gives. -/
theorem first_once {l : LawD} {ws : Wd} (h : trE l ws = 0) (hne : hitsL l ws ≠ []) :
  ∃ (a : Nat) (rest : List (Nat × Wd)), trT l ws = (a, replL l ws a) :: rest ∧ (l.mode = 1 ∨ l.mode = 2 → (hitsL l ws).head? = some a) ∧ (¬ (l.mode = 1 ∨ l.mode = 2) → (hitsL l ws).getLast? = some a) ∧ onceE l ws a = 0 ∧ onceW l ws a = replL l ws a := by
 have h0 := trE_law h
 have hf := traceL_first (l := l) (ws := ws)
 obtain ⟨a, ha, ha1, ha2⟩ : ∃ a, (if l.mode = 1 ∨ l.mode = 2 then (hitsL l ws).head? else (hitsL l ws).getLast?) = some a ∧ (l.mode = 1 ∨ l.mode = 2 → (hitsL l ws).head? = some a) ∧ (¬ (l.mode = 1 ∨ l.mode = 2) → (hitsL l ws).getLast? = some a) := by
  by_cases hm : l.mode = 1 ∨ l.mode = 2
  ·obtain ⟨a, r, hr⟩ := List.exists_cons_of_ne_nil hne
   exact ⟨a, by rw [if_pos hm, hr]; rfl, fun _ => by rw [hr]; rfl, fun h => absurd hm h⟩
  ·refine ⟨(hitsL l ws).getLast hne, by rw [if_neg hm, List.getLast?_eq_some_getLast hne], fun h => absurd h hm, fun _ => List.getLast?_eq_some_getLast hne⟩
 rw [ha] at hf
 have hmem : a ∈ hitsL l ws := by
  by_cases hm : l.mode = 1 ∨ l.mode = 2
  ·exact List.mem_of_head? (ha1 hm)
  ·exact List.mem_of_getLast? (ha2 hm)
 unfold hitsL at hmem
 obtain ⟨hr, hh⟩ := List.mem_filter.1 hmem
 have hr := List.mem_range.1 hr
 obtain ⟨rest, hrest⟩ : ∃ rest, traceL l ws = (a, replL l ws a) :: rest := by
  cases ht : traceL l ws with
  | nil => rw [ht] at hf; cases hf
  | cons x r => rw [ht] at hf; simp only [List.head?_cons, Option.map_some, Option.some.injEq] at hf; rw [hf]; exact ⟨r, rfl⟩
 have hlen : (replL l ws a).length ≤ 32 := longT_get (trE_short h) (x := (a, replL l ws a)) (by rw [hrest]; simp)
 have he : onceE l ws a = 0 := by
  unfold onceE
  rw [if_pos h0, if_neg (by omega), if_neg (by rw [show ((a : Int)).toNat = a from rfl, hh]; decide), if_neg (by rw [show ((a : Int)).toNat = a from rfl]; omega)]
 exact ⟨a, rest, by unfold trT; rw [if_pos h, hrest], ha1, ha2, he, by unfold onceW; rw [if_pos he]; rfl⟩

/-! ### A law for each sound alone -/
theorem allT_congr {α : Type} {H H' : List α → Nat → Bool} {P : List α → List α} {k : Nat} {w : List α} (h : ∀ i, H w i = H' w i) : ∀ (n i : Nat) (d : List α), allT H P k w n i d = allT H' P k w n i d
 | 0, _, _ => rfl
 | n + 1, i, d => by
  unfold allT
  rw [h i, allT_congr h n, allT_congr h n, allT_congr h n]
abbrev emptyPat : Pat := .node 0 0 0 false 0 0 []
/-- What one sound becomes. -/
def aloneF (l : LawD) (s : Nat × Nat) : Wd := if satV s (l.ifs.getD 0 (0, 0)) = true then putL l [s] else [s]
theorem edge_id (ws : Wd) (i : Nat) : (∃ a, a ≤ ws.length ∧ relP ws emptyPat a i = true) ↔ i ≤ ws.length := by
 have he : ∀ a b, relP ws emptyPat a b = idB ws.length a b := fun a b => by rw [relP_node]; simp [seqB]
 constructor
 ·rintro ⟨a, _, h2⟩
  rw [he] at h2; unfold idB at h2; simp at h2; omega
 ·intro h
  exact ⟨i, h, by rw [he]; unfold idB; simp [h]⟩
theorem edge_id2 (ws : Wd) (i : Nat) : (∃ b, b ≤ ws.length ∧ relP ws emptyPat i b = true) ↔ i ≤ ws.length := by
 have he : ∀ a b, relP ws emptyPat a b = idB ws.length a b := fun a b => by rw [relP_node]; simp [seqB]
 constructor
 ·rintro ⟨a, _, h2⟩
  rw [he] at h2; unfold idB at h2; simp at h2; omega
 ·intro h
  exact ⟨i, h, by rw [he]; unfold idB; simp [h]⟩
theorem chk_empty : chkP emptyPat = 0 := by decide
theorem alone_hit {l : LawD} (h1 : l.left = emptyPat) (h2 : l.right = emptyPat) (hk : l.ifs.length = 1) {ws : Wd} (hw : wE ws = 0) (i : Nat) :
  hitL l ws i = (match ws[i]? with | some s => satV s (l.ifs.getD 0 (0, 0)) | none => false) := by
 have hr : relE emptyPat ws = 0 := by
  rw [relE_zero]
  have hl := wE_le hw
  refine ⟨chk_empty, hl, ?_⟩
  unfold wE at hw; rw [if_neg (by omega)] at hw
  split at hw
  ·assumption
  ·cases hw
 have hf : i + 1 ≤ ws.length → fitsB l ws i = true := fun hi => by
  rw [fits_iff, h1, h2, beg_ne, end_ne, hk]
  exact ⟨⟨hr, by omega, (edge_id ws i).2 (by omega)⟩, hr, hi, (edge_id2 ws (i + 1)).2 hi⟩
 unfold hitL condB
 rw [hk]
 by_cases hi : i + 1 ≤ ws.length
 ·rw [hf hi, decide_eq_true hi, List.getElem?_eq_getElem (by omega)]
  simp only [Bool.true_and, Bool.and_true]
  rw [show List.range 1 = [0] from rfl]
  simp only [List.all_cons, List.all_nil, Bool.and_true, Nat.add_zero]
  rw [List.getD_eq_getElem?_getD, List.getElem?_eq_getElem (by omega)]; rfl
 ·rw [decide_eq_false hi, List.getElem?_eq_none (by omega)]; rfl
theorem alone_last {l : LawD} (h1 : l.left = emptyPat) (h2 : l.right = emptyPat) (hm : l.mode = 1) (hk : l.ifs.length = 1) {ws : Wd} (hw : wE ws = 0) : lastT ws (traceL l ws) = ws.flatMap (aloneF l) := by
 unfold lastT traceL
 rw [if_pos hm, hk, allT_congr (H' := fun ws i => match ws[i]? with | some s => satV s (l.ifs.getD 0 (0, 0)) | none => false) (alone_hit h1 h2 hk hw)]
 have := aloneT (H := fun ws i => match ws[i]? with | some s => satV s (l.ifs.getD 0 (0, 0)) | none => false) (P := putL l) (C := fun s => satV s (l.ifs.getD 0 (0, 0))) (fun w i => by cases w[i]? <;> rfl) ws (ws.length + 1) 0 [] (by omega)
 simp only [List.nil_append, List.drop_zero] at this
 exact this
theorem alone_err {l : LawD} (hb : lawB l = true) (h1 : l.left = emptyPat) (h2 : l.right = emptyPat) (hm : l.mode = 1) (hk : l.ifs.length = 1) {ws : Wd} : trE l ws = if wE ws = 0 then (if 32 < (ws.flatMap (aloneF l)).length then 11 else 0) else wE ws := by
 unfold trE lawW
 rw [if_pos hb]
 by_cases hw : wE ws = 0
 ·rw [if_pos hw, if_pos hw, last_long (wE_le hw) (fun j x hx => traceL_len hx), alone_last h1 h2 hm hk hw]
  simp
 ·rw [if_neg hw, if_neg hw]
theorem alone_app {l : LawD} (h1 : l.left = emptyPat) (h2 : l.right = emptyPat) (hm : l.mode = 1) (hk : l.ifs.length = 1) {ws : Wd} (h0 : trE l ws = 0) : appL l ws = ws.flatMap (aloneF l) := by
 unfold appL
 rw [if_pos h0]
 have h3 := trE_law h0
 exact alone_last h1 h2 hm hk (lawW_zero h3).2
theorem wE_append {v w : Wd} (h : v.length + w.length ≤ 32) : wE (v ++ w) = 0 ↔ wE v = 0 ∧ wE w = 0 := by
 unfold wE
 rw [List.length_append, if_neg (show ¬ 32 < v.length + w.length by omega), if_neg (show ¬ 32 < v.length by omega), if_neg (show ¬ 32 < w.length by omega)]
 have : allV (v ++ w) = (allV v && allV w) := by unfold allV; rw [List.all_append]
 rw [this]
 cases allV v <;> cases allV w <;> simp
/-- P8.8 for a law with one condition and without patterns. -/
theorem alone_law {l : LawD} (hb : lawB l = true) (h1 : l.left = emptyPat) (h2 : l.right = emptyPat) (hm : l.mode = 1) (hk : l.ifs.length = 1) {v w : Wd} (hl : v.length + w.length ≤ 32) :
  (trE l v ≠ 0 ∨ trE l w ≠ 0 → trE l (v ++ w) ≠ 0) ∧ (trE l v = 0 → trE l w = 0 → 32 < (appL l v).length + (appL l w).length → trE l (v ++ w) = 11) ∧
  (trE l v = 0 → trE l w = 0 → (appL l v).length + (appL l w).length ≤ 32 → trE l (v ++ w) = 0 ∧ appL l (v ++ w) = appL l v ++ appL l w) := by
 have e := fun u => alone_err hb h1 h2 hm hk (ws := u)
 refine ⟨fun h h0 => ?_, fun hv hw h => ?_, fun hv hw h => ?_⟩
 ·rw [e] at h0
  by_cases hz : wE (v ++ w) = 0
  ·rw [if_pos hz] at h0
   obtain ⟨z1, z2⟩ := (wE_append hl).1 hz
   rw [e v, e w, if_pos z1, if_pos z2] at h
   have h3 : ¬ 32 < ((v ++ w).flatMap (aloneF l)).length := by intro h4; rw [if_pos h4] at h0; cases h0
   rw [List.flatMap_append, List.length_append] at h3
   rw [if_neg (by omega), if_neg (by omega)] at h
   exact h.elim (fun h => h rfl) (fun h => h rfl)
  ·rw [if_neg hz] at h0; exact hz h0
 ·have z : wE (v ++ w) = 0 := (wE_append hl).2 ⟨(lawW_zero (trE_law hv)).2, (lawW_zero (trE_law hw)).2⟩
  rw [alone_app h1 h2 hm hk hv, alone_app h1 h2 hm hk hw] at h
  rw [e, if_pos z, if_pos (by rw [List.flatMap_append, List.length_append]; exact h)]
 ·have z : wE (v ++ w) = 0 := (wE_append hl).2 ⟨(lawW_zero (trE_law hv)).2, (lawW_zero (trE_law hw)).2⟩
  rw [alone_app h1 h2 hm hk hv, alone_app h1 h2 hm hk hw] at h
  have h3 : trE l (v ++ w) = 0 := by rw [e, if_pos z, if_neg (by rw [List.flatMap_append, List.length_append]; omega)]
  exact ⟨h3, by rw [alone_app h1 h2 hm hk hv, alone_app h1 h2 hm hk hw, alone_app h1 h2 hm hk h3, List.flatMap_append]⟩
end Go.Proofs.YtedhogbocifipaaGreatDoor
