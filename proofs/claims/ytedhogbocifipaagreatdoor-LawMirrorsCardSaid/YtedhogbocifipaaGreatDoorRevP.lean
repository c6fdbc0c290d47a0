/- slices.Reverse over patterns. -/
import Derived.Test.YtedhogbocifipaaGreatDoorGa09
import Derived.Test.YtedhogbocifipaaGreatDoorCheckP
set_option maxRecDepth 100000
set_option maxHeartbeats 16000000
namespace Go.Proofs.YtedhogbocifipaaGreatDoor
open Go.RowKit Go.Ab
attribute [local go_sem] Oper.semAt_some wide_fn wide_depth

theorem list7 {xs : List Value} (h : xs.length = 7) : ∃ a0 a1 a2 a3 a4 a5 a6, xs = [a0, a1, a2, a3, a4, a5, a6] := by
 match xs, h with
 | [a0, a1, a2, a3, a4, a5, a6], _ => exact ⟨_, _, _, _, _, _, _, rfl⟩
theorem range7 {w : World} {g o : Nat} {cs : List Value} {a0 a1 a2 a3 a4 a5 a6 : Value} (h : w.rangeAt g o cs) (e : cs = [a0, a1, a2, a3, a4, a5, a6]) :
  w.cell? ⟨g, o, none⟩ = some a0 ∧ w.cell? ⟨g, o + 1, none⟩ = some a1 ∧ w.cell? ⟨g, o + 2, none⟩ = some a2 ∧ w.cell? ⟨g, o + 3, none⟩ = some a3 ∧ w.cell? ⟨g, o + 4, none⟩ = some a4 ∧ w.cell? ⟨g, o + 5, none⟩ = some a5 ∧ w.cell? ⟨g, o + 6, none⟩ = some a6 := by
 subst e
 exact ⟨h 0 _ rfl, h 1 _ rfl, h 2 _ rfl, h 3 _ rfl, h 4 _ rfl, h 5 _ rfl, h 6 _ rfl⟩
theorem mem_over : ∀ {cs cur : List Value} {o : Nat} {v : Value}, v ∈ overL cur o cs → v ∈ cur ∨ v ∈ cs
 | [], _, _, _, h => .inl h
 | c :: cs, cur, o, v, h => by
  unfold overL at h
  rcases mem_over h with h | h
  ·rcases List.mem_or_eq_of_mem_set h with h | rfl
   ·exact .inl h
   ·exact .inr (List.mem_cons_self ..)
  ·exact .inr (List.mem_cons_of_mem _ h)
theorem mem_chunk {xs : List Value} {j : Nat} {v : Value} (h : v ∈ chunk xs j) : v ∈ xs := List.mem_of_mem_drop (List.mem_of_mem_take h)
theorem all_one_list {l : List Value} (h : ∀ v ∈ l, v.oneCell' = true) : l.toArray.all (·.oneCell') = true := by
 rw [Array.all_eq_true]
 intro i hi
 exact h _ (by simp)
theorem rev_step {xs ys A B : List Value} {n i j : Nat} (hl : ys.length = n * 7) (hj : j < n) (hi : i < j) (hz : (j : Int) = (n : Int) - 1 - i) (hch : ∀ k, k < n → chunk ys k = if k < i ∨ (j : Int) < (k : Int) then chunk xs (n - 1 - k) else chunk xs k)
  (ea : chunk ys i = A) (eb : chunk ys j = B) (hA : A.length = 7) (hB : B.length = 7) :
  ∀ k, k < n → chunk (overL (overL ys (i * 7) B) (j * 7) A) k = if k < i + 1 ∨ (j : Int) - 1 < (k : Int) then chunk xs (n - 1 - k) else chunk xs k := by
 intro k hk
 rw [chunk_over (n := n) (by rw [overL_length]; exact hl) hj hA]
 by_cases h1 : k = j
 ·subst h1
  rw [if_pos rfl, if_pos (by omega), ← ea, hch i (by omega), if_neg (by omega)]
  congr 1; omega
 ·rw [if_neg h1, chunk_over (n := n) hl (by omega) hB]
  by_cases h2 : k = i
  ·subst h2
   rw [if_pos rfl, if_pos (by omega), ← eb, hch j hj, if_neg (by omega)]
   congr 1; omega
  ·rw [if_neg h2, hch k hk]
   by_cases h3 : k < i ∨ (j : Int) < (k : Int)
   ·rw [if_pos h3, if_pos (by omega)]
   ·rw [if_neg h3, if_neg (by omega)]
theorem rev_one {ys A B : List Value} {i j : Nat} (h : ∀ v ∈ ys, v.oneCell' = true) (ea : chunk ys i = A) (eb : chunk ys j = B) : ∀ v ∈ overL (overL ys (i * 7) B) (j * 7) A, v.oneCell' = true := by
 intro v hv
 rcases mem_over hv with hv | hv
 ·rcases mem_over hv with hv | hv
  ·exact h v hv
  ·exact h v (mem_chunk (by rw [eb]; exact hv))
 ·exact h v (mem_chunk (by rw [ea]; exact hv))
theorem rev_fin {w W A B : World} {v : Value} {g : Nat} (hT : Turn (fun b => v.ownBlock = some b) w W) (h2 : Turn (· = g) W.drew A) (h3 : Turn (· = g) A B) (hv : v.ownBlock = some g) : Turn (fun b => v.ownBlock = some b) w B :=
 ((hT.drew).trans (h2.mono (fun b _ e => by rw [hv, e]))).trans (h3.mono (fun b _ e => by rw [hv, e]))

theorem reverse_pats {w : World} {base n cap : Nat} {ao : Option Addr} {xs : List Value} (hO : w.ownsRow base 27 7 (.slice ao n cap) n xs) (h1 : ∀ v ∈ xs, v.oneCell' = true) :
  Calls Tryz.prog 135 #[.slice ao n cap] w fun e w' => e = .returned (.tuple #[]) ∧ ∃ xs', w'.ownsRow base 27 7 (.slice ao n cap) n xs' ∧ (∀ k, k < n → chunk xs' k = chunk xs (n - 1 - k)) ∧ Turn (fun b => (Value.slice ao n cap).ownBlock = some b) w w' := by
 have hnm := Nat.le_trans (own_len hO).1 (own_len hO).2
 unfold maxLen at hnm
 have HO := Lib.hid hO; have HX := Lib.hid h1
 clear hO h1
 go_enter Tryz.func135, Tryz.ntmps135
 go_wp2
 refine wp_loop (fun a W => ∃ (i : Nat) (z : Int) (ys : List Value), i ≤ n ∧ z = (n : Int) - 1 - i ∧ ((i : Int) ≤ z + 2) ∧ a.defers = [] ∧ (a.tmps.size = 28 ∧ a.tmps.getD 0 undef = .slice ao n cap ∧ a.tmps.getD 2 undef = .int .i64 i ∧ a.tmps.getD 3 undef = .int .i64 z) ∧ W.ownsRow base 27 7 (.slice ao n cap) n ys ∧ (∀ v ∈ ys, v.oneCell' = true) ∧
   (∀ k, k < n → chunk ys k = if k < i ∨ z < (k : Int) then chunk xs (n - 1 - k) else chunk xs k) ∧ Turn (fun b => (Value.slice ao n cap).ownBlock = some b) w W)
  (fun a _ => n - (intOf (a.tmps.getD 2 undef)).toNat) ?_ ?_
 ·refine ⟨0, (n : Int) - 1, xs, by omega, by omega, by omega, rfl, ⟨rfl, rfl, rfl, by go_num⟩, HO.out, HX.out, ?_, Turn.refl _ _⟩
  intro k hk
  rw [if_neg (by omega)]
 rintro ⟨t, _⟩ W ⟨i, z, ys, hi, hz, hiz, hds, ⟨hsz, f0, f2, f3⟩, hOW, hX1, hch, hT⟩
 subst hds
 obtain ⟨u', hu⟩ := frame_fun hsz
 obtain ⟨u, rfl⟩ : ∃ x, x = u' := ⟨_, rfl⟩
 have hu' : t = #[u 0, u 1, u 2, u 3, u 4, u 5, u 6, u 7, u 8, u 9, u 10, u 11, u 12, u 13, u 14, u 15, u 16, u 17, u 18, u 19, u 20, u 21, u 22, u 23, u 24, u 25, u 26, u 27] := hu
 clear hu
 subst hu'
 change u 0 = _ at f0
 change u 2 = _ at f2
 change u 3 = _ at f3
 rw [f0, f2, f3]
 clear f0 f2 f3 hsz
 have HOW := Lib.hid hOW; have HX1 := Lib.hid hX1; have HCH := Lib.hid hch; have HT := Lib.hid hT
 clear hOW hX1 hch hT
 by_cases hlt : (i : Int) < z
 ·obtain ⟨j, rfl⟩ : ∃ j : Nat, z = j := ⟨z.toNat, by omega⟩
  have hjn : (j : Int) < (n : Int) := by omega
  have hin : (i : Int) < (n : Int) := by omega
  have hj0 : (0 : Int) ≤ (j : Int) := by omega
  have hi0 : (0 : Int) ≤ (i : Int) := by omega
  obtain ⟨g, rfl⟩ := own_some HOW.out (by omega)
  obtain ⟨a0, a1, a2, a3, a4, a5, a6, ea⟩ := list7 (chunk_length HOW.out.1 (show i < n by omega))
  obtain ⟨b0, b1, b2, b3, b4, b5, b6, eb⟩ := list7 (chunk_length HOW.out.1 (show j < n by omega))
  obtain ⟨c0, c1, c2, c3, c4, c5, c6⟩ := range7 (own_chunk HOW.out i) ea
  obtain ⟨d0, d1, d2, d3, d4, d5, d6⟩ := range7 (own_chunk HOW.out j) eb
  have EA := Lib.hid ea; have EB := Lib.hid eb; have HZ := Lib.hid hz
  clear ea eb hz
  go_wp2
  refine wp_region_held_drew (S := fun _ => True) (by kernel_rfl) trivial ?_
  intro _
  -- WALK
  refine tkH (i := 0) (d := 14) (v := ?_) rfl (Or.inl ⟨by rfl, ?_⟩) trivial ?_
  rotate_left
  ·intro w hSw; (try dsimp only at hSw); go_simp; try with_reducible rfl
  try simp only [Act.put, pq]
  refine tkH (i := 1) (d := 15) (v := ?_) rfl (Or.inl ⟨by rfl, ?_⟩) trivial ?_
  rotate_left
  ·intro w hSw; (try dsimp only at hSw); go_simp; try with_reducible rfl
  try simp only [Act.put, pq]
  refine tkH (i := 2) (d := 16) (v := ?_) rfl (Or.inl ⟨by rfl, ?_⟩) trivial ?_
  rotate_left
  ·intro w hSw; (try dsimp only at hSw); go_simp; try with_reducible rfl
  try simp only [Act.put, pq]
  refine tkH (i := 3) (d := 17) (v := ?_) rfl (Or.inl ⟨by rfl, ?_⟩) trivial ?_
  rotate_left
  ·intro w hSw; (try dsimp only at hSw); go_simp; try with_reducible rfl
  try simp only [Act.put, pq]
  refine tkH (i := 4) (d := 18) (v := ?_) rfl (Or.inl ⟨by rfl, ?_⟩) trivial ?_
  rotate_left
  ·intro w hSw; (try dsimp only at hSw); go_simp; try with_reducible rfl
  try simp only [Act.put, pq]
  refine tkH (i := 5) (d := 19) (v := ?_) rfl (Or.inl ⟨by rfl, ?_⟩) trivial ?_
  rotate_left
  ·intro w hSw; (try dsimp only at hSw); go_simp; try with_reducible rfl
  try simp only [Act.put, pq]
  refine tkH (i := 6) (d := 20) (v := ?_) rfl (Or.inl ⟨by rfl, ?_⟩) trivial ?_
  rotate_left
  ·intro w hSw; (try dsimp only at hSw); go_simp; try with_reducible rfl
  try simp only [Act.put, pq]
  refine tkH (i := 8) (d := 22) (v := ?_) rfl (Or.inl ⟨by rfl, ?_⟩) trivial ?_
  rotate_left
  ·intro w hSw; (try dsimp only at hSw); go_simp; try with_reducible rfl
  try simp only [Act.put, pq]
  refine tkH (i := 9) (d := 23) (v := ?_) rfl (Or.inl ⟨by rfl, ?_⟩) trivial ?_
  rotate_left
  ·intro w hSw; (try dsimp only at hSw); go_simp; try with_reducible rfl
  try simp only [Act.put, pq]
  refine tkH (i := 10) (d := 24) (v := ?_) rfl (Or.inl ⟨by rfl, ?_⟩) trivial ?_
  rotate_left
  ·intro w hSw; (try dsimp only at hSw); go_simp; try with_reducible rfl
  try simp only [Act.put, pq]
  refine wpAnyH_ready (rs := [7, 11]) (by kernel_rfl) (by simp) ?_
  refine AllReadyH.cons rfl (fun K hK => ?_) (AllReadyH.cons rfl (fun K hK => ?_) (AllReadyH.nil))
  ·(try rw [if_pos (show Region.wanted _ _ = true from rfl)])
   go_simp
   refine hK.out _ _ trivial (fun _ => ?_)
   clear hK K
   try simp only [Act.put, pq]
   refine wpAnyH_ready (rs := [11]) (by kernel_rfl) (by simp) ?_
   refine AllReadyH.cons rfl (fun K hK => ?_) (AllReadyH.nil)
   (try rw [if_pos (show Region.wanted _ _ = true from rfl)])
   go_simp
   refine hK.out _ _ trivial (fun _ => ?_)
   clear hK K
   try simp only [Act.put, pq]
   have hO1 := own_ext HOW.out ((Turn.refl (fun _ => False) W).drew)
   refine tkH (i := 12) (d := 26) (v := ?_) rfl (Or.inl ⟨by rfl, ?_⟩) trivial ?_
   rotate_left
   ·intro w hSw; (try dsimp only at hSw); go_simp; try with_reducible rfl
   try simp only [Act.put, pq]
   refine wpAnyH_ready (rs := [13]) (by kernel_rfl) (by simp) ?_
   refine AllReadyH.cons rfl (fun K hK => ?_) (AllReadyH.nil)
   (try rw [if_pos (show Region.wanted _ _ = true from rfl)])
   refine wp_store_mid 27 (.tmp 26) (.tmp 21) rfl g (i * 7) #[b0, b1, b2, b3, b4, b5, b6] rfl rfl (own_there hO1 (by simp only [List.size_toArray, List.length_cons, List.length_nil]; omega)) (by kernel_rfl) (all_one_list ?hone) ?_
   case hone => intro v hv; exact HX1.out v (mem_chunk (j := j) (by rw [EB.out]; exact hv))
   refine hK.out _ _ trivial (fun _ => ?_)
   clear hK K
   change wpAnyH _ _ _ _ _ _ _ (Act.put _ none _) _
   simp only [Act.put]
   have hO2 := own_setMid (cs := [b0, b1, b2, b3, b4, b5, b6]) hO1 (show i < n by omega) rfl
   refine tkH (i := 14) (d := 27) (v := ?_) rfl (Or.inl ⟨by rfl, ?_⟩) trivial ?_
   rotate_left
   ·intro w hSw; (try dsimp only at hSw); go_simp; try with_reducible rfl
   try simp only [Act.put, pq]
   refine wpAnyH_ready (rs := [15]) (by kernel_rfl) (by simp) ?_
   refine AllReadyH.cons rfl (fun K hK => ?_) (AllReadyH.nil)
   (try rw [if_pos (show Region.wanted _ _ = true from rfl)])
   refine wp_store_mid 27 (.tmp 27) (.tmp 25) rfl g (j * 7) #[a0, a1, a2, a3, a4, a5, a6] rfl rfl (own_there hO2 (by simp only [List.size_toArray, List.length_cons, List.length_nil]; omega)) (by kernel_rfl) (all_one_list ?hone) ?_
   case hone => intro v hv; exact HX1.out v (mem_chunk (j := i) (by rw [EA.out]; exact hv))
   refine hK.out _ _ trivial (fun _ => ?_)
   clear hK K
   change wpAnyH _ _ _ _ _ _ _ (Act.put _ none _) _
   simp only [Act.put]
   have hO3 := own_setMid (cs := [a0, a1, a2, a3, a4, a5, a6]) hO2 (show j < n by omega) rfl
   refine wpAnyH_done (by kernel_rfl) ?_ _
   have hT3 := (Turn.setCells (W.drew.setCells g (i * 7) [b0, b1, b2, b3, b4, b5, b6]) g [a0, a1, a2, a3, a4, a5, a6] (j * 7))
   have hT2 := (Turn.setCells W.drew g [b0, b1, b2, b3, b4, b5, b6] (i * 7))
   have hFI := rev_fin HT.out hT2 hT3 rfl
   have HO3 := Lib.hid hO3; have HFI := Lib.hid hFI
   have hCH := rev_step HOW.out.1 (show j < n by omega) (show i < j by omega) HZ.out HCH.out EA.out EB.out rfl rfl
   have HC2 := Lib.hid hCH
   have hX2 := rev_one HX1.out EA.out EB.out (i := i) (j := j)
   have HX2 := Lib.hid hX2
   clear hO1 hO2 hO3 hT2 hT3 hFI hCH hX2 c0 c1 c2 c3 c4 c5 c6 d0 d1 d2 d3 d4 d5 d6
   go_wp2
   have hz2 := HZ.out
   exact ⟨⟨i + 1, (j : Int) - 1, _, by omega, by omega, by omega, by first | rfl | trivial, ⟨rfl, rfl, by simp, rfl⟩, HO3.out, HX2.out, HC2.out, HFI.out⟩, by simp [intOf]; omega⟩
  ·(try rw [if_pos (show Region.wanted _ _ = true from rfl)])
   go_simp
   refine hK.out _ _ trivial (fun _ => ?_)
   clear hK K
   try simp only [Act.put, pq]
   refine wpAnyH_ready (rs := [7]) (by kernel_rfl) (by simp) ?_
   refine AllReadyH.cons rfl (fun K hK => ?_) (AllReadyH.nil)
   (try rw [if_pos (show Region.wanted _ _ = true from rfl)])
   go_simp
   refine hK.out _ _ trivial (fun _ => ?_)
   clear hK K
   try simp only [Act.put, pq]
   have hO1 := own_ext HOW.out ((Turn.refl (fun _ => False) W).drew)
   refine tkH (i := 12) (d := 26) (v := ?_) rfl (Or.inl ⟨by rfl, ?_⟩) trivial ?_
   rotate_left
   ·intro w hSw; (try dsimp only at hSw); go_simp; try with_reducible rfl
   try simp only [Act.put, pq]
   refine wpAnyH_ready (rs := [13]) (by kernel_rfl) (by simp) ?_
   refine AllReadyH.cons rfl (fun K hK => ?_) (AllReadyH.nil)
   (try rw [if_pos (show Region.wanted _ _ = true from rfl)])
   refine wp_store_mid 27 (.tmp 26) (.tmp 21) rfl g (i * 7) #[b0, b1, b2, b3, b4, b5, b6] rfl rfl (own_there hO1 (by simp only [List.size_toArray, List.length_cons, List.length_nil]; omega)) (by kernel_rfl) (all_one_list ?hone) ?_
   case hone => intro v hv; exact HX1.out v (mem_chunk (j := j) (by rw [EB.out]; exact hv))
   refine hK.out _ _ trivial (fun _ => ?_)
   clear hK K
   change wpAnyH _ _ _ _ _ _ _ (Act.put _ none _) _
   simp only [Act.put]
   have hO2 := own_setMid (cs := [b0, b1, b2, b3, b4, b5, b6]) hO1 (show i < n by omega) rfl
   refine tkH (i := 14) (d := 27) (v := ?_) rfl (Or.inl ⟨by rfl, ?_⟩) trivial ?_
   rotate_left
   ·intro w hSw; (try dsimp only at hSw); go_simp; try with_reducible rfl
   try simp only [Act.put, pq]
   refine wpAnyH_ready (rs := [15]) (by kernel_rfl) (by simp) ?_
   refine AllReadyH.cons rfl (fun K hK => ?_) (AllReadyH.nil)
   (try rw [if_pos (show Region.wanted _ _ = true from rfl)])
   refine wp_store_mid 27 (.tmp 27) (.tmp 25) rfl g (j * 7) #[a0, a1, a2, a3, a4, a5, a6] rfl rfl (own_there hO2 (by simp only [List.size_toArray, List.length_cons, List.length_nil]; omega)) (by kernel_rfl) (all_one_list ?hone) ?_
   case hone => intro v hv; exact HX1.out v (mem_chunk (j := i) (by rw [EA.out]; exact hv))
   refine hK.out _ _ trivial (fun _ => ?_)
   clear hK K
   change wpAnyH _ _ _ _ _ _ _ (Act.put _ none _) _
   simp only [Act.put]
   have hO3 := own_setMid (cs := [a0, a1, a2, a3, a4, a5, a6]) hO2 (show j < n by omega) rfl
   refine wpAnyH_done (by kernel_rfl) ?_ _
   have hT3 := (Turn.setCells (W.drew.setCells g (i * 7) [b0, b1, b2, b3, b4, b5, b6]) g [a0, a1, a2, a3, a4, a5, a6] (j * 7))
   have hT2 := (Turn.setCells W.drew g [b0, b1, b2, b3, b4, b5, b6] (i * 7))
   have hFI := rev_fin HT.out hT2 hT3 rfl
   have HO3 := Lib.hid hO3; have HFI := Lib.hid hFI
   have hCH := rev_step HOW.out.1 (show j < n by omega) (show i < j by omega) HZ.out HCH.out EA.out EB.out rfl rfl
   have HC2 := Lib.hid hCH
   have hX2 := rev_one HX1.out EA.out EB.out (i := i) (j := j)
   have HX2 := Lib.hid hX2
   clear hO1 hO2 hO3 hT2 hT3 hFI hCH hX2 c0 c1 c2 c3 c4 c5 c6 d0 d1 d2 d3 d4 d5 d6
   go_wp2
   have hz2 := HZ.out
   exact ⟨⟨i + 1, (j : Int) - 1, _, by omega, by omega, by omega, by first | rfl | trivial, ⟨rfl, rfl, by simp, rfl⟩, HO3.out, HX2.out, HC2.out, HFI.out⟩, by simp [intOf]; omega⟩
  -- END
 ·have h1 : ¬ (i : Int) < z := hlt
  have hfin : ∀ k, k < n → chunk ys k = chunk xs (n - 1 - k) := by
   intro k hk
   rw [HCH.out k hk]
   by_cases h3 : k < i ∨ z < (k : Int)
   ·rw [if_pos h3]
   ·rw [if_neg h3]; congr 1; omega
  have HF := Lib.hid hfin
  clear hfin hz hiz
  go_wp2
  refine bodyPost_end (results_none rfl _ _ _) rfl ?_
  exact ⟨rfl, ys, HOW.out, HF.out, HT.out⟩
end Go.Proofs.YtedhogbocifipaaGreatDoor
