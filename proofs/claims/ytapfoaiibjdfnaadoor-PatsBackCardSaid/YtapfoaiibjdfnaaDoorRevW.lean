/- slices.Clone, slices.Reverse over sounds; word.Reverse. -/
import Derived.Test.YtapfoaiibjdfnaaDoorRevP
import Derived.Test.YtapfoaiibjdfnaaDoorMa
import Derived.Test.YtapfoaiibjdfnaaDoorMd
import Derived.Test.YtapfoaiibjdfnaaDoorMb
import Derived.Lib.SliceRun
namespace Go.Proofs.YtapfoaiibjdfnaaDoor
open Go.RowKit Go.Ab
attribute [local go_sem] Oper.semAt_some wide_fn wide_depth

theorem own_over {w : World} {base : Nat} {e : TypeId} {g n cap j sz : Nat} {xs cs : List Value} (h : w.ownsRow base e sz (.slice (some ⟨g, 0, none⟩) n cap) n xs) (hj : j < n) (hc : cs.length = sz) :
    (w.setCells g (j * sz) cs).ownsRow base e sz (.slice (some ⟨g, 0, none⟩) n cap) n (overL xs (j * sz) cs) := by
  have hl := h.1
  have hle : (j + 1) * sz ≤ n * sz := Nat.mul_le_mul_right _ hj
  rw [Nat.add_mul, Nat.one_mul] at hle
  rcases h.2 with ⟨q, _⟩ | ⟨g', cap', cur, q, hb, hg, hnc, hcm, hcs, htake⟩
  · cases q
  · simp only [Value.slice.injEq, Option.some.injEq, Addr.mk.injEq] at q
    obtain ⟨⟨rfl, _, _⟩, _, rfl⟩ := q
    refine ⟨by rw [overL_length]; exact hl, .inr ⟨g, cap, _, rfl, hb, setCells_heap cs _ w cur hg, hnc, hcm, by simp [overL_length, hcs], ?_⟩⟩
    rw [show ((overL cur.toList (j * sz) cs).toArray.toList) = overL cur.toList (j * sz) cs from rfl, overL_take _ _ _ _ (by omega), htake]
theorem over_snd : ∀ (vs : Wd) (j : Nat) (s : Nat × Nat), j < vs.length → overL (sndL vs) (j * 2) [.int .u32 (s.1 : Int), .int .u32 (s.2 : Int)] = sndL (vs.set j s)
  | [], j, s, h => by simp at h
  | v :: vs, 0, s, _ => rfl
  | v :: vs, j + 1, s, h => by
    have ih := over_snd vs j s (by simpa using h)
    unfold overL overL overL at ih ⊢
    rw [sndL_cons, show (j + 1) * 2 = j * 2 + 1 + 1 by omega, List.set_cons_succ, List.set_cons_succ, List.set_cons_succ, List.set_cons_succ, ih]; rfl
theorem row_snd {w : World} {base : Nat} {e : TypeId} {g n cap i : Nat} {vs : Wd} (h : w.ownsRow base e 2 (.slice (some ⟨g, 0, none⟩) n cap) n (sndL vs)) (hi : i < vs.length) :
    w.cell? ⟨g, i * 2, none⟩ = some (.int .u32 ((vs.getD i (0, 0)).1 : Int)) ∧ w.cell? ⟨g, i * 2 + 1, none⟩ = some (.int .u32 ((vs.getD i (0, 0)).2 : Int)) := by
  obtain ⟨h1, h2⟩ := sndL_get vs i hi
  have hl := h.1
  rw [sndL_length] at hl
  exact ⟨by rw [h.cellAt _ (by omega)]; exact h1, by rw [h.cellAt _ (by omega)]; exact h2⟩
theorem one_snd (s : Nat × Nat) : ∀ v ∈ [Value.int .u32 (s.1 : Int), Value.int .u32 (s.2 : Int)], v.oneCell' = true := by
  intro v hv
  simp only [List.mem_cons, List.not_mem_nil, or_false] at hv
  rcases hv with rfl | rfl <;> rfl
theorem rev_wstep {xs ys : Wd} {n i j : Nat} (hl : ys.length = n) (hj : j < n) (hi : i < j) (hz : (j : Int) = (n : Int) - 1 - i) (hch : ∀ k, k < n → ys.getD k (0, 0) = if k < i ∨ (j : Int) < (k : Int) then xs.getD (n - 1 - k) (0, 0) else xs.getD k (0, 0)) :
    ∀ k, k < n → ((ys.set i (ys.getD j (0, 0))).set j (ys.getD i (0, 0))).getD k (0, 0) = if k < i + 1 ∨ (j : Int) - 1 < (k : Int) then xs.getD (n - 1 - k) (0, 0) else xs.getD k (0, 0) := by
  intro k hk
  by_cases h1 : k = j
  · subst h1
    rw [if_pos (by omega), List.getD_eq_getElem?_getD, List.getElem?_set_self (by simp; omega)]
    show ys.getD i (0, 0) = _
    rw [hch i (by omega), if_neg (by omega)]
    congr 1; omega
  · rw [List.getD_eq_getElem?_getD, List.getElem?_set_ne (by omega)]
    by_cases h2 : k = i
    · subst h2
      rw [if_pos (by omega), List.getElem?_set_self (by omega)]
      show ys.getD j (0, 0) = _
      rw [hch j hj, if_neg (by omega)]
      congr 1; omega
    · rw [List.getElem?_set_ne (by omega), ← List.getD_eq_getElem?_getD, hch k hk]
      by_cases h3 : k < i ∨ (j : Int) < (k : Int)
      · rw [if_pos h3, if_pos (by omega)]
      · rw [if_neg h3, if_neg (by omega)]
theorem rev_wend {xs ys : Wd} (hl : ys.length = xs.length) (h : ∀ k, k < xs.length → ys.getD k (0, 0) = xs.getD (xs.length - 1 - k) (0, 0)) : ys = xs.reverse := by
  apply List.ext_getElem (by simpa using hl)
  intro i h1 h2
  have := h i (by omega)
  rw [List.getD_eq_getElem?_getD, List.getElem?_eq_getElem h1, List.getD_eq_getElem?_getD, List.getElem?_eq_getElem (by omega)] at this
  rw [List.getElem_reverse]
  exact this

set_option maxRecDepth 100000 in
set_option maxHeartbeats 16000000 in
theorem reverse_snd {w : World} {base n cap : Nat} {ao : Option Addr} {ws : Wd} (hO : w.ownsRow base 24 2 (.slice ao n cap) n (sndL ws)) :
    Calls Tryd.prog 65 #[.slice ao n cap] w fun e w' => e = .returned (.tuple #[]) ∧ w'.ownsRow base 24 2 (.slice ao n cap) n (sndL ws.reverse) ∧ Turn (fun b => (Value.slice ao n cap).ownBlock = some b) w w' := by
  have hwn : ws.length = n := by have := hO.1; rw [sndL_length] at this; omega
  have hnm := Nat.le_trans (own_len hO).1 (own_len hO).2
  unfold maxLen at hnm
  have HO := Lib.hid hO; have HWN := Lib.hid hwn
  clear hO hwn
  go_enter Tryd.func65, Tryd.ntmps65
  go_wp2
  refine wp_loop (fun a W => ∃ (i : Nat) (z : Int) (ys : Wd), i ≤ n ∧ z = (n : Int) - 1 - i ∧ ((i : Int) ≤ z + 2) ∧ a.defers = [] ∧ (a.tmps.size = 28 ∧ a.tmps.getD 0 undef = .slice ao n cap ∧ a.tmps.getD 2 undef = .int .i64 i ∧ a.tmps.getD 3 undef = .int .i64 z) ∧ W.ownsRow base 24 2 (.slice ao n cap) n (sndL ys) ∧ ys.length = n ∧
      (∀ k, k < n → ys.getD k (0, 0) = if k < i ∨ z < (k : Int) then ws.getD (n - 1 - k) (0, 0) else ws.getD k (0, 0)) ∧ Turn (fun b => (Value.slice ao n cap).ownBlock = some b) w W)
    (fun a _ => n - (intOf (a.tmps.getD 2 undef)).toNat) ?_ ?_
  · refine ⟨0, (n : Int) - 1, ws, by omega, by omega, by omega, rfl, ⟨rfl, rfl, rfl, by go_num⟩, HO.out, HWN.out, ?_, Turn.refl _ _⟩
    intro k hk
    rw [if_neg (by omega)]
  rintro ⟨t, _⟩ W ⟨i, z, ys, hi, hz, hiz, hds, ⟨hsz, f0, f2, f3⟩, hOW, hyl, hch, hT⟩
  subst hds
  obtain ⟨u', hu⟩ := frame_fun hsz
  obtain ⟨u, rfl⟩ : ∃ x, x = u' := ⟨_, rfl⟩
  have hu' : t = #[u 0, u 1, u 2, u 3, u 4, u 5, u 6, u 7, u 8, u 9, u 10, u 11, u 12, u 13, u 14, u 15, u 16, u 17, u 18, u 19, u 20, u 21, u 22, u 23, u 24, u 25, u 26, u 27] := hu
  clear hu
  subst hu'
  change u 0 = _ at f0
  change u 2 = _ at f2
  change u 3 = _ at f3
  rw [f0, f2, f3]
  clear f0 f2 f3 hsz
  have HOW := Lib.hid hOW; have HYL := Lib.hid hyl; have HCH := Lib.hid hch; have HT := Lib.hid hT
  clear hOW hyl hch hT
  by_cases hlt : (i : Int) < z
  · obtain ⟨j, rfl⟩ : ∃ j : Nat, z = j := ⟨z.toNat, by omega⟩
    have hjn : (j : Int) < (n : Int) := by omega
    have hin : (i : Int) < (n : Int) := by omega
    have hj0 : (0 : Int) ≤ (j : Int) := by omega
    have hi0 : (0 : Int) ≤ (i : Int) := by omega
    obtain ⟨g, rfl⟩ := own_some HOW.out (by omega)
    obtain ⟨c0, c1⟩ := row_snd HOW.out (i := i) (by rw [HYL.out]; omega)
    obtain ⟨d0, d1⟩ := row_snd HOW.out (i := j) (by rw [HYL.out]; omega)
    have HZ := Lib.hid hz
    clear hz
    obtain ⟨va, hva⟩ : ∃ s, ys.getD i (0, 0) = s := ⟨_, rfl⟩
    obtain ⟨vb, hvb⟩ : ∃ s, ys.getD j (0, 0) = s := ⟨_, rfl⟩
    rw [hva] at c0 c1
    rw [hvb] at d0 d1
    have HVA := Lib.hid hva; have HVB := Lib.hid hvb
    clear hva hvb
    go_wp2
    refine wp_region_held_drew (S := fun _ => True) (by kernel_rfl) trivial ?_
    intro _
    -- WALK
    refine wpAnyH_take (i := 0) (v := ?_) rfl (by kernel_rfl) (by kernel_rfl) (by kernel_rfl) (fun _ _ _ h => h) (Or.inl ⟨by rfl, ?_⟩) (trivial) ?_
    rotate_left
    · intro w hSw; (try dsimp only at hSw); go_simp; try with_reducible rfl
    change wpAnyH _ _ _ _ _ _ _ (Act.put _ (some 14) _) _
    try simp only [Act.put, List.setIfInBounds_toArray, List.set_cons_zero, List.set_cons_succ]
    refine wpAnyH_take (i := 1) (v := ?_) rfl (by kernel_rfl) (by kernel_rfl) (by kernel_rfl) (fun _ _ _ h => h) (Or.inl ⟨by rfl, ?_⟩) (trivial) ?_
    rotate_left
    · intro w hSw; (try dsimp only at hSw); go_simp; try with_reducible rfl
    change wpAnyH _ _ _ _ _ _ _ (Act.put _ (some 15) _) _
    try simp only [Act.put, List.setIfInBounds_toArray, List.set_cons_zero, List.set_cons_succ]
    refine wpAnyH_take (i := 2) (v := ?_) rfl (by kernel_rfl) (by kernel_rfl) (by kernel_rfl) (fun _ _ _ h => h) (Or.inl ⟨by rfl, ?_⟩) (trivial) ?_
    rotate_left
    · intro w hSw; (try dsimp only at hSw); go_simp; try with_reducible rfl
    change wpAnyH _ _ _ _ _ _ _ (Act.put _ (some 16) _) _
    try simp only [Act.put, List.setIfInBounds_toArray, List.set_cons_zero, List.set_cons_succ]
    refine wpAnyH_take (i := 3) (v := ?_) rfl (by kernel_rfl) (by kernel_rfl) (by kernel_rfl) (fun _ _ _ h => h) (Or.inl ⟨by rfl, ?_⟩) (trivial) ?_
    rotate_left
    · intro w hSw; (try dsimp only at hSw); go_simp; try with_reducible rfl
    change wpAnyH _ _ _ _ _ _ _ (Act.put _ (some 17) _) _
    try simp only [Act.put, List.setIfInBounds_toArray, List.set_cons_zero, List.set_cons_succ]
    refine wpAnyH_take (i := 4) (v := ?_) rfl (by kernel_rfl) (by kernel_rfl) (by kernel_rfl) (fun _ _ _ h => h) (Or.inl ⟨by rfl, ?_⟩) (trivial) ?_
    rotate_left
    · intro w hSw; (try dsimp only at hSw); go_simp; try with_reducible rfl
    change wpAnyH _ _ _ _ _ _ _ (Act.put _ (some 18) _) _
    try simp only [Act.put, List.setIfInBounds_toArray, List.set_cons_zero, List.set_cons_succ]
    refine wpAnyH_take (i := 5) (v := ?_) rfl (by kernel_rfl) (by kernel_rfl) (by kernel_rfl) (fun _ _ _ h => h) (Or.inl ⟨by rfl, ?_⟩) (trivial) ?_
    rotate_left
    · intro w hSw; (try dsimp only at hSw); go_simp; try with_reducible rfl
    change wpAnyH _ _ _ _ _ _ _ (Act.put _ (some 19) _) _
    try simp only [Act.put, List.setIfInBounds_toArray, List.set_cons_zero, List.set_cons_succ]
    refine wpAnyH_take (i := 6) (v := ?_) rfl (by kernel_rfl) (by kernel_rfl) (by kernel_rfl) (fun _ _ _ h => h) (Or.inl ⟨by rfl, ?_⟩) (trivial) ?_
    rotate_left
    · intro w hSw; (try dsimp only at hSw); go_simp; try with_reducible rfl
    change wpAnyH _ _ _ _ _ _ _ (Act.put _ (some 20) _) _
    try simp only [Act.put, List.setIfInBounds_toArray, List.set_cons_zero, List.set_cons_succ]
    refine wpAnyH_take (i := 8) (v := ?_) rfl (by kernel_rfl) (by kernel_rfl) (by kernel_rfl) (fun _ _ _ h => h) (Or.inl ⟨by rfl, ?_⟩) (trivial) ?_
    rotate_left
    · intro w hSw; (try dsimp only at hSw); go_simp; try with_reducible rfl
    change wpAnyH _ _ _ _ _ _ _ (Act.put _ (some 22) _) _
    try simp only [Act.put, List.setIfInBounds_toArray, List.set_cons_zero, List.set_cons_succ]
    refine wpAnyH_take (i := 9) (v := ?_) rfl (by kernel_rfl) (by kernel_rfl) (by kernel_rfl) (fun _ _ _ h => h) (Or.inl ⟨by rfl, ?_⟩) (trivial) ?_
    rotate_left
    · intro w hSw; (try dsimp only at hSw); go_simp; try with_reducible rfl
    change wpAnyH _ _ _ _ _ _ _ (Act.put _ (some 23) _) _
    try simp only [Act.put, List.setIfInBounds_toArray, List.set_cons_zero, List.set_cons_succ]
    refine wpAnyH_take (i := 10) (v := ?_) rfl (by kernel_rfl) (by kernel_rfl) (by kernel_rfl) (fun _ _ _ h => h) (Or.inl ⟨by rfl, ?_⟩) (trivial) ?_
    rotate_left
    · intro w hSw; (try dsimp only at hSw); go_simp; try with_reducible rfl
    change wpAnyH _ _ _ _ _ _ _ (Act.put _ (some 24) _) _
    try simp only [Act.put, List.setIfInBounds_toArray, List.set_cons_zero, List.set_cons_succ]
    refine wpAnyH_ready (rs := [7, 11]) (by kernel_rfl) (by simp) ?_
    refine AllReadyH.cons rfl (fun K hK => ?_) (AllReadyH.cons rfl (fun K hK => ?_) (AllReadyH.nil))
    · (try rw [if_pos (show Region.wanted _ _ = true from rfl)])
      go_simp
      refine hK.out _ _ trivial (fun _ => ?_)
      clear hK K
      try simp only [Act.put, List.setIfInBounds_toArray, List.set_cons_zero, List.set_cons_succ]
      refine wpAnyH_ready (rs := [11]) (by kernel_rfl) (by simp) ?_
      refine AllReadyH.cons rfl (fun K hK => ?_) (AllReadyH.nil)
      (try rw [if_pos (show Region.wanted _ _ = true from rfl)])
      go_simp
      refine hK.out _ _ trivial (fun _ => ?_)
      clear hK K
      try simp only [Act.put, List.setIfInBounds_toArray, List.set_cons_zero, List.set_cons_succ]
      have hO1 := own_ext HOW.out ((Turn.refl (fun _ => False) W).drew)
      refine wpAnyH_take (i := 12) (v := ?_) rfl (by kernel_rfl) (by kernel_rfl) (by kernel_rfl) (fun _ _ _ h => h) (Or.inl ⟨by rfl, ?_⟩) (trivial) ?_
      rotate_left
      · intro w hSw; (try dsimp only at hSw); go_simp; try with_reducible rfl
      change wpAnyH _ _ _ _ _ _ _ (Act.put _ (some 26) _) _
      try simp only [Act.put, List.setIfInBounds_toArray, List.set_cons_zero, List.set_cons_succ]
      refine wpAnyH_ready (rs := [13]) (by kernel_rfl) (by simp) ?_
      refine AllReadyH.cons rfl (fun K hK => ?_) (AllReadyH.nil)
      (try rw [if_pos (show Region.wanted _ _ = true from rfl)])
      refine wp_store_mid 24 (.tmp 26) (.tmp 21) rfl g (i * 2) #[.int .u32 (vb.1 : Int), .int .u32 (vb.2 : Int)] rfl rfl (own_there hO1 (by simp only [List.size_toArray, List.length_cons, List.length_nil]; omega)) (by kernel_rfl) (all_one_list (one_snd _)) ?_
      refine hK.out _ _ trivial (fun _ => ?_)
      clear hK K
      change wpAnyH _ _ _ _ _ _ _ (Act.put _ none _) _
      simp only [Act.put]
      have hO2 := own_over (cs := [.int .u32 (vb.1 : Int), .int .u32 (vb.2 : Int)]) hO1 (show i < n by omega) rfl
      refine wpAnyH_take (i := 14) (v := ?_) rfl (by kernel_rfl) (by kernel_rfl) (by kernel_rfl) (fun _ _ _ h => h) (Or.inl ⟨by rfl, ?_⟩) (trivial) ?_
      rotate_left
      · intro w hSw; (try dsimp only at hSw); go_simp; try with_reducible rfl
      change wpAnyH _ _ _ _ _ _ _ (Act.put _ (some 27) _) _
      try simp only [Act.put, List.setIfInBounds_toArray, List.set_cons_zero, List.set_cons_succ]
      refine wpAnyH_ready (rs := [15]) (by kernel_rfl) (by simp) ?_
      refine AllReadyH.cons rfl (fun K hK => ?_) (AllReadyH.nil)
      (try rw [if_pos (show Region.wanted _ _ = true from rfl)])
      refine wp_store_mid 24 (.tmp 27) (.tmp 25) rfl g (j * 2) #[.int .u32 (va.1 : Int), .int .u32 (va.2 : Int)] rfl rfl (own_there hO2 (by simp only [List.size_toArray, List.length_cons, List.length_nil]; omega)) (by kernel_rfl) (all_one_list (one_snd _)) ?_
      refine hK.out _ _ trivial (fun _ => ?_)
      clear hK K
      change wpAnyH _ _ _ _ _ _ _ (Act.put _ none _) _
      simp only [Act.put]
      have hO3 := own_over (cs := [.int .u32 (va.1 : Int), .int .u32 (va.2 : Int)]) hO2 (show j < n by omega) rfl
      rw [over_snd ys i vb (by rw [HYL.out]; omega), over_snd _ j va (by rw [List.length_set, HYL.out]; omega)] at hO3
      refine wpAnyH_done (by kernel_rfl) ?_ _
      have hT3 := (Turn.setCells (W.drew.setCells g (i * 2) [.int .u32 (vb.1 : Int), .int .u32 (vb.2 : Int)]) g [.int .u32 (va.1 : Int), .int .u32 (va.2 : Int)] (j * 2))
      have hT2 := (Turn.setCells W.drew g [.int .u32 (vb.1 : Int), .int .u32 (vb.2 : Int)] (i * 2))
      have hFI := rev_fin HT.out hT2 hT3 rfl
      have HO3 := Lib.hid hO3; have HFI := Lib.hid hFI
      have hCH := rev_wstep HYL.out (show j < n by omega) (show i < j by omega) HZ.out HCH.out
      rw [HVA.out, HVB.out] at hCH
      have HC2 := Lib.hid hCH
      clear hO1 hO2 hO3 hT2 hT3 hFI hCH c0 c1 d0 d1
      go_wp2
      have hz2 := HZ.out
      exact ⟨⟨i + 1, (j : Int) - 1, _, by omega, by omega, by omega, by first | rfl | trivial, ⟨rfl, rfl, by simp, rfl⟩, HO3.out, by rw [List.length_set, List.length_set]; exact HYL.out, HC2.out, HFI.out⟩, by simp [intOf]; omega⟩
    · (try rw [if_pos (show Region.wanted _ _ = true from rfl)])
      go_simp
      refine hK.out _ _ trivial (fun _ => ?_)
      clear hK K
      try simp only [Act.put, List.setIfInBounds_toArray, List.set_cons_zero, List.set_cons_succ]
      refine wpAnyH_ready (rs := [7]) (by kernel_rfl) (by simp) ?_
      refine AllReadyH.cons rfl (fun K hK => ?_) (AllReadyH.nil)
      (try rw [if_pos (show Region.wanted _ _ = true from rfl)])
      go_simp
      refine hK.out _ _ trivial (fun _ => ?_)
      clear hK K
      try simp only [Act.put, List.setIfInBounds_toArray, List.set_cons_zero, List.set_cons_succ]
      have hO1 := own_ext HOW.out ((Turn.refl (fun _ => False) W).drew)
      refine wpAnyH_take (i := 12) (v := ?_) rfl (by kernel_rfl) (by kernel_rfl) (by kernel_rfl) (fun _ _ _ h => h) (Or.inl ⟨by rfl, ?_⟩) (trivial) ?_
      rotate_left
      · intro w hSw; (try dsimp only at hSw); go_simp; try with_reducible rfl
      change wpAnyH _ _ _ _ _ _ _ (Act.put _ (some 26) _) _
      try simp only [Act.put, List.setIfInBounds_toArray, List.set_cons_zero, List.set_cons_succ]
      refine wpAnyH_ready (rs := [13]) (by kernel_rfl) (by simp) ?_
      refine AllReadyH.cons rfl (fun K hK => ?_) (AllReadyH.nil)
      (try rw [if_pos (show Region.wanted _ _ = true from rfl)])
      refine wp_store_mid 24 (.tmp 26) (.tmp 21) rfl g (i * 2) #[.int .u32 (vb.1 : Int), .int .u32 (vb.2 : Int)] rfl rfl (own_there hO1 (by simp only [List.size_toArray, List.length_cons, List.length_nil]; omega)) (by kernel_rfl) (all_one_list (one_snd _)) ?_
      refine hK.out _ _ trivial (fun _ => ?_)
      clear hK K
      change wpAnyH _ _ _ _ _ _ _ (Act.put _ none _) _
      simp only [Act.put]
      have hO2 := own_over (cs := [.int .u32 (vb.1 : Int), .int .u32 (vb.2 : Int)]) hO1 (show i < n by omega) rfl
      refine wpAnyH_take (i := 14) (v := ?_) rfl (by kernel_rfl) (by kernel_rfl) (by kernel_rfl) (fun _ _ _ h => h) (Or.inl ⟨by rfl, ?_⟩) (trivial) ?_
      rotate_left
      · intro w hSw; (try dsimp only at hSw); go_simp; try with_reducible rfl
      change wpAnyH _ _ _ _ _ _ _ (Act.put _ (some 27) _) _
      try simp only [Act.put, List.setIfInBounds_toArray, List.set_cons_zero, List.set_cons_succ]
      refine wpAnyH_ready (rs := [15]) (by kernel_rfl) (by simp) ?_
      refine AllReadyH.cons rfl (fun K hK => ?_) (AllReadyH.nil)
      (try rw [if_pos (show Region.wanted _ _ = true from rfl)])
      refine wp_store_mid 24 (.tmp 27) (.tmp 25) rfl g (j * 2) #[.int .u32 (va.1 : Int), .int .u32 (va.2 : Int)] rfl rfl (own_there hO2 (by simp only [List.size_toArray, List.length_cons, List.length_nil]; omega)) (by kernel_rfl) (all_one_list (one_snd _)) ?_
      refine hK.out _ _ trivial (fun _ => ?_)
      clear hK K
      change wpAnyH _ _ _ _ _ _ _ (Act.put _ none _) _
      simp only [Act.put]
      have hO3 := own_over (cs := [.int .u32 (va.1 : Int), .int .u32 (va.2 : Int)]) hO2 (show j < n by omega) rfl
      rw [over_snd ys i vb (by rw [HYL.out]; omega), over_snd _ j va (by rw [List.length_set, HYL.out]; omega)] at hO3
      refine wpAnyH_done (by kernel_rfl) ?_ _
      have hT3 := (Turn.setCells (W.drew.setCells g (i * 2) [.int .u32 (vb.1 : Int), .int .u32 (vb.2 : Int)]) g [.int .u32 (va.1 : Int), .int .u32 (va.2 : Int)] (j * 2))
      have hT2 := (Turn.setCells W.drew g [.int .u32 (vb.1 : Int), .int .u32 (vb.2 : Int)] (i * 2))
      have hFI := rev_fin HT.out hT2 hT3 rfl
      have HO3 := Lib.hid hO3; have HFI := Lib.hid hFI
      have hCH := rev_wstep HYL.out (show j < n by omega) (show i < j by omega) HZ.out HCH.out
      rw [HVA.out, HVB.out] at hCH
      have HC2 := Lib.hid hCH
      clear hO1 hO2 hO3 hT2 hT3 hFI hCH c0 c1 d0 d1
      go_wp2
      have hz2 := HZ.out
      exact ⟨⟨i + 1, (j : Int) - 1, _, by omega, by omega, by omega, by first | rfl | trivial, ⟨rfl, rfl, by simp, rfl⟩, HO3.out, by rw [List.length_set, List.length_set]; exact HYL.out, HC2.out, HFI.out⟩, by simp [intOf]; omega⟩
    -- END
  · have h1 : ¬ (i : Int) < z := hlt
    have hfin : ys = ws.reverse := by
      refine rev_wend (by rw [HYL.out, HWN.out]) ?_
      intro k hk
      rw [HWN.out] at hk ⊢
      rw [HCH.out k hk]
      by_cases h3 : k < i ∨ z < (k : Int)
      · rw [if_pos h3]
      · rw [if_neg h3]; congr 1; omega
    have HF := Lib.hid hfin
    clear hfin hz hiz
    go_wp2
    refine bodyPost_end (results_none rfl _ _ _) rfl ?_
    refine ⟨rfl, ?_, HT.out⟩
    rw [← HF.out]
    exact HOW.out

theorem Tryd.infoSndR : (Tryd.prog.info? 24).map (fun i => (i.zero, i.size, i.bytes)) = some (some (.agg #[.int .u32 0, .int .u32 0]), 2, 8) := by kernel_rfl
theorem one_sndL (ws : Wd) : ∀ v ∈ sndL ws, v.oneCell' = true := by
  intro v hv
  obtain ⟨s, _, h⟩ := List.mem_flatMap.1 hv
  exact one_snd s v h

set_option maxRecDepth 100000 in
set_option maxHeartbeats 8000000 in
theorem clone_snd {w : World} {v : Value} {ws : Wd} (hv : WordAt w v ws) (hn : ws.length ≤ 1000000) :
    Calls Tryd.prog 64 #[v] w fun e w' => ∃ ao cap, e = .returned (.slice ao ws.length cap) ∧ w'.ownsRow w.heap.size 24 2 (.slice ao ws.length cap) ws.length (sndL ws) ∧ Ext w w' := by
  have hrd := hv.1
  obtain ⟨g1, g2, ao, cap, rfl, g3⟩ := hrd
  have HV := Lib.hid hv
  obtain ⟨n, hN⟩ : ∃ n, ws.length = n := ⟨_, rfl⟩
  rw [hN] at g2 g3 hn ⊢
  have HN := Lib.hid hN
  clear hv hN g1
  unfold maxLen at g2
  cases ao with
  | none =>
    have hn0 : n = 0 := by
      apply Nat.eq_zero_of_not_pos
      intro h
      obtain ⟨g, off, h1, _⟩ := g3 h
      cases h1
    subst hn0
    have hw : ws = [] := List.eq_nil_of_length_eq_zero HN.out
    subst hw
    clear g3
    have hq := fun (w : World) => Lib.run_eql_slice_nil (P := Tryd.prog) w 28 24 none 0 cap 0 0 Tryd.underlying28
    go_enter Tryd.func64, Tryd.ntmps64
    go_wp2
    go_ret
    exact ⟨none, 0, rfl, World.ownsRow_nil _ _ _ _, Turn.refl _ _⟩
  | some a =>
    clear g3
    have hq := fun (w : World) => Lib.run_eql_slice_nil (P := Tryd.prog) w 28 24 (some a) n cap 0 0 Tryd.underlying28
    go_enter Tryd.func64, Tryd.ntmps64
    have hA : Ext w (w.alloc (.cells #[] 24)) := (Turn.refl _ w).alloc _
    have hO := World.ownsRow_made (base := w.heap.size) (e := 24) (size := 2) w #[] 0 (Nat.le_refl _) (by decide) rfl
    have hrd := (HV.out.ext hA).1
    rw [HN.out] at hrd
    have HO := Lib.hid hO; have HRD := Lib.hid hrd; have HA := Lib.hid hA
    clear hO hrd hA
    go_wp2_with (at_builtin; refine append_rd rfl (.tmp 5) (.tmp 6) 28 rfl w.heap.size 24 _ 2 8 Tryd.underlying28 Tryd.infoSndR rfl (by decide) _ 0 [] rfl HO.out _ n (sndL ws) rfl HRD.out (one_sndL ws) ?c3 ?c4 ?c5 ?_)
    case c3 => unfold maxLen; omega
    case c4 => omega
    case c5 => exact HA.out.size
    intro ao' c' W3 hO3 hT3 _
    have hE3 : Ext w W3 := HA.out.after hT3 (fun b h1 e => by simp [Value.ownBlock] at e; omega)
    have HO3 := Lib.hid hO3; have HE3 := Lib.hid hE3
    clear hO3 hE3 hT3
    go_wp2
    go_ret
    refine ⟨ao', c', ?_, HO3.out, HE3.out⟩
    first | rfl | simp

/-- word.Reverse -/
def revV (ws : Wd) : Wd := if wE ws = 0 then ws.reverse else []

set_option maxRecDepth 100000 in
set_option maxHeartbeats 8000000 in
theorem reverse_word {w : World} {v : Value} {ws : Wd} (hv : WordAt w v ws) :
    Calls Tryd.prog 44 #[v] w fun e w' => ∃ u, e = .returned (.tuple #[u, .int .i64 (wE ws)]) ∧ WordAt w' u (revV ws) ∧ Ext w w' := by
  have hck := fun (V : World) (hE : Ext w V) => wcheck_any (hv.ext hE)
  have hcl := fun (V : World) (hE : Ext w V) (hn : ws.length ≤ 1000000) => clone_snd (hv.ext hE) hn
  have hlen : wE ws = 0 → ws.length ≤ 32 := fun h => by
    unfold wE at h
    by_cases hl : 32 < ws.length
    · rw [if_pos hl] at h; exact absurd h (by decide)
    · omega
  have hok := hv.2
  obtain ⟨ao, cap, rfl, hm⟩ := hv.slice
  have HCK := Lib.hid hck; have HCL := Lib.hid hcl; have HOK := Lib.hid hok
  have HR : Hid (revV ws = if wE ws = 0 then ws.reverse else []) := Lib.hid rfl
  clear hck hcl hv hok
  obtain ⟨z, hz⟩ : ∃ z, wE ws = z := ⟨_, rfl⟩
  rw [hz] at HCK HR hlen
  rw [hz]
  clear hz
  go_enter Tryd.func44, Tryd.ntmps44
  go_wp2_with fail
  refine (HCK.out _ (Turn.refl _ _)).mono ?_
  rintro e w2 ⟨rfl, hE2⟩
  by_cases hz0 : z = 0
  · subst hz0
    rw [if_pos rfl] at HR
    have hn := hlen rfl
    have HCL2 := Lib.hid (HCL.out w2 hE2 (by omega))
    clear HCK hlen HCL
    obtain ⟨n, hN⟩ : ∃ n, ws.length = n := ⟨_, rfl⟩
    rw [hN] at HCL2 hn hm ⊢
    have HN := Lib.hid hN
    clear hN
    go_wp2_with fail
    refine HCL2.out.mono ?_
    rintro e w3 ⟨bo, bcap, rfl, hO3, hE3⟩
    have hE03 := hE2.trans hE3
    clear hE3 HCL2
    have hlt : ∀ b, Value.ownBlock (.slice bo n bcap) = some b → w.heap.size ≤ b := fun b hb => Nat.le_trans hE2.size (hO3.lt b hb).1
    have HO3 := Lib.hid hO3; have HLT := Lib.hid hlt
    clear hO3 hlt hE2
    go_wp2_with fail
    refine (reverse_snd HO3.out).mono ?_
    rintro e w4 ⟨rfl, hO4, hT4⟩
    have hE04 : Ext w w4 := hE03.after hT4 (fun b h1 e => by have := HLT.out _ e; omega)
    have hW : WordAt w4 (.slice bo n bcap) ws.reverse := by
      refine ⟨?_, fun s hs => HOK.out s (List.mem_reverse.1 hs)⟩
      have := Rd.of_own hO4
      rw [List.length_reverse, HN.out]
      exact this
    have HW := Lib.hid hW
    clear hT4 hO4 hE03 hW
    go_wp2
    refine bodyPost_ret (results_two rfl _ _ _) rfl ⟨_, rfl, ?_, hE04⟩
    rw [HR.out]
    exact HW.out
  · have gz : (z == 0) = false := by rw [beq_eq_false_iff_ne]; exact hz0
    rw [if_neg hz0] at HR
    clear hlen HCL HCK
    go_wp2
    refine bodyPost_ret (results_two rfl _ _ _) rfl ⟨_, rfl, ?_, hE2⟩
    rw [HR.out]
    exact ⟨⟨rfl, by simp [maxLen], none, 0, rfl, fun h => by simp at h⟩, by simp [WdOk]⟩
end Go.Proofs.YtapfoaiibjdfnaaDoor
