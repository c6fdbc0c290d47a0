/- ablautlaw13.ChronCounts: the walk. -/
import Derived.Test.YtnnnbmkhgcpjoaaDoorBothCount
import Derived.Test.YtnnnbmkhgcpjoaaDoorApp
import Derived.Test.YtnnnbmkhgcpjoaaDoorArgs
namespace Go.Proofs.YtnnnbmkhgcpjoaaDoor
open Go.RowKit Go.Ab

set_option maxRecDepth 100000 in
set_option maxHeartbeats 8000000 in
theorem counts_law (w : World) (hT : Tab w) (n : Int) (v : Value) (l : List (Int × Int)) (hv : Rd w v l.length 2 (prs l)) (u : Value) (L : List Int) (hu : Rd w u L.length 1 (ints L)) :
    Calls Tryd.prog 3 #[.int .i64 n, v, u] w fun e w' => e = .returned (.bool true) ∧ Ext w w' := by
  have hw0 : 0 < w.heap.size := by
    have := hT 0 (by decide)
    apply Nat.lt_of_not_le; intro h
    simp [World.cell?, Array.getElem?_eq_none h] at this
  have HU := Lib.hid hu
  obtain ⟨_, hmu, au, cu, rfl, _⟩ := hu
  obtain ⟨hlr, hmr, ar, cr, rfl, hcr⟩ := hv
  unfold maxLen at hmr hmu
  have HCR := Lib.hid hcr
  have hgt := Lib.hid hw0
  have hTw := hT
  have hT := Lib.hid hTw
  clear hcr hlr hw0
  obtain ⟨N, hN⟩ : ∃ N, l.length = N := ⟨_, rfl⟩
  have HN := Lib.hid hN
  obtain ⟨M, hM⟩ : ∃ M, L.length = M := ⟨_, rfl⟩
  have HM := Lib.hid hM
  rw [hN] at hmr ⊢
  rw [hM] at hmu ⊢
  rw [hM] at HU
  clear hN hM
  go_enter Tryd.func3, Tryd.ntmps3
  rcases (show (9 < n ∧ n ≤ 16) ∨ n ≤ 9 ∨ 16 < n by omega) with ⟨o1, o2⟩ | o1 | o1
  · go_wp2_with fail
    refine (works_any w hTw).mono ?_
    rintro e w3 ⟨rfl, hE3⟩
    go_wp2
    go_ret
    exact ⟨rfl, hE3⟩
  all_goals
    have hnn : n ≤ 9 ∨ 16 < n := by omega
    have HNN := Lib.hid hnn
    clear hnn
    by_cases h60 : 60 < N
    · have q61 : (60 : Int) < (N : Int) := by omega
      go_wp2_with fail
      refine (works_any w hTw).mono ?_
      rintro e w3 ⟨rfl, hE3⟩
      go_wp2
      go_ret
      exact ⟨rfl, hE3⟩
    have q61 : ¬ (60 : Int) < (N : Int) := by omega
    by_cases h70 : 70 < M
    · have q71 : (70 : Int) < (M : Int) := by omega
      go_wp2_with fail
      refine (works_any w hTw).mono ?_
      rintro e w3 ⟨rfl, hE3⟩
      go_wp2
      go_ret
      exact ⟨rfl, hE3⟩
    have q71 : ¬ (70 : Int) < (M : Int) := by omega
    go_wp2_with fail
    refine (both_new (Nat.le_refl _) n).mono ?_
    rintro e w1 ⟨o, z, q, rfl, hq1, hE1, hH⟩
    have HH := Lib.hid hH
    clear hH
    go_wp2_with fail
    refine HH.out.mono ?_
    rintro e w2 ⟨r, rfl, hq2, hE2, hB2⟩
    have hE02 := hE1.trans hE2
    clear HH hE1 hE2
    go_wp2
    clear hq1 hq2
    refine wp_loop (fun a W => ∃ (i : Nat), i ≤ N ∧ a.defers = [] ∧ (a.tmps.size = 140 ∧ a.tmps.getD 0 undef = .int .i64 n ∧ a.tmps.getD 1 undef = .slice ar N cr ∧ a.tmps.getD 2 undef = .slice au M cu ∧ a.tmps.getD 7 undef = .pointer o ∧ a.tmps.getD 9 undef = .pointer r ∧ a.tmps.getD 11 undef = .int .i64 i) ∧ Both n W w.heap.size o r ∧ Ext w W)
      (fun a _ => N - (intOf (a.tmps.getD 11 undef)).toNat) ?_ ?_
    · exact ⟨0, by omega, rfl, ⟨rfl, rfl, rfl, rfl, rfl, rfl, rfl⟩, hB2, hE02⟩
    clear hB2 hE02
    rintro ⟨t, _⟩ W ⟨i, hi, hds, ⟨hsz, f0, f1, f2, f7, f9, f11⟩, hB, hE⟩
    subst hds
    obtain ⟨u', hu⟩ := frame_fun hsz
    obtain ⟨u, rfl⟩ : ∃ x, x = u' := ⟨_, rfl⟩
    have hu' : t = #[u 0, u 1, u 2, u 3, u 4, u 5, u 6, u 7, u 8, u 9, u 10, u 11, u 12, u 13, u 14, u 15, u 16, u 17, u 18, u 19, u 20, u 21, u 22, u 23, u 24, u 25, u 26, u 27, u 28, u 29, u 30, u 31, u 32, u 33, u 34, u 35, u 36, u 37, u 38, u 39, u 40, u 41, u 42, u 43, u 44, u 45, u 46, u 47, u 48, u 49, u 50, u 51, u 52, u 53, u 54, u 55, u 56, u 57, u 58, u 59, u 60, u 61, u 62, u 63, u 64, u 65, u 66, u 67, u 68, u 69, u 70, u 71, u 72, u 73, u 74, u 75, u 76, u 77, u 78, u 79, u 80, u 81, u 82, u 83, u 84, u 85, u 86, u 87, u 88, u 89, u 90, u 91, u 92, u 93, u 94, u 95, u 96, u 97, u 98, u 99, u 100, u 101, u 102, u 103, u 104, u 105, u 106, u 107, u 108, u 109, u 110, u 111, u 112, u 113, u 114, u 115, u 116, u 117, u 118, u 119, u 120, u 121, u 122, u 123, u 124, u 125, u 126, u 127, u 128, u 129, u 130, u 131, u 132, u 133, u 134, u 135, u 136, u 137, u 138, u 139] := hu
    clear hu
    subst hu'
    change u 0 = _ at f0
    change u 1 = _ at f1
    change u 2 = _ at f2
    change u 7 = _ at f7
    change u 9 = _ at f9
    change u 11 = _ at f11
    rw [f0, f1, f2, f7, f9, f11]
    clear f0 f1 f2 f7 f9 f11 hsz
    by_cases hiN : i < N
    · have hi3 : (i : Int) < (N : Int) := by omega
      obtain ⟨g, off, rfl, hg, hcc⟩ := HCR.out (by rw [HN.out]; omega)
      have c1 := hcc (i * 2) (by rw [HN.out]; omega)
      have c2 := hcc (i * 2 + 1) (by rw [HN.out]; omega)
      rw [prs_fst _ _ (by rw [HN.out]; exact hiN)] at c1
      rw [prs_snd _ _ (by rw [HN.out]; exact hiN), ← Nat.add_assoc] at c2
      obtain ⟨x, hx⟩ : ∃ x, (l.getD i (0, 0)).1 = x := ⟨_, rfl⟩
      obtain ⟨y, hy⟩ : ∃ y, (l.getD i (0, 0)).2 = y := ⟨_, rfl⟩
      rw [hx] at c1
      rw [hy] at c2
      have HS : Hid (∀ B, Turn (w.heap.size ≤ ·) W B → B.cell? ⟨g, off + i * 2, none⟩ = some (.int .i64 x) ∧ B.cell? ⟨g, off + i * 2 + 1, none⟩ = some (.int .i64 y)) :=
        Lib.hid fun B hB => ⟨hB.cell_some (hE.cell_some c1 id) (by dsimp only; omega), hB.cell_some (hE.cell_some c2 id) (by dsimp only; omega)⟩
      have hE0 := hE
      have hB0 := hB
      have hT0 := hT.out.keep hE0 id
      clear hx hy c1 c2 hcc hB hE
      go_wp2
      refine wp_region_held_drew (S := (fun w' => w'.cell? ⟨g, off + i * 2, none⟩ = some (.int .i64 x) ∧ w'.cell? ⟨g, off + i * 2 + 1, none⟩ = some (.int .i64 y))) (by kernel_rfl) (HS.out _ (Turn.drew (Turn.refl _ W))) ?_
      intro hS0
      refine wpAnyH_take (i := 0) (v := ?_) rfl (by kernel_rfl) (by kernel_rfl) (by kernel_rfl) (fun _ _ _ h => h) (Or.inl ⟨by rfl, ?_⟩) (hS0) ?_
      rotate_left
      · intro w hSw; (try dsimp only at hSw); go_simp; try with_reducible rfl
      change wpAnyH _ _ _ _ _ _ _ (Act.put _ (some 64) _) _
      try simp only [Act.put, List.setIfInBounds_toArray, List.set_cons_zero, List.set_cons_succ]
      refine wpAnyH_take (i := 1) (v := ?_) rfl (by kernel_rfl) (by kernel_rfl) (by kernel_rfl) (fun _ _ _ h => h) (Or.inl ⟨by rfl, ?_⟩) (hS0) ?_
      rotate_left
      · intro w hSw; (try dsimp only at hSw); go_simp; try with_reducible rfl
      change wpAnyH _ _ _ _ _ _ _ (Act.put _ (some 65) _) _
      try simp only [Act.put, List.setIfInBounds_toArray, List.set_cons_zero, List.set_cons_succ]
      refine wpAnyH_take (i := 2) (v := ?_) rfl (by kernel_rfl) (by kernel_rfl) (by kernel_rfl) (fun _ _ _ h => h) (Or.inl ⟨by rfl, ?_⟩) (hS0) ?_
      rotate_left
      · intro w hSw; (try dsimp only at hSw); go_simp; try with_reducible rfl
      change wpAnyH _ _ _ _ _ _ _ (Act.put _ (some 66) _) _
      try simp only [Act.put, List.setIfInBounds_toArray, List.set_cons_zero, List.set_cons_succ]
      refine wpAnyH_take (i := 3) (v := ?_) rfl (by kernel_rfl) (by kernel_rfl) (by kernel_rfl) (fun _ _ _ h => h) (Or.inl ⟨by rfl, ?_⟩) (hS0) ?_
      rotate_left
      · intro w hSw; (try dsimp only at hSw); go_simp; try with_reducible rfl
      change wpAnyH _ _ _ _ _ _ _ (Act.put _ (some 67) _) _
      try simp only [Act.put, List.setIfInBounds_toArray, List.set_cons_zero, List.set_cons_succ]
      refine wpAnyH_take (i := 4) (v := ?_) rfl (by kernel_rfl) (by kernel_rfl) (by kernel_rfl) (fun _ _ _ h => h) (Or.inl ⟨by rfl, ?_⟩) (hS0) ?_
      rotate_left
      · intro w hSw; (try dsimp only at hSw); go_simp; try with_reducible rfl
      change wpAnyH _ _ _ _ _ _ _ (Act.put _ (some 68) _) _
      try simp only [Act.put, List.setIfInBounds_toArray, List.set_cons_zero, List.set_cons_succ]
      refine wpAnyH_take (i := 5) (v := ?_) rfl (by kernel_rfl) (by kernel_rfl) (by kernel_rfl) (fun _ _ _ h => h) (Or.inl ⟨by rfl, ?_⟩) (hS0) ?_
      rotate_left
      · intro w hSw; (try dsimp only at hSw); go_simp; try with_reducible rfl
      change wpAnyH _ _ _ _ _ _ _ (Act.put _ (some 69) _) _
      try simp only [Act.put, List.setIfInBounds_toArray, List.set_cons_zero, List.set_cons_succ]
      refine wpAnyH_take (i := 6) (v := ?_) rfl (by kernel_rfl) (by kernel_rfl) (by kernel_rfl) (fun _ _ _ h => h) (Or.inl ⟨by rfl, ?_⟩) (hS0) ?_
      rotate_left
      · intro w hSw; (try dsimp only at hSw); go_simp; try with_reducible rfl
      change wpAnyH _ _ _ _ _ _ _ (Act.put _ (some 70) _) _
      try simp only [Act.put, List.setIfInBounds_toArray, List.set_cons_zero, List.set_cons_succ]
      refine wpAnyH_take (i := 7) (v := ?_) rfl (by kernel_rfl) (by kernel_rfl) (by kernel_rfl) (fun _ _ _ h => h) (Or.inl ⟨by rfl, ?_⟩) (hS0) ?_
      rotate_left
      · intro w hSw; (try dsimp only at hSw); go_simp; try with_reducible rfl
      change wpAnyH _ _ _ _ _ _ _ (Act.put _ (some 71) _) _
      try simp only [Act.put, List.setIfInBounds_toArray, List.set_cons_zero, List.set_cons_succ]
      refine wpAnyH_take (i := 8) (v := ?_) rfl (by kernel_rfl) (by kernel_rfl) (by kernel_rfl) (fun _ _ _ h => h) (Or.inl ⟨by rfl, ?_⟩) (hS0) ?_
      rotate_left
      · intro w hSw; (try dsimp only at hSw); go_simp; try with_reducible rfl
      change wpAnyH _ _ _ _ _ _ _ (Act.put _ (some 72) _) _
      try simp only [Act.put, List.setIfInBounds_toArray, List.set_cons_zero, List.set_cons_succ]
      refine wpAnyH_take (i := 9) (v := ?_) rfl (by kernel_rfl) (by kernel_rfl) (by kernel_rfl) (fun _ _ _ h => h) (Or.inl ⟨by rfl, ?_⟩) (hS0) ?_
      rotate_left
      · intro w hSw; (try dsimp only at hSw); go_simp; try with_reducible rfl
      change wpAnyH _ _ _ _ _ _ _ (Act.put _ (some 73) _) _
      try simp only [Act.put, List.setIfInBounds_toArray, List.set_cons_zero, List.set_cons_succ]
      refine wpAnyH_take (i := 10) (v := ?_) rfl (by kernel_rfl) (by kernel_rfl) (by kernel_rfl) (fun _ _ _ h => h) (Or.inl ⟨by rfl, ?_⟩) (hS0) ?_
      rotate_left
      · intro w hSw; (try dsimp only at hSw); go_simp; try with_reducible rfl
      change wpAnyH _ _ _ _ _ _ _ (Act.put _ (some 74) _) _
      try simp only [Act.put, List.setIfInBounds_toArray, List.set_cons_zero, List.set_cons_succ]
      refine wpAnyH_take (i := 12) (v := ?_) rfl (by kernel_rfl) (by kernel_rfl) (by kernel_rfl) (fun _ _ _ h => h) (Or.inl ⟨by rfl, ?_⟩) (hS0) ?_
      rotate_left
      · intro w hSw; (try dsimp only at hSw); go_simp; try with_reducible rfl
      change wpAnyH _ _ _ _ _ _ _ (Act.put _ (some 76) _) _
      try simp only [Act.put, List.setIfInBounds_toArray, List.set_cons_zero, List.set_cons_succ]
      refine wpAnyH_take (i := 13) (v := ?_) rfl (by kernel_rfl) (by kernel_rfl) (by kernel_rfl) (fun _ _ _ h => h) (Or.inl ⟨by rfl, ?_⟩) (hS0) ?_
      rotate_left
      · intro w hSw; (try dsimp only at hSw); go_simp; try with_reducible rfl
      change wpAnyH _ _ _ _ _ _ _ (Act.put _ (some 77) _) _
      try simp only [Act.put, List.setIfInBounds_toArray, List.set_cons_zero, List.set_cons_succ]
      refine wpAnyH_take (i := 14) (v := ?_) rfl (by kernel_rfl) (by kernel_rfl) (by kernel_rfl) (fun _ _ _ h => h) (Or.inl ⟨by rfl, ?_⟩) (hS0) ?_
      rotate_left
      · intro w hSw; (try dsimp only at hSw); go_simp; try with_reducible rfl
      change wpAnyH _ _ _ _ _ _ _ (Act.put _ (some 78) _) _
      try simp only [Act.put, List.setIfInBounds_toArray, List.set_cons_zero, List.set_cons_succ]
      refine wpAnyH_take (i := 15) (v := ?_) rfl (by kernel_rfl) (by kernel_rfl) (by kernel_rfl) (fun _ _ _ h => h) (Or.inl ⟨by rfl, ?_⟩) (hS0) ?_
      rotate_left
      · intro w hSw; (try dsimp only at hSw); go_simp; try with_reducible rfl
      change wpAnyH _ _ _ _ _ _ _ (Act.put _ (some 79) _) _
      try simp only [Act.put, List.setIfInBounds_toArray, List.set_cons_zero, List.set_cons_succ]
      refine wpAnyH_take (i := 16) (v := ?_) rfl (by kernel_rfl) (by kernel_rfl) (by kernel_rfl) (fun _ _ _ h => h) (Or.inl ⟨by rfl, ?_⟩) (hS0) ?_
      rotate_left
      · intro w hSw; (try dsimp only at hSw); go_simp; try with_reducible rfl
      change wpAnyH _ _ _ _ _ _ _ (Act.put _ (some 80) _) _
      try simp only [Act.put, List.setIfInBounds_toArray, List.set_cons_zero, List.set_cons_succ]
      refine wpAnyH_take (i := 17) (v := ?_) rfl (by kernel_rfl) (by kernel_rfl) (by kernel_rfl) (fun _ _ _ h => h) (Or.inl ⟨by rfl, ?_⟩) (hS0) ?_
      rotate_left
      · intro w hSw; (try dsimp only at hSw); go_simp; try with_reducible rfl
      change wpAnyH _ _ _ _ _ _ _ (Act.put _ (some 81) _) _
      try simp only [Act.put, List.setIfInBounds_toArray, List.set_cons_zero, List.set_cons_succ]
      refine wpAnyH_take (i := 18) (v := ?_) rfl (by kernel_rfl) (by kernel_rfl) (by kernel_rfl) (fun _ _ _ h => h) (Or.inl ⟨by rfl, ?_⟩) (hS0) ?_
      rotate_left
      · intro w hSw; (try dsimp only at hSw); go_simp; try with_reducible rfl
      change wpAnyH _ _ _ _ _ _ _ (Act.put _ (some 82) _) _
      try simp only [Act.put, List.setIfInBounds_toArray, List.set_cons_zero, List.set_cons_succ]
      refine wpAnyH_take (i := 19) (v := ?_) rfl (by kernel_rfl) (by kernel_rfl) (by kernel_rfl) (fun _ _ _ h => h) (Or.inl ⟨by rfl, ?_⟩) (hS0) ?_
      rotate_left
      · intro w hSw; (try dsimp only at hSw); go_simp; try with_reducible rfl
      change wpAnyH _ _ _ _ _ _ _ (Act.put _ (some 83) _) _
      try simp only [Act.put, List.setIfInBounds_toArray, List.set_cons_zero, List.set_cons_succ]
      refine wpAnyH_take (i := 20) (v := ?_) rfl (by kernel_rfl) (by kernel_rfl) (by kernel_rfl) (fun _ _ _ h => h) (Or.inl ⟨by rfl, ?_⟩) (hS0) ?_
      rotate_left
      · intro w hSw; (try dsimp only at hSw); go_simp; try with_reducible rfl
      change wpAnyH _ _ _ _ _ _ _ (Act.put _ (some 84) _) _
      try simp only [Act.put, List.setIfInBounds_toArray, List.set_cons_zero, List.set_cons_succ]
      refine wpAnyH_take (i := 21) (v := ?_) rfl (by kernel_rfl) (by kernel_rfl) (by kernel_rfl) (fun _ _ _ h => h) (Or.inl ⟨by rfl, ?_⟩) (hS0) ?_
      rotate_left
      · intro w hSw; (try dsimp only at hSw); go_simp; try with_reducible rfl
      change wpAnyH _ _ _ _ _ _ _ (Act.put _ (some 85) _) _
      try simp only [Act.put, List.setIfInBounds_toArray, List.set_cons_zero, List.set_cons_succ]
      refine wpAnyH_take (i := 22) (v := ?_) rfl (by kernel_rfl) (by kernel_rfl) (by kernel_rfl) (fun _ _ _ h => h) (Or.inl ⟨by rfl, ?_⟩) (hS0) ?_
      rotate_left
      · intro w hSw; (try dsimp only at hSw); go_simp; try with_reducible rfl
      change wpAnyH _ _ _ _ _ _ _ (Act.put _ (some 86) _) _
      try simp only [Act.put, List.setIfInBounds_toArray, List.set_cons_zero, List.set_cons_succ]
      refine wpAnyH_ready (rs := [11]) (by kernel_rfl) (by simp) ?_
      refine AllReadyH.cons rfl (fun K hK => ?_) AllReadyH.nil
      go_simp
      refine (both_before (hB0.ext (Turn.drew (Turn.refl _ W))) (hT0.keep (S := fun _ => False) (Turn.drew (Turn.refl _ W)) id) hgt.out x y).mono ?_
      rintro e W3 ⟨z, rfl, ht3, hH⟩
      have HH := Lib.hid hH
      clear hH
      have hk3 : Turn (w.heap.size ≤ ·) W W3 := Turn.trans (Turn.drew (Turn.refl _ W)) ht3
      refine hK.out _ _ (HS.out _ hk3) (fun hS3 => ?_)
      clear hK K hS0
      refine wpAnyH_ready (rs := [23]) (by kernel_rfl) (by simp) ?_
      refine AllReadyH.cons rfl (fun K hK => ?_) AllReadyH.nil
      go_simp
      refine (HH.out _ (Turn.refl _ _)).mono ?_
      rintro e W4 ⟨rfl, ht4, hB4⟩
      have hk4 : Turn (w.heap.size ≤ ·) W W4 := Turn.trans hk3 ht4
      refine hK.out _ _ (HS.out _ hk4) (fun hS4 => ?_)
      have hE4 : Ext w W4 := hE0.after hk4 (fun b' h1 h2 => by omega)
      clear hK K hS3 HH
      refine wpAnyH_take (i := 24) (v := ?_) rfl (by kernel_rfl) (by kernel_rfl) (by kernel_rfl) (fun _ _ _ h => h) (Or.inl ⟨by rfl, ?_⟩) (hS4) ?_
      rotate_left
      · intro w hSw; (try dsimp only at hSw); go_simp; try with_reducible rfl
      change wpAnyH _ _ _ _ _ _ _ (Act.put _ (some 88) _) _
      try simp only [Act.put, List.setIfInBounds_toArray, List.set_cons_zero, List.set_cons_succ]
      refine wpAnyH_done (by kernel_rfl) ?_ _
      go_wp2
      exact ⟨⟨i + 1, by omega, by first | rfl | trivial, ⟨rfl, rfl, rfl, rfl, rfl, rfl, rfl⟩, hB4, hE4⟩, by simp [intOf]; omega⟩
    · obtain rfl : i = N := by omega
      have hi3 : ¬ (i : Int) < (i : Int) := by omega
      have hO0 : (W.alloc (.cells #[] 3)).ownsRow w.heap.size 3 1 (.slice (some ⟨W.heap.size, 0, none⟩) 0 0) 0 [] := World.ownsRow_lit W #[] 0 hE.size (by unfold maxLen; omega) rfl
      have hE1 : Ext W (W.alloc (.cells #[] 3)) := (Turn.refl _ W).alloc _
      go_wp2_with (at_builtin; refine append_rd rfl (.tmp 89) (.tmp 90) 23 rfl w.heap.size 3 _ 1 8 Tryd.underlying23 Tryd.infoInt rfl (by decide) _ 0 [] rfl hO0 _ M (ints L) rfl (HU.out.ext (hE.trans hE1)) (fun u hu => by obtain ⟨z, _, rfl⟩ := List.mem_map.1 hu; rfl) (by unfold maxLen; omega) (by omega) (by have := hE.size; simp; omega) ?_)
      intro ao c' W2 hO2 ht2 _
      have hE2 : Ext W W2 := hE1.after ht2 (fun b' h1 h2 => by simp [Value.ownBlock] at h2; omega)
      have hEw := hE.trans hE2
      have hB2 := hB.ext hE2
      have hT2 := hT.out.keep hEw id
      obtain ⟨cc, zz, hC1, hC2⟩ := both_count hB2 HNN.out hT2
      obtain ⟨pp, yy, hA1, hA2⟩ := both_allows hB2 L
      rw [HM.out] at hA1 hA2
      have HC1 := Lib.hid hC1; have HC2 := Lib.hid hC2; have HA1 := Lib.hid hA1; have HA2 := Lib.hid hA2
      have HO2 := Lib.hid hO2
      clear hC1 hC2 hA1 hA2 hO2 hO0 hE1 hB hE hi3
      go_wp2_with fail
      refine HC1.out.mono ?_
      rintro e W3 ⟨rfl, hE3⟩
      go_wp2_with fail
      refine (HC2.out W3 hE3).mono ?_
      rintro e W4 ⟨rfl, hE4⟩
      have hE24 := hE3.trans hE4
      have hr4 := (Rd.of_own HO2.out).ext hE24
      go_wp2_with fail
      refine (HA1.out W4 _ hE24 hr4).mono ?_
      rintro e _ ⟨rfl, rfl⟩
      go_wp2_with fail
      refine (HA2.out W4 _ hE24 (HU.out.ext (hEw.trans hE24))).mono ?_
      rintro e W5 ⟨rfl, hE5⟩
      have hE25 := hE24.trans hE5
      have hr5 := (Rd.of_own HO2.out).ext hE25
      have hu5 := HU.out.ext (hEw.trans hE25)
      rw [← HM.out] at hr5 hu5 ⊢
      go_wp2_with fail
      refine (equal_any _ _ L L W5 hr5 hu5).mono ?_
      rintro e _ ⟨rfl, m5, rfl⟩
      rw [decide_eq_true rfl]
      have hE5' := (hEw.trans hE25).drewN m5
      go_wp2_with fail
      refine (works_any _ (hT.out.keep hE5' id)).mono ?_
      rintro e W6 ⟨rfl, hE6⟩
      go_wp2
      go_ret
      exact ⟨rfl, hE5'.trans hE6⟩
theorem counts_card (w : World) (hT : Tab w) (n : Int) (v : Value) (l : List (Int × Int)) (hv : Rd w v l.length 2 (prsK .i64 l)) (u : Value) (L : List Int) (hu : Rd w u L.length 1 (intsK .i64 L)) :
    Calls Tryd.prog 3 #[.int .i64 n, v, u] w fun e w' => e = .returned (.bool true) ∧ Ext w w' := counts_law w hT n v l hv u L hu
end Go.Proofs.YtnnnbmkhgcpjoaaDoor
