/- cmp.Less, slices.IsSorted, slices.Sort over at most twelve integers (printed by gensorti.py). law.Kind (printed by genlkind.py). -/
import Derived.Test.YtamkkhlabfahmaaGreatDoorGa08
import Derived.Test.YtamkkhlabfahmaaGreatDoorGa17
import Derived.Test.YtamkkhlabfahmaaGreatDoorGa12
import Derived.Test.YtamkkhlabfahmaaGreatDoorGa16
import Derived.Test.YtamkkhlabfahmaaGreatDoorGa11
set_option maxRecDepth 100000
set_option maxHeartbeats 16000000
namespace Go.Proofs.YtamkkhlabfahmaaGreatDoor
open Go.RowKit Go.Ab
attribute [local go_sem] Oper.semAt_some wide_fn wide_depth

theorem less_any (x y : Int) (w : World) : Calls Tryz.prog 104 #[.int .i64 x, .int .i64 y] w fun e w' => e = .returned (.bool (decide (x < y))) ∧ w = w' := by
 have h0 : (x != x) = false := by simp
 have h1 : (y != y) = false := by simp
 go_enter Tryz.func104, Tryz.ntmps104
 go_wp2
 go_ret
 exact ⟨rfl, rfl⟩

theorem issorted_any {w : World} {base n cap : Nat} {ao : Option Addr} {X : List Int} (hO : w.ownsRow base 3 1 (.slice ao n cap) n (intV X)) (hn : X.length = n) (h100 : n ≤ 1000) :
  Calls Tryz.prog 61 #[.slice ao n cap] w fun e w' => e = .returned (.bool (sortedB X)) ∧ Ext w w' := by
 have HO := Lib.hid hO; have HN := Lib.hid hn
 clear hO hn
 go_enter Tryz.func61, Tryz.ntmps61
 go_wp2
 refine wp_loop (fun a W => ∃ (z : Int), -1 ≤ z ∧ z < n ∧ a.defers = [] ∧ (a.tmps.size = 21 ∧ a.tmps.getD 0 undef = .slice ao n cap ∧ a.tmps.getD 3 undef = .int .i64 z) ∧ (∀ i : Nat, z ≤ (i : Int) → i + 1 < n → X.getD i 0 ≤ X.getD (i + 1) 0) ∧ Ext w W)
  (fun a _ => (intOf (a.tmps.getD 3 undef)).toNat) ?_ ?_
 ·exact ⟨(n : Int) - 1, by omega, by omega, rfl, ⟨rfl, rfl, rfl⟩, fun i h1 h2 => by omega, Turn.refl _ _⟩
 rintro ⟨t, _⟩ W ⟨z, hz1, hz2, hds, ⟨hsz, f0, f3⟩, hall, hE⟩
 subst hds
 obtain ⟨u', hu⟩ := frame_fun hsz
 obtain ⟨u, rfl⟩ : ∃ x, x = u' := ⟨_, rfl⟩
 have hu' : t = #[u 0, u 1, u 2, u 3, u 4, u 5, u 6, u 7, u 8, u 9, u 10, u 11, u 12, u 13, u 14, u 15, u 16, u 17, u 18, u 19, u 20] := hu
 clear hu
 subst hu'
 change u 0 = _ at f0
 change u 3 = _ at f3
 rw [f0, f3]
 clear f0 f3 hsz
 have HALL := Lib.hid hall
 clear hall
 by_cases hz : 0 < z
 case neg =>
  have h1 : sortedB X = true := by
   unfold sortedB
   rw [decide_eq_true_eq, HN.out]
   exact fun i hi h2 => HALL.out i (by omega) h2
  have H1 := Lib.hid h1
  clear h1
  go_wp2
  go_ret
  exact ⟨by rw [H1.out]; rfl, hE⟩
 obtain ⟨k, rfl⟩ : ∃ k : Nat, z = (k : Int) + 1 := ⟨(z - 1).toNat, by omega⟩
 obtain ⟨g, rfl⟩ := own_some HO.out (by omega)
 have c1 := HO.out.cellAt (k + 1) (by omega)
 have c0 := HO.out.cellAt k (by omega)
 rw [intV_get X (by rw [HN.out]; omega)] at c1 c0
 obtain ⟨x1, hx1⟩ : ∃ x, X.getD (k + 1) 0 = x := ⟨_, rfl⟩
 obtain ⟨x0, hx0⟩ : ∃ x, X.getD k 0 = x := ⟨_, rfl⟩
 rw [hx1] at c1
 rw [hx0] at c0
 have HX1 := Lib.hid hx1; have HX0 := Lib.hid hx0
 have hcs : ∀ (D : World), Ext w D → D.cell? ⟨g, k + 1, none⟩ = some (.int .i64 x1) ∧ D.cell? ⟨g, k, none⟩ = some (.int .i64 x0) := fun D hD => ⟨hD.cell_some c1 id, hD.cell_some c0 id⟩
 have HS := Lib.hid hcs
 clear hcs c1 c0 hx1 hx0
 go_upto_region 4 with (fail)
 have hsub : IntKind.i64.wrap (k : Int) = (k : Int) := IntWalk.i64_in _ (by omega)
 have ht1 : ((k : Int) + 1).toNat = k + 1 := by omega
 have hp1 : (0 : Int) ≤ (k : Int) + 1 := by omega
 have hp2 : (k : Int) + 1 < (n : Int) := by omega
 have hp3 : (k : Int) < (n : Int) := by omega
 refine wp_region_late (S := fun D => D.cell? ⟨g, k + 1, none⟩ = some (.int .i64 x1) ∧ D.cell? ⟨g, k, none⟩ = some (.int .i64 x0)) [] (by kernel_rfl) (HS.out _ (Turn.drew hE)) ?_
 intro hS0
 refine tkE (i := 0) (d := 11) (v := ?_) rfl (Or.inl ⟨by rfl, ?_⟩) hS0 ?_
 rotate_left
 ·intro w hSw; (try dsimp only at hSw); go_simp; try with_reducible rfl
 try simp only [Act.put, pq]
 refine tkE (i := 1) (d := 12) (v := ?_) rfl (Or.inl ⟨by rfl, ?_⟩) hS0 ?_
 rotate_left
 ·intro w hSw; (try dsimp only at hSw); go_simp; try with_reducible rfl
 try simp only [Act.put, pq]
 refine tkE (i := 2) (d := 13) (v := ?_) rfl (Or.inl ⟨by rfl, ?_⟩) hS0 ?_
 rotate_left
 ·intro w hSw; (try dsimp only at hSw); go_simp; try with_reducible rfl
 try simp only [Act.put, pq]
 refine tkE (i := 3) (d := 14) (v := ?_) rfl (Or.inl ⟨by rfl, ?_⟩) hS0 ?_
 rotate_left
 ·intro w hSw; (try dsimp only at hSw); go_simp; try with_reducible rfl
 try simp only [Act.put, pq]
 refine tkE (i := 4) (d := 15) (v := ?_) rfl (Or.inl ⟨by rfl, ?_⟩) hS0 ?_
 rotate_left
 ·intro w hSw; (try dsimp only at hSw); go_simp; try with_reducible rfl
 try simp only [Act.put, pq]
 refine tkE (i := 5) (d := 16) (v := ?_) rfl (Or.inl ⟨by rfl, ?_⟩) hS0 ?_
 rotate_left
 ·intro w hSw; (try dsimp only at hSw); go_simp; try with_reducible rfl
 try simp only [Act.put, pq]
 refine tkE (i := 6) (d := 17) (v := ?_) rfl (Or.inl ⟨by rfl, ?_⟩) hS0 ?_
 rotate_left
 ·intro w hSw; (try dsimp only at hSw); go_simp; try with_reducible rfl
 try simp only [Act.put, pq]
 refine tkE (i := 7) (d := 18) (v := ?_) rfl (Or.inl ⟨by rfl, ?_⟩) hS0 ?_
 rotate_left
 ·intro w hSw; (try dsimp only at hSw); go_simp; try with_reducible rfl
 try simp only [Act.put, pq]
 refine tkE (i := 8) (d := 19) (v := ?_) rfl (Or.inl ⟨by rfl, ?_⟩) hS0 ?_
 rotate_left
 ·intro w hSw; (try dsimp only at hSw); go_simp; try with_reducible rfl
 try simp only [Act.put, pq]
 refine wpAnyE_ready (rs := [9]) (by kernel_rfl) (by simp) ?_
 refine AllReadyE.cons rfl (fun K hK => ?_) AllReadyE.nil
 (try rw [if_pos (show Region.wanted _ _ = true from rfl)])
 go_simp
 refine (less_any _ _ _).mono ?_
 rintro e w5 ⟨rfl, rfl⟩
 refine hK.out _ _ hS0 (fun _ => ?_)
 clear hK K
 try simp only [Act.put, pq]
 refine wpAnyE_done (by kernel_rfl) ?_ _
 have hEd := hE.drew
 clear hS0 hsub ht1 hp1 hp2 hp3 HS
 by_cases hlt : x1 < x0
 ·have h1 : sortedB X = false := by
   unfold sortedB
   rw [decide_eq_false_iff_not, HN.out]
   intro hh
   have := hh k (by omega) (by omega)
   rw [HX1.out, HX0.out] at this
   omega
  have H1 := Lib.hid h1
  clear h1
  go_wp2
  go_ret
  exact ⟨by rw [H1.out]; rfl, hEd⟩
 ·have hnx : ∀ i : Nat, (k : Int) ≤ (i : Int) → i + 1 < n → X.getD i 0 ≤ X.getD (i + 1) 0 := fun i h1 h2 => by
   by_cases hik : i = k
   ·subst hik; rw [HX1.out, HX0.out]; omega
   ·exact HALL.out i (by omega) h2
  have HNX := Lib.hid hnx
  clear hnx
  go_wp2
  first
   | exact ⟨⟨(k : Int), by omega, by omega, by first | rfl | trivial, ⟨rfl, rfl, by first | rfl | simp⟩, HNX.out, hEd⟩, by simp [intOf]; omega⟩
   | exact ⟨⟨(k : Int), by omega, by omega, rfl, HNX.out⟩, by simp [intOf]; omega⟩

theorem insert_any {w : World} {base n cap : Nat} {ao : Option Addr} {X0 : List Int} (hO : w.ownsRow base 3 1 (.slice ao n cap) n (intV X0)) (hn : X0.length = n) (h100 : n ≤ 12) :
  Calls Tryz.prog 137 #[.slice ao n cap, .int .i64 0, .int .i64 n] w fun e w' => e = .returned (.tuple #[]) ∧ (∃ X : List Int, X.Perm X0 ∧ X.Pairwise (· ≤ ·) ∧ w'.ownsRow base 3 1 (.slice ao n cap) n (intV X)) ∧ Turn (fun b => (Value.slice ao n cap).ownBlock = some b) w w' := by
 have HO := Lib.hid hO; have HN := Lib.hid hn
 clear hO hn
 go_enter Tryz.func137, Tryz.ntmps137
 go_wp2
 refine wp_loop (fun a W => ∃ (i : Nat) (X : List Int), 1 ≤ i ∧ i ≤ n + 1 ∧ a.defers = [] ∧ (a.tmps.size = 49 ∧ a.tmps.getD 0 undef = .slice ao n cap ∧ a.tmps.getD 1 undef = .int .i64 0 ∧ a.tmps.getD 2 undef = .int .i64 n ∧ a.tmps.getD 6 undef = .int .i64 i) ∧ X.Perm X0 ∧ (∀ p q, p < q → q < i → q < n → X.getD p 0 ≤ X.getD q 0) ∧ W.ownsRow base 3 1 (.slice ao n cap) n (intV X) ∧ Turn (fun b => (Value.slice ao n cap).ownBlock = some b) w W)
  (fun a _ => n + 1 - (intOf (a.tmps.getD 6 undef)).toNat) ?_ ?_
 ·exact ⟨1, X0, by omega, by omega, rfl, ⟨rfl, rfl, rfl, rfl, rfl⟩, List.Perm.refl _, fun p q h1 h2 => by omega, HO.out, Turn.refl _ _⟩
 rintro ⟨t, _⟩ W ⟨i, X, hi1, hi2, hds, ⟨hsz, f0, f1, f2, f6⟩, hperm, hsor, hO, hT⟩
 subst hds
 obtain ⟨u', hu⟩ := frame_fun hsz
 obtain ⟨u, rfl⟩ : ∃ x, x = u' := ⟨_, rfl⟩
 have hu' : t = #[u 0, u 1, u 2, u 3, u 4, u 5, u 6, u 7, u 8, u 9, u 10, u 11, u 12, u 13, u 14, u 15, u 16, u 17, u 18, u 19, u 20, u 21, u 22, u 23, u 24, u 25, u 26, u 27, u 28, u 29, u 30, u 31, u 32, u 33, u 34, u 35, u 36, u 37, u 38, u 39, u 40, u 41, u 42, u 43, u 44, u 45, u 46, u 47, u 48] := hu
 clear hu
 subst hu'
 change u 0 = _ at f0
 change u 1 = _ at f1
 change u 2 = _ at f2
 change u 6 = _ at f6
 rw [f0, f1, f2, f6]
 clear f0 f1 f2 f6 hsz
 have HP := Lib.hid hperm; have HSO := Lib.hid hsor; have HOW := Lib.hid hO; have HT := Lib.hid hT
 clear hperm hsor hO hT
 by_cases hin : i < n
 case neg =>
  have h1 : ¬ ((i : Int) < (n : Int)) := by omega
  have hs := pairs_sorted (L := X) (fun p q h1 h2 => HSO.out p q h1 (by have := HP.out.length_eq; have := HN.out; omega) (by have := HP.out.length_eq; have := HN.out; omega))
  have HS := Lib.hid hs
  clear hs
  go_wp2
  exact bodyPost_end (results_none rfl _ _ _) rfl ⟨rfl, ⟨X, HP.out, HS.out, HOW.out⟩, HT.out⟩
 have h1 : (i : Int) < (n : Int) := by omega
 have hlen : X0.length = n := HN.out
 have HLEN := Lib.hid hlen
 clear hlen
 have hst : InsAt X i i := InsAt.start (fun p q h1 h2 => HSO.out p q h1 h2 (by omega))
 have HST := Lib.hid hst
 clear hst HSO
 go_wp2
 refine wp_loop (fun a W => ∃ (j : Nat) (X : List Int), j ≤ i ∧ a.defers = [] ∧ (a.tmps.size = 49 ∧ a.tmps.getD 0 undef = .slice ao n cap ∧ a.tmps.getD 1 undef = .int .i64 0 ∧ a.tmps.getD 2 undef = .int .i64 n ∧ a.tmps.getD 6 undef = .int .i64 i ∧ a.tmps.getD 7 undef = .int .i64 j) ∧ X.Perm X0 ∧ InsAt X i j ∧ W.ownsRow base 3 1 (.slice ao n cap) n (intV X) ∧ Turn (fun b => (Value.slice ao n cap).ownBlock = some b) w W)
  (fun a _ => (intOf (a.tmps.getD 7 undef)).toNat) ?_ ?_
 ·exact ⟨i, X, by omega, rfl, ⟨rfl, rfl, rfl, rfl, rfl, rfl⟩, HP.out, HST.out, HOW.out, HT.out⟩
 clear HP HST HOW HT X
 rintro ⟨t, _⟩ W ⟨j, X, hj, hds, ⟨hsz, f0, f1, f2, f6, f7⟩, hperm, hat, hO, hT⟩
 subst hds
 obtain ⟨u', hu⟩ := frame_fun hsz
 obtain ⟨u, rfl⟩ : ∃ x, x = u' := ⟨_, rfl⟩
 have hu' : t = #[u 0, u 1, u 2, u 3, u 4, u 5, u 6, u 7, u 8, u 9, u 10, u 11, u 12, u 13, u 14, u 15, u 16, u 17, u 18, u 19, u 20, u 21, u 22, u 23, u 24, u 25, u 26, u 27, u 28, u 29, u 30, u 31, u 32, u 33, u 34, u 35, u 36, u 37, u 38, u 39, u 40, u 41, u 42, u 43, u 44, u 45, u 46, u 47, u 48] := hu
 clear hu
 subst hu'
 change u 0 = _ at f0
 change u 1 = _ at f1
 change u 2 = _ at f2
 change u 6 = _ at f6
 change u 7 = _ at f7
 rw [f0, f1, f2, f6, f7]
 clear f0 f1 f2 f6 f7 hsz
 have HP := Lib.hid hperm; have HAT := Lib.hid hat; have HOW := Lib.hid hO; have HT := Lib.hid hT
 have hXn : X.length = n := by rw [hperm.length_eq]; exact HN.out
 have HXN := Lib.hid hXn
 clear hperm hat hO hT hXn
 by_cases hj0 : j = 0
 ·subst hj0
  have hfin := HAT.out.stop (by omega) (.inl rfl)
  have HF := Lib.hid hfin
  clear hfin
  go_upto_region 4 with (fail)
  refine wp_region_late (S := fun _ => True) [] (by kernel_rfl) trivial ?_
  intro hS0
  refine tkE (i := 0) (d := 16) (v := ?_) rfl (Or.inl ⟨by rfl, ?_⟩) trivial ?_
  rotate_left
  ·intro w hSw; (try dsimp only at hSw); go_simp; try with_reducible rfl
  try simp only [Act.put, pq]
  refine tkE (i := 1) (d := 17) (v := ?_) rfl (Or.inl ⟨by rfl, ?_⟩) trivial ?_
  rotate_left
  ·intro w hSw; (try dsimp only at hSw); go_simp; try with_reducible rfl
  try simp only [Act.put, pq]
  refine tkE (i := 2) (d := 18) (v := ?_) rfl (Or.inl ⟨by rfl, ?_⟩) trivial ?_
  rotate_left
  ·intro w hSw; (try dsimp only at hSw); go_simp; try with_reducible rfl
  try simp only [Act.put, pq]
  refine tkE (i := 3) (d := 19) (v := ?_) rfl (Or.inl ⟨by rfl, ?_⟩) trivial ?_
  rotate_left
  ·intro w hSw; (try dsimp only at hSw); go_simp; try with_reducible rfl
  try simp only [Act.put, pq]
  refine tkE (i := 4) (d := 20) (v := undef) rfl (Or.inr ⟨by rfl, rfl⟩) trivial ?_
  try simp only [Act.put, pq]
  refine tkE (i := 5) (d := 21) (v := undef) rfl (Or.inr ⟨by rfl, rfl⟩) trivial ?_
  try simp only [Act.put, pq]
  refine tkE (i := 6) (d := 22) (v := undef) rfl (Or.inr ⟨by rfl, rfl⟩) trivial ?_
  try simp only [Act.put, pq]
  refine tkE (i := 7) (d := 23) (v := undef) rfl (Or.inr ⟨by rfl, rfl⟩) trivial ?_
  try simp only [Act.put, pq]
  refine tkE (i := 8) (d := 24) (v := undef) rfl (Or.inr ⟨by rfl, rfl⟩) trivial ?_
  try simp only [Act.put, pq]
  refine tkE (i := 9) (d := 25) (v := undef) rfl (Or.inr ⟨by rfl, rfl⟩) trivial ?_
  try simp only [Act.put, pq]
  refine tkE (i := 10) (d := 26) (v := undef) rfl (Or.inr ⟨by rfl, rfl⟩) trivial ?_
  try simp only [Act.put, pq]
  refine tkE (i := 11) (d := 27) (v := undef) rfl (Or.inr ⟨by rfl, rfl⟩) trivial ?_
  try simp only [Act.put, pq]
  refine tkE (i := 12) (d := 28) (v := undef) rfl (Or.inr ⟨by rfl, rfl⟩) trivial ?_
  try simp only [Act.put, pq]
  refine tkE (i := 13) (d := 29) (v := undef) rfl (Or.inr ⟨by rfl, rfl⟩) trivial ?_
  try simp only [Act.put, pq]
  refine tkE (i := 14) (d := 30) (v := ?_) rfl (Or.inl ⟨by rfl, ?_⟩) trivial ?_
  rotate_left
  ·intro w hSw; (try dsimp only at hSw); go_simp; try with_reducible rfl
  try simp only [Act.put, pq]
  refine wpAnyE_done (by kernel_rfl) ?_ _
  have HTd := Lib.hid (HT.out.drew); have HOd := Lib.hid (own_ext HOW.out (Turn.drew (Turn.refl _ W)))
  clear HT HOW
  go_wp2
  exact ⟨⟨i + 1, X, by omega, by omega, by first | rfl | trivial, ⟨rfl, rfl, rfl, rfl, by first | rfl | simp⟩, HP.out, fun p q h1 h2 h3 => HF.out p q h1 (by omega), HOd.out, HTd.out⟩, by simp [intOf]; omega⟩
 obtain ⟨k, rfl⟩ : ∃ k, j = k + 1 := ⟨j - 1, by omega⟩
 obtain ⟨g, rfl⟩ := own_some HOW.out (by omega)
 have c1 := HOW.out.cellAt (k + 1) (by omega)
 have c0 := HOW.out.cellAt k (by omega)
 rw [intV_get X (by rw [HXN.out]; omega)] at c1 c0
 obtain ⟨x1, hx1⟩ : ∃ x, X.getD (k + 1) 0 = x := ⟨_, rfl⟩
 obtain ⟨x0, hx0⟩ : ∃ x, X.getD k 0 = x := ⟨_, rfl⟩
 rw [hx1] at c1
 rw [hx0] at c0
 have HX1 := Lib.hid hx1; have HX0 := Lib.hid hx0
 have hcs : ∀ (D : World), Ext W D → D.cell? ⟨g, k + 1, none⟩ = some (.int .i64 x1) ∧ D.cell? ⟨g, k, none⟩ = some (.int .i64 x0) := fun D hD => ⟨hD.cell_some c1 id, hD.cell_some c0 id⟩
 have HS := Lib.hid hcs
 clear hcs c1 c0 hx1 hx0
 have hsub : IntKind.i64.wrap (k : Int) = (k : Int) := IntWalk.i64_in _ (by omega)
 have ht1 : ((k : Int) + 1).toNat = k + 1 := by omega
 have hp0 : (0 : Int) < (k : Int) + 1 := by omega
 have hp1 : (0 : Int) ≤ (k : Int) + 1 := by omega
 have hp2 : (k : Int) + 1 < (n : Int) := by omega
 have hp3 : (k : Int) < (n : Int) := by omega
 go_upto_region 4 with (fail)
 refine wp_region_late (S := fun D => D.cell? ⟨g, k + 1, none⟩ = some (.int .i64 x1) ∧ D.cell? ⟨g, k, none⟩ = some (.int .i64 x0)) [] (by kernel_rfl) (HS.out _ (Turn.drew (Turn.refl _ W))) ?_
 intro hS0
 refine tkE (i := 0) (d := 16) (v := ?_) rfl (Or.inl ⟨by rfl, ?_⟩) hS0 ?_
 rotate_left
 ·intro w hSw; (try dsimp only at hSw); go_simp; try with_reducible rfl
 try simp only [Act.put, pq]
 refine tkE (i := 1) (d := 17) (v := ?_) rfl (Or.inl ⟨by rfl, ?_⟩) hS0 ?_
 rotate_left
 ·intro w hSw; (try dsimp only at hSw); go_simp; try with_reducible rfl
 try simp only [Act.put, pq]
 refine tkE (i := 2) (d := 18) (v := ?_) rfl (Or.inl ⟨by rfl, ?_⟩) hS0 ?_
 rotate_left
 ·intro w hSw; (try dsimp only at hSw); go_simp; try with_reducible rfl
 try simp only [Act.put, pq]
 refine tkE (i := 3) (d := 19) (v := ?_) rfl (Or.inl ⟨by rfl, ?_⟩) hS0 ?_
 rotate_left
 ·intro w hSw; (try dsimp only at hSw); go_simp; try with_reducible rfl
 try simp only [Act.put, pq]
 refine tkE (i := 4) (d := 20) (v := ?_) rfl (Or.inl ⟨by rfl, ?_⟩) hS0 ?_
 rotate_left
 ·intro w hSw; (try dsimp only at hSw); go_simp; try with_reducible rfl
 try simp only [Act.put, pq]
 refine tkE (i := 5) (d := 21) (v := ?_) rfl (Or.inl ⟨by rfl, ?_⟩) hS0 ?_
 rotate_left
 ·intro w hSw; (try dsimp only at hSw); go_simp; try with_reducible rfl
 try simp only [Act.put, pq]
 refine tkE (i := 6) (d := 22) (v := ?_) rfl (Or.inl ⟨by rfl, ?_⟩) hS0 ?_
 rotate_left
 ·intro w hSw; (try dsimp only at hSw); go_simp; try with_reducible rfl
 try simp only [Act.put, pq]
 refine tkE (i := 7) (d := 23) (v := ?_) rfl (Or.inl ⟨by rfl, ?_⟩) hS0 ?_
 rotate_left
 ·intro w hSw; (try dsimp only at hSw); go_simp; try with_reducible rfl
 try simp only [Act.put, pq]
 refine tkE (i := 8) (d := 24) (v := ?_) rfl (Or.inl ⟨by rfl, ?_⟩) hS0 ?_
 rotate_left
 ·intro w hSw; (try dsimp only at hSw); go_simp; try with_reducible rfl
 try simp only [Act.put, pq]
 refine tkE (i := 9) (d := 25) (v := ?_) rfl (Or.inl ⟨by rfl, ?_⟩) hS0 ?_
 rotate_left
 ·intro w hSw; (try dsimp only at hSw); go_simp; try with_reducible rfl
 try simp only [Act.put, pq]
 refine tkE (i := 10) (d := 26) (v := ?_) rfl (Or.inl ⟨by rfl, ?_⟩) hS0 ?_
 rotate_left
 ·intro w hSw; (try dsimp only at hSw); go_simp; try with_reducible rfl
 try simp only [Act.put, pq]
 refine tkE (i := 11) (d := 27) (v := ?_) rfl (Or.inl ⟨by rfl, ?_⟩) hS0 ?_
 rotate_left
 ·intro w hSw; (try dsimp only at hSw); go_simp; try with_reducible rfl
 try simp only [Act.put, pq]
 refine tkE (i := 12) (d := 28) (v := ?_) rfl (Or.inl ⟨by rfl, ?_⟩) hS0 ?_
 rotate_left
 ·intro w hSw; (try dsimp only at hSw); go_simp; try with_reducible rfl
 try simp only [Act.put, pq]
 refine wpAnyE_ready (rs := [13]) (by kernel_rfl) (by simp) ?_
 refine AllReadyE.cons rfl (fun K hK => ?_) AllReadyE.nil
 (try rw [if_pos (show Region.wanted _ _ = true from rfl)])
 go_simp
 refine (less_any _ _ _).mono ?_
 rintro e w5 ⟨rfl, rfl⟩
 refine hK.out _ _ hS0 (fun _ => ?_)
 clear hK K
 try simp only [Act.put, pq]
 refine tkE (i := 14) (d := 30) (v := ?_) rfl (Or.inl ⟨by rfl, ?_⟩) hS0 ?_
 rotate_left
 ·intro w hSw; (try dsimp only at hSw); go_simp; try with_reducible rfl
 try simp only [Act.put, pq]
 refine wpAnyE_done (by kernel_rfl) ?_ _
 have eD : Ext W W.drew := Turn.drew (Turn.refl _ W)
 have HOD := Lib.hid (own_ext HOW.out eD); have HTD := Lib.hid (HT.out.drew)
 by_cases hlt : x1 < x0
 case neg =>
  have hfin := HAT.out.stop hj (.inr ⟨k, rfl, by rw [HX1.out, HX0.out]; exact hlt⟩)
  have HF := Lib.hid hfin
  clear hfin hS0 hsub ht1 hp0 hp1 hp2 hp3 HS HOW HT
  go_wp2
  first
   | exact ⟨⟨i + 1, X, by omega, by omega, by first | rfl | trivial, ⟨rfl, rfl, rfl, rfl, by first | rfl | simp⟩, HP.out, fun p q h1 h2 h3 => HF.out p q h1 (by omega), HOD.out, HTD.out⟩, by simp [intOf]; omega⟩
   | exact ⟨⟨i + 1, by omega, by omega, by simp, X, HP.out, fun p q h1 h2 h3 => HF.out p q h1 (by omega), HOD.out, HTD.out⟩, by simp [intOf]; omega⟩
 have hsw := HAT.out.swap hj (by rw [HXN.out]; exact hin) (by rw [HX1.out, HX0.out]; exact hlt)
 have hpm := (swapL_perm X (j := k) (by rw [HXN.out]; omega)).trans HP.out
 have HSW := Lib.hid hsw; have HPM := Lib.hid hpm
 clear hsw hpm
 go_upto_region 6 with (fail)
 obtain ⟨W6, hW6⟩ : ∃ D, W.drew.drew = D := ⟨_, rfl⟩
 have e6 : Ext W W6 := by rw [← hW6]; exact eD.drew
 have HO6 := Lib.hid (own_ext HOW.out e6)
 obtain ⟨cx1, cx0⟩ := HS.out _ e6
 refine wp_region_late (S := fun _ => True) [] (by kernel_rfl) trivial ?_
 intro hS0
 rw [hW6]
 clear hW6
 refine tkE (i := 0) (d := 33) (v := ?_) rfl (Or.inl ⟨by rfl, ?_⟩) trivial ?_
 rotate_left
 ·intro w hSw; (try dsimp only at hSw); go_simp; try with_reducible rfl
 try simp only [Act.put, pq]
 refine tkE (i := 1) (d := 34) (v := ?_) rfl (Or.inl ⟨by rfl, ?_⟩) trivial ?_
 rotate_left
 ·intro w hSw; (try dsimp only at hSw); go_simp; try with_reducible rfl
 try simp only [Act.put, pq]
 refine tkE (i := 2) (d := 35) (v := ?_) rfl (Or.inl ⟨by rfl, ?_⟩) trivial ?_
 rotate_left
 ·intro w hSw; (try dsimp only at hSw); go_simp; try with_reducible rfl
 try simp only [Act.put, pq]
 refine tkE (i := 3) (d := 36) (v := ?_) rfl (Or.inl ⟨by rfl, ?_⟩) trivial ?_
 rotate_left
 ·intro w hSw; (try dsimp only at hSw); go_simp; try with_reducible rfl
 try simp only [Act.put, pq]
 refine tkE (i := 4) (d := 37) (v := ?_) rfl (Or.inl ⟨by rfl, ?_⟩) trivial ?_
 rotate_left
 ·intro w hSw; (try dsimp only at hSw); go_simp; try with_reducible rfl
 try simp only [Act.put, pq]
 refine tkE (i := 5) (d := 38) (v := ?_) rfl (Or.inl ⟨by rfl, ?_⟩) trivial ?_
 rotate_left
 ·intro w hSw; (try dsimp only at hSw); go_simp; try with_reducible rfl
 try simp only [Act.put, pq]
 refine tkE (i := 6) (d := 39) (v := ?_) rfl (Or.inl ⟨by rfl, ?_⟩) trivial ?_
 rotate_left
 ·intro w hSw; (try dsimp only at hSw); go_simp; try with_reducible rfl
 try simp only [Act.put, pq]
 refine tkE (i := 7) (d := 40) (v := ?_) rfl (Or.inl ⟨by rfl, ?_⟩) trivial ?_
 rotate_left
 ·intro w hSw; (try dsimp only at hSw); go_simp; try with_reducible rfl
 try simp only [Act.put, pq]
 refine tkE (i := 8) (d := 41) (v := ?_) rfl (Or.inl ⟨by rfl, ?_⟩) trivial ?_
 rotate_left
 ·intro w hSw; (try dsimp only at hSw); go_simp; try with_reducible rfl
 try simp only [Act.put, pq]
 refine tkE (i := 10) (d := 43) (v := ?_) rfl (Or.inl ⟨by rfl, ?_⟩) trivial ?_
 rotate_left
 ·intro w hSw; (try dsimp only at hSw); go_simp; try with_reducible rfl
 try simp only [Act.put, pq]
 refine tkE (i := 11) (d := 44) (v := ?_) rfl (Or.inl ⟨by rfl, ?_⟩) trivial ?_
 rotate_left
 ·intro w hSw; (try dsimp only at hSw); go_simp; try with_reducible rfl
 try simp only [Act.put, pq]
 refine tkE (i := 12) (d := 45) (v := ?_) rfl (Or.inl ⟨by rfl, ?_⟩) trivial ?_
 rotate_left
 ·intro w hSw; (try dsimp only at hSw); go_simp; try with_reducible rfl
 try simp only [Act.put, pq]
 refine wpAnyE_ready (rs := [9, 13]) (by kernel_rfl) (by simp) ?_
 refine AllReadyE.cons rfl (fun K hK => ?_) (AllReadyE.cons rfl (fun K hK => ?_) AllReadyE.nil)
 ·(try rw [if_pos (show Region.wanted _ _ = true from rfl)])
  go_simp
  refine hK.out _ _ trivial (fun _ => ?_)
  clear hK K
  try simp only [Act.put, pq]
  refine wpAnyE_ready (rs := [13]) (by kernel_rfl) (by simp) ?_
  refine AllReadyE.cons rfl (fun K hK => ?_) AllReadyE.nil
  (try rw [if_pos (show Region.wanted _ _ = true from rfl)])
  go_simp
  refine hK.out _ _ trivial (fun _ => ?_)
  clear hK K
  try simp only [Act.put, pq]
  refine tkE (i := 14) (d := 47) (v := ?_) rfl (Or.inl ⟨by rfl, ?_⟩) trivial ?_
  rotate_left
  ·intro w hSw; (try dsimp only at hSw); go_simp; try with_reducible rfl
  try simp only [Act.put, pq]
  refine wpAnyE_ready (rs := [15]) (by kernel_rfl) (by simp) ?_
  refine AllReadyE.cons rfl (fun K hK => ?_) AllReadyE.nil
  (try rw [if_pos (show Region.wanted _ _ = true from rfl)])
  have cZ := HO6.out.cellAt (k + 1) (by omega)
  rw [intV_get X (by rw [HXN.out]; omega), HX1.out] at cZ
  have fZ := HO6.out.frozenAt (k + 1)
  go_simp
  refine hK.out _ _ trivial (fun _ => ?_)
  clear hK K cZ fZ
  (try change wpAnyE _ _ _ _ _ _ _ _ (Act.put _ none _) _)
  (try simp only [Act.put])
  have hO7 := own_store HO6.out (k + 1) (.int .i64 x0)
  have t7 : Turn (fun b => b = g) W6 (W6.setCell ⟨g, k + 1, none⟩ (.int .i64 x0)) := Turn.set1 W6 g (k + 1) _
  obtain ⟨W7, hW7⟩ : ∃ D, W6.setCell ⟨g, k + 1, none⟩ (.int .i64 x0) = D := ⟨_, rfl⟩
  rw [hW7] at hO7 t7 ⊢
  clear hW7
  refine tkE (i := 16) (d := 48) (v := ?_) rfl (Or.inl ⟨by rfl, ?_⟩) trivial ?_
  rotate_left
  ·intro w hSw; (try dsimp only at hSw); go_simp; try with_reducible rfl
  try simp only [Act.put, pq]
  refine wpAnyE_ready (rs := [17]) (by kernel_rfl) (by simp) ?_
  refine AllReadyE.cons rfl (fun K hK => ?_) AllReadyE.nil
  (try rw [if_pos (show Region.wanted _ _ = true from rfl)])
  have cZ := hO7.cellAt k (by omega)
  rw [List.getElem?_set_ne (by omega), intV_get X (by rw [HXN.out]; omega), HX0.out] at cZ
  have fZ := hO7.frozenAt k
  go_simp
  refine hK.out _ _ trivial (fun _ => ?_)
  clear hK K cZ fZ
  (try change wpAnyE _ _ _ _ _ _ _ _ (Act.put _ none _) _)
  (try simp only [Act.put])
  have hO8 := own_store hO7 k (.int .i64 x1)
  have t8 : Turn (fun b => b = g) W7 (W7.setCell ⟨g, k, none⟩ (.int .i64 x1)) := Turn.set1 W7 g k _
  obtain ⟨W8, hW8⟩ : ∃ D, W7.setCell ⟨g, k, none⟩ (.int .i64 x1) = D := ⟨_, rfl⟩
  rw [hW8] at hO8 t8 ⊢
  clear hW8
  refine wpAnyE_done (by kernel_rfl) ?_ _
  have hrow : W8.ownsRow base 3 1 (.slice (some ⟨g, 0, none⟩) n cap) n (intV (swapL X k)) := by
   rw [intV_set, intV_set] at hO8
   unfold swapL
   rw [HX1.out, HX0.out]
   exact hO8
  have hT8 : Turn (fun b => (Value.slice (some ⟨g, 0, none⟩) n cap).ownBlock = some b) w W8 := HT.out.trans ((Ext.of e6).trans ((t7.trans t8).mono fun b _ e => by subst e; rfl))
  have HROW := Lib.hid hrow; have HT8 := Lib.hid hT8
  clear hrow hT8 hO8 hO7 t7 t8 ht1 hp0 hp1 hp2 hp3 HS HOW HT HOD HTD HO6 e6 eD
  go_wp2
  exact ⟨⟨k, swapL X k, by omega, by first | rfl | trivial, ⟨rfl, rfl, rfl, rfl, rfl, by first | rfl | simp⟩, HPM.out, HSW.out, HROW.out, HT8.out⟩, by first | (simp [intOf]; done) | (simp [intOf]; omega)⟩
 ·(try rw [if_pos (show Region.wanted _ _ = true from rfl)])
  go_simp
  refine hK.out _ _ trivial (fun _ => ?_)
  clear hK K
  try simp only [Act.put, pq]
  refine wpAnyE_ready (rs := [9]) (by kernel_rfl) (by simp) ?_
  refine AllReadyE.cons rfl (fun K hK => ?_) AllReadyE.nil
  (try rw [if_pos (show Region.wanted _ _ = true from rfl)])
  go_simp
  refine hK.out _ _ trivial (fun _ => ?_)
  clear hK K
  try simp only [Act.put, pq]
  refine tkE (i := 14) (d := 47) (v := ?_) rfl (Or.inl ⟨by rfl, ?_⟩) trivial ?_
  rotate_left
  ·intro w hSw; (try dsimp only at hSw); go_simp; try with_reducible rfl
  try simp only [Act.put, pq]
  refine wpAnyE_ready (rs := [15]) (by kernel_rfl) (by simp) ?_
  refine AllReadyE.cons rfl (fun K hK => ?_) AllReadyE.nil
  (try rw [if_pos (show Region.wanted _ _ = true from rfl)])
  have cZ := HO6.out.cellAt (k + 1) (by omega)
  rw [intV_get X (by rw [HXN.out]; omega), HX1.out] at cZ
  have fZ := HO6.out.frozenAt (k + 1)
  go_simp
  refine hK.out _ _ trivial (fun _ => ?_)
  clear hK K cZ fZ
  (try change wpAnyE _ _ _ _ _ _ _ _ (Act.put _ none _) _)
  (try simp only [Act.put])
  have hO7 := own_store HO6.out (k + 1) (.int .i64 x0)
  have t7 : Turn (fun b => b = g) W6 (W6.setCell ⟨g, k + 1, none⟩ (.int .i64 x0)) := Turn.set1 W6 g (k + 1) _
  obtain ⟨W7, hW7⟩ : ∃ D, W6.setCell ⟨g, k + 1, none⟩ (.int .i64 x0) = D := ⟨_, rfl⟩
  rw [hW7] at hO7 t7 ⊢
  clear hW7
  refine tkE (i := 16) (d := 48) (v := ?_) rfl (Or.inl ⟨by rfl, ?_⟩) trivial ?_
  rotate_left
  ·intro w hSw; (try dsimp only at hSw); go_simp; try with_reducible rfl
  try simp only [Act.put, pq]
  refine wpAnyE_ready (rs := [17]) (by kernel_rfl) (by simp) ?_
  refine AllReadyE.cons rfl (fun K hK => ?_) AllReadyE.nil
  (try rw [if_pos (show Region.wanted _ _ = true from rfl)])
  have cZ := hO7.cellAt k (by omega)
  rw [List.getElem?_set_ne (by omega), intV_get X (by rw [HXN.out]; omega), HX0.out] at cZ
  have fZ := hO7.frozenAt k
  go_simp
  refine hK.out _ _ trivial (fun _ => ?_)
  clear hK K cZ fZ
  (try change wpAnyE _ _ _ _ _ _ _ _ (Act.put _ none _) _)
  (try simp only [Act.put])
  have hO8 := own_store hO7 k (.int .i64 x1)
  have t8 : Turn (fun b => b = g) W7 (W7.setCell ⟨g, k, none⟩ (.int .i64 x1)) := Turn.set1 W7 g k _
  obtain ⟨W8, hW8⟩ : ∃ D, W7.setCell ⟨g, k, none⟩ (.int .i64 x1) = D := ⟨_, rfl⟩
  rw [hW8] at hO8 t8 ⊢
  clear hW8
  refine wpAnyE_done (by kernel_rfl) ?_ _
  have hrow : W8.ownsRow base 3 1 (.slice (some ⟨g, 0, none⟩) n cap) n (intV (swapL X k)) := by
   rw [intV_set, intV_set] at hO8
   unfold swapL
   rw [HX1.out, HX0.out]
   exact hO8
  have hT8 : Turn (fun b => (Value.slice (some ⟨g, 0, none⟩) n cap).ownBlock = some b) w W8 := HT.out.trans ((Ext.of e6).trans ((t7.trans t8).mono fun b _ e => by subst e; rfl))
  have HROW := Lib.hid hrow; have HT8 := Lib.hid hT8
  clear hrow hT8 hO8 hO7 t7 t8 ht1 hp0 hp1 hp2 hp3 HS HOW HT HOD HTD HO6 e6 eD
  go_wp2
  exact ⟨⟨k, swapL X k, by omega, by first | rfl | trivial, ⟨rfl, rfl, rfl, rfl, rfl, by first | rfl | simp⟩, HPM.out, HSW.out, HROW.out, HT8.out⟩, by first | (simp [intOf]; done) | (simp [intOf]; omega)⟩

theorem pdq_any {w : World} {base n cap : Nat} {ao : Option Addr} {X0 : List Int} (z : Int) (hO : w.ownsRow base 3 1 (.slice ao n cap) n (intV X0)) (hn : X0.length = n) (h100 : n ≤ 12) :
  Calls Tryz.prog 105 #[.slice ao n cap, .int .i64 0, .int .i64 n, .int .i64 z] w fun e w' => e = .returned (.tuple #[]) ∧ (∃ X : List Int, X.Perm X0 ∧ X.Pairwise (· ≤ ·) ∧ w'.ownsRow base 3 1 (.slice ao n cap) n (intV X)) ∧ Turn (fun b => (Value.slice ao n cap).ownBlock = some b) w w' := by
 have hc := insert_any hO hn h100
 have HC := Lib.hid hc
 have h12 : (n : Int) ≤ 12 := by omega
 clear hO hn hc
 go_enter Tryz.func105, Tryz.ntmps105
 go_wp2
 refine wp_loop (fun a W => a.defers = [] ∧ (a.tmps.size = 134 ∧ a.tmps.getD 0 undef = .slice ao n cap ∧ a.tmps.getD 1 undef = .int .i64 0 ∧ a.tmps.getD 2 undef = .int .i64 n) ∧ w = W) (fun _ _ => 0) ?_ ?_
 ·exact ⟨rfl, ⟨rfl, rfl, rfl, rfl⟩, rfl⟩
 rintro ⟨t, _⟩ W ⟨hds, ⟨hsz, f0, f1, f2⟩, rfl⟩
 subst hds
 obtain ⟨u', hu⟩ := frame_fun hsz
 obtain ⟨u, rfl⟩ : ∃ x, x = u' := ⟨_, rfl⟩
 have hu' : t = #[u 0, u 1, u 2, u 3, u 4, u 5, u 6, u 7, u 8, u 9, u 10, u 11, u 12, u 13, u 14, u 15, u 16, u 17, u 18, u 19, u 20, u 21, u 22, u 23, u 24, u 25, u 26, u 27, u 28, u 29, u 30, u 31, u 32, u 33, u 34, u 35, u 36, u 37, u 38, u 39, u 40, u 41, u 42, u 43, u 44, u 45, u 46, u 47, u 48, u 49, u 50, u 51, u 52, u 53, u 54, u 55, u 56, u 57, u 58, u 59, u 60, u 61, u 62, u 63, u 64, u 65, u 66, u 67, u 68, u 69, u 70, u 71, u 72, u 73, u 74, u 75, u 76, u 77, u 78, u 79, u 80, u 81, u 82, u 83, u 84, u 85, u 86, u 87, u 88, u 89, u 90, u 91, u 92, u 93, u 94, u 95, u 96, u 97, u 98, u 99, u 100, u 101, u 102, u 103, u 104, u 105, u 106, u 107, u 108, u 109, u 110, u 111, u 112, u 113, u 114, u 115, u 116, u 117, u 118, u 119, u 120, u 121, u 122, u 123, u 124, u 125, u 126, u 127, u 128, u 129, u 130, u 131, u 132, u 133] := hu
 clear hu
 subst hu'
 change u 0 = _ at f0
 change u 1 = _ at f1
 change u 2 = _ at f2
 rw [f0, f1, f2]
 clear f0 f1 f2 hsz
 go_wp2_with fail
 refine HC.out.mono ?_
 rintro e w2 ⟨rfl, hX, hT⟩
 have HX := Lib.hid hX; have HT := Lib.hid hT
 clear hX hT
 go_wp2
 exact bodyPost_ret (results_none rfl _ _ _) rfl ⟨rfl, HX.out, HT.out⟩

theorem sort_any {w : World} {base n cap : Nat} {ao : Option Addr} {X0 : List Int} (hO : w.ownsRow base 3 1 (.slice ao n cap) n (intV X0)) (hn : X0.length = n) (h100 : n ≤ 12) :
  Calls Tryz.prog 62 #[.slice ao n cap] w fun e w' => e = .returned (.tuple #[]) ∧ (∃ X : List Int, X.Perm X0 ∧ X.Pairwise (· ≤ ·) ∧ w'.ownsRow base 3 1 (.slice ao n cap) n (intV X)) ∧ Turn (fun b => (Value.slice ao n cap).ownBlock = some b) w w' := by
 have hc := fun (z : Int) => pdq_any z hO hn h100
 have HC := Lib.hid hc
 have hl := fun (W : World) => len_core (n : Int) W (by omega) (by omega)
 have HL := Lib.hid hl
 clear hO hn hc hl
 go_enter Tryz.func62, Tryz.ntmps62
 go_wp2_with (first | (go_at_call 146; refine (HL.out _).mono ?_; rintro e w' ⟨rfl, rfl⟩) | (go_at_call 106; go_in) | (go_at_call 105; refine (HC.out _).mono ?_; rintro e w2 ⟨rfl, hX, hT⟩))
 exact bodyPost_end (results_none rfl _ _ _) rfl ⟨rfl, hX, hT⟩


theorem frm_take {l : LawD} {j : Nat} {x : OutD} (h : l.outs[j]? = some x) : (frmL l).take (j + 1) = (frmL l).take j ++ [x.frm] := by
 unfold frmL
 obtain ⟨hj, rfl⟩ := List.getElem?_eq_some_iff.1 h
 rw [List.take_succ_eq_append_getElem (by simpa using hj)]
 simp
/-- The first numbers. -/
def UpTo (X : List Int) (i : Nat) : Prop := ∀ p, p < i → X.getD p 0 = (p : Int)
theorem kind_end {F X : List Int} (hp : X.Perm F) (hs : X.Pairwise (· ≤ ·)) (h : ∀ p, p < X.length → X.getD p 0 = (p : Int)) : kindF F = if sortedB F = true then 1 else 4 := by
 have hx : X = upTo F.length := by
  apply List.ext_getElem
  ·rw [upTo_length, hp.length_eq]
  ·intro i h1 h2
   have := h i h1
   rw [List.getD_eq_getElem?_getD, List.getElem?_eq_getElem h1] at this
   simp only [Option.getD_some] at this
   rw [this]; simp [upTo]
 have h1 := (kind_prog hp hs).1 hx
 have h2 := own_sorted h1
 unfold kindF
 by_cases h3 : sortedB F = true
 ·rw [if_pos h3, if_pos (h2.2 (sortedB_iff.1 h3))]
 ·rw [if_neg h3, if_neg (fun h4 => h3 (sortedB_iff.2 (h2.1 h4))), if_pos h1]
theorem kind_other {F X : List Int} (hp : X.Perm F) (hs : X.Pairwise (· ≤ ·)) {p : Nat} (hl : p < X.length) (h : X.getD p 0 ≠ (p : Int)) : kindF F = 5 := by
 have hx : X ≠ upTo F.length := by
  intro e
  apply h
  rw [e, List.getD_eq_getElem?_getD, List.getElem?_eq_getElem (by rw [upTo_length, ← hp.length_eq]; exact hl)]
  simp [upTo]
 have h1 : ¬ seenB F = true := fun h1 => hx ((kind_prog hp hs).2 h1)
 unfold kindF
 rw [if_neg (fun h2 => h1 (own_seen h2)), if_neg h1]

theorem lkind_any {w : World} {l : LawD} {cs : List Value} (hl : LawAt w l cs) (hT : Tab w) :
  Calls Tryz.prog 18 #[.agg cs.toArray] w fun e w' => e = .returned (.tuple #[.int .i64 (kindV l), .int .i64 (lawE l)]) ∧ Ext w w' := by
 have hck := fun (V : World) (hE : Ext w V) => lcheck_any (hl.ext hE) (hT.keep hE id)
 have hkv : kindV l = if lawE l = 0 then (if l.outs.length < l.ifs.length then 2 else if l.ifs.length < l.outs.length then 3 else kindF (frmL l)) else 0 := by
  unfold kindV lawE
  cases lawB l <;> simp
 have hsm : lawE l = 0 → l.outs.length ≤ 6 := fun h => by
  unfold lawE at h
  split at h
  ·rename_i h1; exact (lawB_parts h1).2.1
  ·cases h
 have hfl : (frmL l).length = l.outs.length := by simp [frmL]
 obtain ⟨nm, k1, p1, m1, n1, a1, b1, o1, N1, c1, k2, p2, m2, n2, a2, b2, o2, N2, c2, io, N3, ic, oo, N4, oc, md, rfl, HLA, HPL, HPR, HIF, HOU, HNM, HN1, HN2, HN3, HN4, HMD, q0, q1, q2, q3, q4⟩ := law_gen hl
 rw [HN3.out, HN4.out] at hkv
 rw [HN4.out] at hsm hfl
 obtain ⟨R, hR⟩ : ∃ R, lawE l = R := ⟨_, rfl⟩
 obtain ⟨KV, hKV⟩ : ∃ R, kindV l = R := ⟨_, rfl⟩
 rw [hR] at hck hkv hsm ⊢
 rw [hKV] at hkv ⊢
 have HCK := Lib.hid hck; have HKV := Lib.hid hkv; have HSM := Lib.hid hsm; have HFL := Lib.hid hfl
 clear hl hT hck hkv hsm hfl hR hKV HLA HPL HPR HIF
 go_enter Tryz.func18, Tryz.ntmps18
 go_upto_region 1 with (fail)
 obtain ⟨w1, hw1⟩ : ∃ D, w.alloc (.cells #[.string nm, .int .i64 k1, .int .u32 (p1 : Int), .int .u32 (m1 : Int), .bool n1, .int .i64 a1, .int .i64 b1, .slice o1 N1 c1, .int .i64 k2, .int .u32 (p2 : Int), .int .u32 (m2 : Int), .bool n2, .int .i64 a2, .int .i64 b2, .slice o2 N2 c2, .slice io N3 ic, .slice oo N4 oc, .int .i64 md] 34) = D := ⟨_, rfl⟩
 have hE1 : Ext w w1 := by rw [← hw1]; exact (Turn.refl _ w).alloc _
 have hl1 : w1.heap[w.heap.size]? = some (.cells #[.string nm, .int .i64 k1, .int .u32 (p1 : Int), .int .u32 (m1 : Int), .bool n1, .int .i64 a1, .int .i64 b1, .slice o1 N1 c1, .int .i64 k2, .int .u32 (p2 : Int), .int .u32 (m2 : Int), .bool n2, .int .i64 a2, .int .i64 b2, .slice o2 N2 c2, .slice io N3 ic, .slice oo N4 oc, .int .i64 md] 34 (0, 0)) := by rw [← hw1]; exact new_at rfl
 have hs1 : w1.heap.size = w.heap.size + 1 := by rw [← hw1]; simp
 rw [hw1]
 obtain ⟨B, hB⟩ : ∃ b, w.heap.size = b := ⟨_, rfl⟩
 rw [hB] at hl1 hs1 ⊢
 have HL1 := Lib.hid hl1; have HB := Lib.hid hB; have HS1 := Lib.hid hs1
 clear hw1 hl1 hB hs1
 go_wp2_with (refine wpList_load_row rfl 34 (.tmp 1) rfl B rfl _ _ _ _ HL1.out Tryz.underlying34 rfl Tryz.lawInfo ?_)
 refine (HCK.out _ hE1).mono ?_
 rintro e w2 ⟨rfl, hN⟩
 have hE2 := hE1.trans hN
 have HL2 := Lib.hid (hN.keep HL1.out)
 have hz2 : B + 1 ≤ w2.heap.size := by have := hN.size; have := HS1.out; omega
 clear hN hE1 HL1 HCK
 by_cases h0 : R = 0
 case neg =>
  have h9 : (R != 0) = true := by rw [bne_iff_ne]; exact h0
  have hk := HKV.out
  rw [if_neg h0] at hk
  subst hk
  go_wp2
  go_ret2
  exact ⟨rfl, hE2⟩
 subst h0
 have HKV1 : Hid (KV = if N4 < N3 then 2 else if N3 < N4 then 3 else kindF (frmL l)) := Lib.hid (by rw [HKV.out]; exact if_pos rfl)
 have h6 := HSM.out rfl
 clear HKV HSM
 have c15 := cell_of_row _ _ 15 _ _ _ HL2.out
 have c16 := cell_of_row _ _ 16 _ _ _ HL2.out
 by_cases h1 : N4 < N3
 ·have h2 : (N4 : Int) < (N3 : Int) := by omega
  have hk := HKV1.out
  rw [if_pos h1] at hk
  subst hk
  go_wp2
  go_quiet (fail)
  go_wp2
  go_ret2
  exact ⟨rfl, hE2.drewN _⟩
 have h2 : ¬ ((N4 : Int) < (N3 : Int)) := by omega
 by_cases h3 : N3 < N4
 ·have h4 : (N3 : Int) < (N4 : Int) := by omega
  have hk := HKV1.out
  rw [if_neg h1, if_pos h3] at hk
  subst hk
  go_wp2
  go_quiet (fail)
  go_wp2
  go_ret2
  exact ⟨rfl, hE2.drewN _⟩
 have h4 : ¬ ((N3 : Int) < (N4 : Int)) := by omega
 have HKV2 : Hid (KV = kindF (frmL l)) := Lib.hid (by rw [HKV1.out, if_neg h1, if_neg h3])
 clear HKV1 h1 h3
 go_wp2
 go_quiet (fail)
 go_wp2
 obtain ⟨V0, hV0⟩ : ∃ D, D = w2 := ⟨_, rfl⟩
 clear hV0
 refine wp_loop (fun a W => ∃ (j : Nat) (po : Option Addr) (pc : Nat), j ≤ N4 ∧ a.defers = [] ∧ (a.tmps.size = 61 ∧ a.tmps.getD 1 undef = .pointer (some ⟨B, 0, none⟩) ∧ a.tmps.getD 7 undef = .slice po j pc ∧ a.tmps.getD 33 undef = .slice oo N4 oc ∧ a.tmps.getD 34 undef = .int .i64 N4 ∧ a.tmps.getD 35 undef = .int .i64 j) ∧ W.ownsRow w2.heap.size 3 1 (.slice po j pc) j (intV ((frmL l).take j)) ∧ Ext w2 W)
  (fun a _ => N4 - (intOf (a.tmps.getD 35 undef)).toNat) ?_ ?_
 ·exact ⟨0, none, 0, by omega, rfl, ⟨rfl, rfl, rfl, rfl, rfl, rfl⟩, World.ownsRow_nil _ _ _ _, by first | exact (Turn.refl _ _).drewN _ | exact Turn.refl _ _⟩
 clear c15 c16 h2 h4
 rintro ⟨t, _⟩ V ⟨j, po, pc, hj, hds, ⟨hsz, f1, f7, f33, f34, f35⟩, hO, hE⟩
 subst hds
 obtain ⟨u', hu⟩ := frame_fun hsz
 obtain ⟨u, rfl⟩ : ∃ x, x = u' := ⟨_, rfl⟩
 have hu' : t = #[u 0, u 1, u 2, u 3, u 4, u 5, u 6, u 7, u 8, u 9, u 10, u 11, u 12, u 13, u 14, u 15, u 16, u 17, u 18, u 19, u 20, u 21, u 22, u 23, u 24, u 25, u 26, u 27, u 28, u 29, u 30, u 31, u 32, u 33, u 34, u 35, u 36, u 37, u 38, u 39, u 40, u 41, u 42, u 43, u 44, u 45, u 46, u 47, u 48, u 49, u 50, u 51, u 52, u 53, u 54, u 55, u 56, u 57, u 58, u 59, u 60] := hu
 clear hu
 subst hu'
 change u 1 = _ at f1
 change u 7 = _ at f7
 change u 33 = _ at f33
 change u 34 = _ at f34
 change u 35 = _ at f35
 rw [f1, f7, f33, f34, f35]
 clear f1 f7 f33 f34 f35 hsz
 have hE3 := hE2.trans hE
 have HO := Lib.hid hO
 clear hO
 by_cases hjn : j < N4
 ·have h1 : (j : Int) < (N4 : Int) := by omega
  have hjl : j < l.outs.length := by rw [HN4.out]; exact hjn
  obtain ⟨gx, ox, cx, hq, hgx, hok6, d0, d1, d2, d3, d4, d5⟩ := (HOU.out.ext hE3).at hjl
  simp only [Value.slice.injEq] at hq
  obtain ⟨rfl, hz, rfl⟩ := hq
  clear hz
  obtain ⟨x, hxj⟩ : ∃ x, l.outs[j] = x := ⟨_, rfl⟩
  have hft := frm_take (l := l) (j := j) (x := x) (by rw [List.getElem?_eq_getElem hjl, hxj])
  rw [hxj] at d0 d1 d2 d3 d4 d5
  obtain ⟨fr, cl, ⟨sa, sb⟩, tk, ofi⟩ := x
  dsimp only at d0 d1 d2 d3 d4 d5 hft
  have HFT := Lib.hid hft
  have hzV : w2.heap.size ≤ V.heap.size := hE.size
  clear hft hxj hok6 hgx
  go_upto_region 13 with (fail)
  obtain ⟨V1, hV1⟩ : ∃ D, V.alloc (.cells #[.int .i64 fr, .int .u32 (cl : Int), .int .u32 (sa : Int), .int .u32 (sb : Int), .int .u32 (tk : Int), .int .i64 ofi] 30) = D := ⟨_, rfl⟩
  have e1 : Ext V V1 := by rw [← hV1]; exact (Turn.refl _ V).alloc _
  have hx1 : V1.heap[V.heap.size]? = some (.cells #[.int .i64 fr, .int .u32 (cl : Int), .int .u32 (sa : Int), .int .u32 (sb : Int), .int .u32 (tk : Int), .int .i64 ofi] 30 (0, 0)) := by rw [← hV1]; exact new_at rfl
  rw [hV1]
  obtain ⟨X, hX⟩ : ∃ b, V.heap.size = b := ⟨_, rfl⟩
  rw [hX] at hx1 ⊢
  have cX := cell_of_row _ _ 0 _ _ _ hx1
  have hz1 := e1.size
  have HO1 := Lib.hid (own_ext HO.out e1); have E1 := Lib.hid e1
  clear hV1 hX hx1 e1 d0 d1 d2 d3 d4 d5
  go_wp2_with (at_builtin; refine append_row rfl (.tmp 39) (.tmp 42) 46 rfl w2.heap.size 3 _ 1 8 Tryz.underlying46 Tryz.infoI rfl (by decide) _ _ _ rfl (own_ext HO1.out ((Turn.refl _ V1).alloc _)) ⟨V1.heap.size, 0, none⟩ 1 1 [.int .i64 fr] rfl rfl (new_cells' rfl) ?c2 ?c3 ?c4 ?c5 ?_)
  case c2 => first | rfl | (intro u hu; simp at hu; rcases hu with rfl; rfl)
  case c3 => unfold maxLen; omega
  case c4 => omega
  case c5 => first | omega | (simp; omega)
  intro ao' c' V3 hO3 hT3 _
  have t3 : Turn (fun b => (Value.slice po j pc).ownBlock = some b) V1 V3 := Turn.trans ((Turn.refl _ V1).alloc _) hT3
  have hE4 : Ext w2 V3 := (hE.trans E1.out).after t3 (fun b hb e => by have h5 := (HO1.out.lt b e).1; omega)
  have hrow : V3.ownsRow w2.heap.size 3 1 (.slice ao' (j + 1) c') (j + 1) (intV ((frmL l).take (j + 1))) := by rw [HFT.out, intV_append]; exact hO3
  have HROW := Lib.hid hrow
  clear hrow hO3 hT3 t3 cX
  go_wp2
  exact ⟨⟨j + 1, ao', c', by omega, by first | rfl | trivial, ⟨rfl, rfl, rfl, rfl, rfl, rfl⟩, HROW.out, hE4⟩, by simp [intOf]; omega⟩
 obtain rfl : j = N4 := by omega
 have h1 : ¬ ((j : Int) < (j : Int)) := by omega
 have hrow := HO.out
 rw [List.take_of_length_le (by rw [HFL.out]; exact Nat.le_refl _)] at hrow
 obtain ⟨FF, hFF⟩ : ∃ F, frmL l = F := ⟨_, rfl⟩
 rw [hFF] at hrow
 have HROW := Lib.hid hrow
 have hfl2 := HFL.out
 rw [hFF] at hfl2
 have HFL2 := Lib.hid hfl2
 have HKV3 : Hid (KV = kindF FF) := Lib.hid (by rw [HKV2.out, hFF])
 have his := issorted_any HROW.out HFL2.out (by omega)
 have HIS := Lib.hid his
 clear hrow hfl2 hFF HKV2 HFL his HO
 obtain ⟨sb, hsb⟩ : ∃ b, sortedB FF = b := ⟨_, rfl⟩
 rw [hsb] at HIS
 have HSB := Lib.hid hsb
 clear hsb
 go_wp2_with fail
 refine HIS.out.mono ?_
 rintro e V2 ⟨rfl, hN⟩
 have hE5 := hE3.trans hN
 have hso := sort_any (own_ext HROW.out hN) HFL2.out (by omega)
 have HSO := Lib.hid hso
 clear hso hN HIS
 cases sb
 ·go_wp2_with fail
  refine HSO.out.mono ?_
  rintro e V3 ⟨rfl, ⟨X, hp, hs, hO3⟩, hT3⟩
  have hlt : ∀ b, (Value.slice po j pc).ownBlock = some b → B + 1 ≤ b := fun b hb => Nat.le_trans hz2 (HROW.out.lt b hb).1
  have hE6 : Ext w V3 := hE5.after hT3 (fun b hb e => by have := hlt b e; have := HB.out; omega)
  have hXn : X.length = j := by rw [hp.length_eq]; exact HFL2.out
  have HP := Lib.hid hp; have HSS := Lib.hid hs; have HO3 := Lib.hid hO3; have HXN := Lib.hid hXn
  clear hp hs hO3 hT3 hlt hXn HSO HROW
  go_wp2
  refine wp_loop (fun a W => ∃ (i : Nat), i ≤ j ∧ a.defers = [] ∧ (a.tmps.size = 61 ∧ a.tmps.getD 10 undef = .int .i64 4 ∧ a.tmps.getD 49 undef = .slice po j pc ∧ a.tmps.getD 50 undef = .int .i64 j ∧ a.tmps.getD 51 undef = .int .i64 i) ∧ UpTo X i ∧ V3 = W)
   (fun a _ => j - (intOf (a.tmps.getD 51 undef)).toNat) ?_ ?_
  ·exact ⟨0, by omega, rfl, ⟨rfl, rfl, rfl, rfl, rfl⟩, fun p hp => by omega, rfl⟩
  rintro ⟨t, _⟩ W ⟨i, hi, hds, ⟨hsz, f10, f49, f50, f51⟩, hup, rfl⟩
  subst hds
  obtain ⟨u', hu⟩ := frame_fun hsz
  obtain ⟨u, rfl⟩ : ∃ x, x = u' := ⟨_, rfl⟩
  have hu' : t = #[u 0, u 1, u 2, u 3, u 4, u 5, u 6, u 7, u 8, u 9, u 10, u 11, u 12, u 13, u 14, u 15, u 16, u 17, u 18, u 19, u 20, u 21, u 22, u 23, u 24, u 25, u 26, u 27, u 28, u 29, u 30, u 31, u 32, u 33, u 34, u 35, u 36, u 37, u 38, u 39, u 40, u 41, u 42, u 43, u 44, u 45, u 46, u 47, u 48, u 49, u 50, u 51, u 52, u 53, u 54, u 55, u 56, u 57, u 58, u 59, u 60] := hu
  clear hu
  subst hu'
  change u 10 = _ at f10
  change u 49 = _ at f49
  change u 50 = _ at f50
  change u 51 = _ at f51
  rw [f10, f49, f50, f51]
  clear f10 f49 f50 f51 hsz
  have HUP := Lib.hid hup
  clear hup
  by_cases hij : i < j
  case neg =>
   obtain rfl : i = j := by omega
   have h1 : ¬ ((i : Int) < (i : Int)) := by omega
   have hk := kind_end HP.out HSS.out (fun p hp => HUP.out p (by rw [HXN.out] at hp; exact hp))
   rw [HSB.out] at hk
   have HK : Hid (KV = 4) := Lib.hid (by rw [HKV3.out, hk]; rfl)
   clear hk
   go_wp2
   go_ret2
   exact ⟨by rw [HK.out]; rfl, hE6⟩
  have h1 : (i : Int) < (j : Int) := by omega
  obtain ⟨g, rfl⟩ := own_some HO3.out (by omega)
  have c0 := HO3.out.cellAt i (by omega)
  rw [intV_get X (by rw [HXN.out]; exact hij)] at c0
  obtain ⟨x, hx⟩ : ∃ x, X.getD i 0 = x := ⟨_, rfl⟩
  rw [hx] at c0
  have HX := Lib.hid hx
  clear hx
  by_cases hxi : x = (i : Int)
  ·subst hxi
   have hnx : UpTo X (i + 1) := fun p hp => by
    by_cases hpi : p = i
    ·subst hpi; exact HX.out
    ·exact HUP.out p (by omega)
   have HNX := Lib.hid hnx
   clear hnx
   go_wp2
   exact ⟨⟨i + 1, by omega, by first | rfl | trivial, ⟨rfl, rfl, rfl, rfl, rfl⟩, HNX.out, by first | rfl | trivial⟩, by simp [intOf]; omega⟩
  ·have h9 : (x != (i : Int)) = true := by rw [bne_iff_ne]; exact hxi
   have hk := kind_other HP.out HSS.out (p := i) (by rw [HXN.out]; exact hij) (by rw [HX.out]; exact hxi)
   have HK : Hid (KV = 5) := Lib.hid (by rw [HKV3.out, hk])
   clear hk hxi
   go_wp2
   go_ret2
   exact ⟨by rw [HK.out]; rfl, hE6⟩
 ·go_wp2_with fail
  refine HSO.out.mono ?_
  rintro e V3 ⟨rfl, ⟨X, hp, hs, hO3⟩, hT3⟩
  have hlt : ∀ b, (Value.slice po j pc).ownBlock = some b → B + 1 ≤ b := fun b hb => Nat.le_trans hz2 (HROW.out.lt b hb).1
  have hE6 : Ext w V3 := hE5.after hT3 (fun b hb e => by have := hlt b e; have := HB.out; omega)
  have hXn : X.length = j := by rw [hp.length_eq]; exact HFL2.out
  have HP := Lib.hid hp; have HSS := Lib.hid hs; have HO3 := Lib.hid hO3; have HXN := Lib.hid hXn
  clear hp hs hO3 hT3 hlt hXn HSO HROW
  go_wp2
  refine wp_loop (fun a W => ∃ (i : Nat), i ≤ j ∧ a.defers = [] ∧ (a.tmps.size = 61 ∧ a.tmps.getD 10 undef = .int .i64 1 ∧ a.tmps.getD 49 undef = .slice po j pc ∧ a.tmps.getD 50 undef = .int .i64 j ∧ a.tmps.getD 51 undef = .int .i64 i) ∧ UpTo X i ∧ V3 = W)
   (fun a _ => j - (intOf (a.tmps.getD 51 undef)).toNat) ?_ ?_
  ·exact ⟨0, by omega, rfl, ⟨rfl, rfl, rfl, rfl, rfl⟩, fun p hp => by omega, rfl⟩
  rintro ⟨t, _⟩ W ⟨i, hi, hds, ⟨hsz, f10, f49, f50, f51⟩, hup, rfl⟩
  subst hds
  obtain ⟨u', hu⟩ := frame_fun hsz
  obtain ⟨u, rfl⟩ : ∃ x, x = u' := ⟨_, rfl⟩
  have hu' : t = #[u 0, u 1, u 2, u 3, u 4, u 5, u 6, u 7, u 8, u 9, u 10, u 11, u 12, u 13, u 14, u 15, u 16, u 17, u 18, u 19, u 20, u 21, u 22, u 23, u 24, u 25, u 26, u 27, u 28, u 29, u 30, u 31, u 32, u 33, u 34, u 35, u 36, u 37, u 38, u 39, u 40, u 41, u 42, u 43, u 44, u 45, u 46, u 47, u 48, u 49, u 50, u 51, u 52, u 53, u 54, u 55, u 56, u 57, u 58, u 59, u 60] := hu
  clear hu
  subst hu'
  change u 10 = _ at f10
  change u 49 = _ at f49
  change u 50 = _ at f50
  change u 51 = _ at f51
  rw [f10, f49, f50, f51]
  clear f10 f49 f50 f51 hsz
  have HUP := Lib.hid hup
  clear hup
  by_cases hij : i < j
  case neg =>
   obtain rfl : i = j := by omega
   have h1 : ¬ ((i : Int) < (i : Int)) := by omega
   have hk := kind_end HP.out HSS.out (fun p hp => HUP.out p (by rw [HXN.out] at hp; exact hp))
   rw [HSB.out] at hk
   have HK : Hid (KV = 1) := Lib.hid (by rw [HKV3.out, hk]; rfl)
   clear hk
   go_wp2
   go_ret2
   exact ⟨by rw [HK.out]; rfl, hE6⟩
  have h1 : (i : Int) < (j : Int) := by omega
  obtain ⟨g, rfl⟩ := own_some HO3.out (by omega)
  have c0 := HO3.out.cellAt i (by omega)
  rw [intV_get X (by rw [HXN.out]; exact hij)] at c0
  obtain ⟨x, hx⟩ : ∃ x, X.getD i 0 = x := ⟨_, rfl⟩
  rw [hx] at c0
  have HX := Lib.hid hx
  clear hx
  by_cases hxi : x = (i : Int)
  ·subst hxi
   have hnx : UpTo X (i + 1) := fun p hp => by
    by_cases hpi : p = i
    ·subst hpi; exact HX.out
    ·exact HUP.out p (by omega)
   have HNX := Lib.hid hnx
   clear hnx
   go_wp2
   exact ⟨⟨i + 1, by omega, by first | rfl | trivial, ⟨rfl, rfl, rfl, rfl, rfl⟩, HNX.out, by first | rfl | trivial⟩, by simp [intOf]; omega⟩
  ·have h9 : (x != (i : Int)) = true := by rw [bne_iff_ne]; exact hxi
   have hk := kind_other HP.out HSS.out (p := i) (by rw [HXN.out]; exact hij) (by rw [HX.out]; exact hxi)
   have HK : Hid (KV = 5) := Lib.hid (by rw [HKV3.out, hk])
   clear hk hxi
   go_wp2
   go_ret2
   exact ⟨by rw [HK.out]; rfl, hE6⟩
end Go.Proofs.YtamkkhlabfahmaaGreatDoor
