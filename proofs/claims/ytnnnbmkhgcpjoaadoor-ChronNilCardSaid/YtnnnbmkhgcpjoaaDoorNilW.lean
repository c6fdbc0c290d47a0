/- ablautlaw13.ChronNil: the walk. -/
import Derived.Test.YtnnnbmkhgcpjoaaDoorNil
import Derived.Test.YtnnnbmkhgcpjoaaDoorArgs
namespace Go.Proofs.YtnnnbmkhgcpjoaaDoor
open Go.RowKit Go.Ab

set_option maxRecDepth 100000 in
set_option maxHeartbeats 8000000 in
theorem nil_law (w : World) (hT : Tab w) (x y : Int) :
    Calls Tryd.prog 12 #[.agg #[.int .i64 x, .int .i64 y]] w fun e w' => e = .returned (.bool true) ∧ Ext w w' := by
  have z1 := zero_ord
  have z2 := ordArr_size false 0 (fun _ => 0) (fun _ => 0)
  have z3 := ordArr_ne false 0 (fun _ => 0) (fun _ => 0)
  go_enter Tryd.func12, Tryd.ntmps12
  go_wp2
  have hE0 : Ext w (((w.alloc (.cells #[.int .i64 x, .int .i64 y] 33)).alloc (.cells (ordArr false 0 (fun _ => 0) (fun _ => 0)) 58)).alloc (.cells #[.pointer none, .pointer (some ⟨w.heap.size + 1, 0, none⟩)] 25)) := (((Turn.refl _ _).alloc _).alloc _).alloc _
  have hb0 : (((w.alloc (.cells #[.int .i64 x, .int .i64 y] 33)).alloc (.cells (ordArr false 0 (fun _ => 0) (fun _ => 0)) 58)).alloc (.cells #[.pointer none, .pointer (some ⟨w.heap.size + 1, 0, none⟩)] 25)).heap[w.heap.size]? = some (.cells #[.int .i64 x, .int .i64 y] 33 (0, 0)) := new_keep (new_keep (new_at rfl))
  have hb1 : Ord (((w.alloc (.cells #[.int .i64 x, .int .i64 y] 33)).alloc (.cells (ordArr false 0 (fun _ => 0) (fun _ => 0)) 58)).alloc (.cells #[.pointer none, .pointer (some ⟨w.heap.size + 1, 0, none⟩)] 25)) (w.heap.size + 1) false 0 (fun _ => 0) (fun _ => 0) := new_keep (new_at (by simp))
  have hb2 : (((w.alloc (.cells #[.int .i64 x, .int .i64 y] 33)).alloc (.cells (ordArr false 0 (fun _ => 0) (fun _ => 0)) 58)).alloc (.cells #[.pointer none, .pointer (some ⟨w.heap.size + 1, 0, none⟩)] 25)).heap[w.heap.size + 1 + 1]? = some (.cells #[.pointer none, .pointer (some ⟨w.heap.size + 1, 0, none⟩)] 25 (0, 0)) := new_at (by simp)
  generalize (((w.alloc (.cells #[.int .i64 x, .int .i64 y] 33)).alloc (.cells (ordArr false 0 (fun _ => 0) (fun _ => 0)) 58)).alloc (.cells #[.pointer none, .pointer (some ⟨w.heap.size + 1, 0, none⟩)] 25)) = w0 at hE0 hb0 hb1 hb2 ⊢
  clear z1 z2 z3
  refine wp_loop (fun a W => ∃ (k : Nat), k ≤ 2 ∧ Ext w0 W ∧ a.defers = [] ∧ (a.tmps.size = 99 ∧ a.tmps.getD 1 undef = .pointer (some ⟨w.heap.size, 0, none⟩) ∧ a.tmps.getD 15 undef = .slice (some ⟨w.heap.size + 1 + 1, 0, none⟩) 2 2 ∧ a.tmps.getD 16 undef = .int .i64 2 ∧ a.tmps.getD 17 undef = .int .i64 k))
    (fun a _ => 2 - (intOf (a.tmps.getD 17 undef)).toNat) ?_ ?_
  · exact ⟨0, by omega, Turn.refl _ _, rfl, rfl, rfl, rfl, rfl, rfl⟩
  rintro ⟨t, _⟩ W ⟨k, hk, hEW, hds, ⟨hsz, f1, f15, f16, f17⟩⟩
  subst hds
  obtain ⟨u', hu⟩ := frame_fun hsz
  obtain ⟨u, rfl⟩ : ∃ x, x = u' := ⟨_, rfl⟩
  have hu' : t = #[u 0, u 1, u 2, u 3, u 4, u 5, u 6, u 7, u 8, u 9, u 10, u 11, u 12, u 13, u 14, u 15, u 16, u 17, u 18, u 19, u 20, u 21, u 22, u 23, u 24, u 25, u 26, u 27, u 28, u 29, u 30, u 31, u 32, u 33, u 34, u 35, u 36, u 37, u 38, u 39, u 40, u 41, u 42, u 43, u 44, u 45, u 46, u 47, u 48, u 49, u 50, u 51, u 52, u 53, u 54, u 55, u 56, u 57, u 58, u 59, u 60, u 61, u 62, u 63, u 64, u 65, u 66, u 67, u 68, u 69, u 70, u 71, u 72, u 73, u 74, u 75, u 76, u 77, u 78, u 79, u 80, u 81, u 82, u 83, u 84, u 85, u 86, u 87, u 88, u 89, u 90, u 91, u 92, u 93, u 94, u 95, u 96, u 97, u 98] := hu
  clear hu
  subst hu'
  change u 1 = _ at f1
  change u 15 = _ at f15
  change u 16 = _ at f16
  change u 17 = _ at f17
  rw [f1, f15, f16, f17]
  clear f1 f15 f16 f17 hsz
  by_cases hk2 : k < 2
  · have hk3 : (k : Int) < 2 := by omega
    obtain ⟨p, hz, hc⟩ : ∃ p, ZOrd W p ∧ W.cell? ⟨w.heap.size + 1 + 1, k, none⟩ = some (.pointer p) := by
      have hb := hEW.keep hb2
      rcases (show k = 0 ∨ k = 1 by omega) with rfl | rfl
      · exact ⟨none, .inl rfl, by simp [World.cell?, hb]⟩
      · exact ⟨some ⟨w.heap.size + 1, 0, none⟩, .inr ⟨_, rfl, hb1.keep hEW id⟩, by simp [World.cell?, hb]⟩
    have hb := hEW.keep hb0
    have c0 : W.cell? ⟨w.heap.size, 0, none⟩ = some (.int .i64 x) := by simp [World.cell?, hb]
    have c1 : W.cell? ⟨w.heap.size, 1, none⟩ = some (.int .i64 y) := by simp [World.cell?, hb]
    clear hb
    go_wp2_with fail
    refine (count_z hz).mono ?_
    rintro e x1 ⟨rfl, hX1⟩
    have z1 := hz.ext hX1
    have a0 := hX1.cell_some c0 id
    have a1 := hX1.cell_some c1 id
    clear c0 c1 hc hz
    go_wp2_with fail
    refine (allows_z z1).mono ?_
    rintro e _ ⟨rfl, rfl⟩
    go_wp2_with fail
    refine (before_z z1 x y).mono ?_
    rintro e x2 ⟨rfl, hX2⟩
    have z2 := z1.ext hX2
    have b0 := hX2.cell_some a0 id
    have b1 := hX2.cell_some a1 id
    clear a0 a1
    go_wp2_with fail
    refine (is_z z2 x y).mono ?_
    rintro e _ ⟨rfl, rfl⟩
    go_wp2_with fail
    refine (free_z z2 x y).mono ?_
    rintro e _ ⟨rfl, rfl⟩
    go_wp2_with fail
    refine (len_z z2).mono ?_
    rintro e _ ⟨rfl, rfl⟩
    go_wp2_with fail
    refine (copy_z z2).mono ?_
    rintro e _ ⟨rfl, rfl⟩
    go_wp2_with fail
    refine (pairs_z z2).mono ?_
    rintro e x3 ⟨rfl, hX3⟩
    have z3 := z2.ext hX3
    go_wp2_with fail
    refine (reduced_z z3).mono ?_
    rintro e x4 ⟨rfl, hX4⟩
    have z4 := z3.ext hX4
    go_wp2_with fail
    refine (levels_z z4).mono ?_
    rintro e x5 ⟨q1, q2, rfl, hX5⟩
    have z5 := z4.ext hX5
    go_wp2_with fail
    refine (first_z z5).mono ?_
    rintro e _ ⟨rfl, rfl⟩
    go_wp2
    exact ⟨⟨k + 1, by omega, ((((hEW.trans hX1).trans hX2).trans hX3).trans hX4).trans hX5, by first | rfl | trivial, ⟨rfl, rfl, rfl, rfl, rfl⟩⟩, by simp [intOf]; omega⟩
  · go_wp2_with fail
    refine (works_any W (hT.keep (hE0.trans hEW) id)).mono ?_
    rintro e wh ⟨rfl, hEh⟩
    go_wp2
    go_ret
    exact ⟨rfl, (hE0.trans hEW).trans hEh⟩

theorem nil_card (w : World) (hT : Tab w) (x y : Int) :
    Calls Tryd.prog 12 #[.agg #[.int .i64 x, .int .i64 y]] w fun e w' => e = .returned (.bool true) ∧ Ext w w' := nil_law w hT x y
end Go.Proofs.YtnnnbmkhgcpjoaaDoor
