/- ablautref06.mirror (printed by genrefmir.py). -/
import Derived.Test.YtapfoaiibjdfnaaDoorMirP
namespace Go.Proofs.YtapfoaiibjdfnaaDoor
open Go.RowKit Go.Ab
attribute [local go_sem] Oper.semAt_some wide_fn wide_depth

/-- The contract of the reference's mirror. -/
def RMirOk (p : Pat) : Prop := ∀ (K : Nat → Prop) (w : World) (cs : List Value), PatAt K w p cs → okPat p →
  Calls Tryd.prog 62 #[.agg cs.toArray] w fun e w' => ∃ ds, e = .returned (.agg ds.toArray) ∧ PatSep 27 w' (mirP p) ds (fun b => w.heap.size ≤ b ∧ b < w'.heap.size) ∧ Ext w w'

set_option maxRecDepth 100000 in
set_option maxHeartbeats 32000000 in
theorem rmirror_step (k : Int) (pl mi : Nat) (nt : Bool) (mn mx : Int) (l : List Pat) (ih : ∀ p ∈ l, RMirOk p) : RMirOk (.node k pl mi nt mn mx l) := by
  intro K w cs hp hok
  unfold PatAt at hp
  obtain ⟨ao, cap, rfl, hpl, hmi, hlc, hcm, hps⟩ := hp
  unfold okPat at hok
  obtain ⟨hnode, hl40, hoks⟩ := hok
  rw [okPats_iff] at hoks
  have hl0 : k ≠ 3 → k ≠ 4 → k ≠ 5 → l.length = 0 := fun h3 h4 h5 => by rw [(nodeE_kind hnode).2.2.1 h3 h4 h5]; rfl
  obtain ⟨hk06, g1, g2, g3, h5, g4⟩ := nodeE_zero hnode
  clear g1 g2 g3 g4 h5
  unfold maxLen at hcm
  obtain ⟨N, hN⟩ : ∃ N, l.length = N := ⟨_, rfl⟩
  have HN := Lib.hid hN
  rw [hN] at hl40 hlc hl0 ⊢
  clear hN
  unfold patCells
  have IH := Lib.hid ih; have HPS := Lib.hid hps; have HOK := Lib.hid hoks; have H0 := Lib.hid hl0
  clear ih hps hoks hnode hl0
  have HM := Lib.hid (mirP_eq k pl mi nt mn mx l)
  generalize mirP (.node k pl mi nt mn mx l) = MP at HM ⊢
  obtain ⟨B, hB⟩ : ∃ B, w.heap.size = B := ⟨_, rfl⟩
  have HB := Lib.hid hB
  have hx : (((w.alloc (.cells #[.int .i64 k, .int .u32 (pl : Int), .int .u32 (mi : Int), .bool nt, .int .i64 mn, .int .i64 mx, .slice ao N cap] 27)).alloc (.cells #[.int .i64 0, .int .u32 0, .int .u32 0, .bool false, .int .i64 0, .int .i64 0, .slice none 0 0] 27)).alloc (.cells #[.int .i64 k, .int .u32 (pl : Int), .int .u32 (mi : Int), .bool nt, .int .i64 mn, .int .i64 mx, .slice none 0 0] 27)).heap[B]? = some (.cells #[.int .i64 k, .int .u32 (pl : Int), .int .u32 (mi : Int), .bool nt, .int .i64 mn, .int .i64 mx, .slice ao N cap] 27 (0, 0)) := by
    subst hB; exact new_keep (new_keep (new_at rfl))
  have hz : (((w.alloc (.cells #[.int .i64 k, .int .u32 (pl : Int), .int .u32 (mi : Int), .bool nt, .int .i64 mn, .int .i64 mx, .slice ao N cap] 27)).alloc (.cells #[.int .i64 0, .int .u32 0, .int .u32 0, .bool false, .int .i64 0, .int .i64 0, .slice none 0 0] 27)).alloc (.cells #[.int .i64 k, .int .u32 (pl : Int), .int .u32 (mi : Int), .bool nt, .int .i64 mn, .int .i64 mx, .slice none 0 0] 27)).heap[B + 1]? = some (.cells #[.int .i64 0, .int .u32 0, .int .u32 0, .bool false, .int .i64 0, .int .i64 0, .slice none 0 0] 27 (0, 0)) := by
    subst hB; exact new_keep (new_at (by simp))
  have hout : (((w.alloc (.cells #[.int .i64 k, .int .u32 (pl : Int), .int .u32 (mi : Int), .bool nt, .int .i64 mn, .int .i64 mx, .slice ao N cap] 27)).alloc (.cells #[.int .i64 0, .int .u32 0, .int .u32 0, .bool false, .int .i64 0, .int .i64 0, .slice none 0 0] 27)).alloc (.cells #[.int .i64 k, .int .u32 (pl : Int), .int .u32 (mi : Int), .bool nt, .int .i64 mn, .int .i64 mx, .slice none 0 0] 27)).heap[B + 2]? = some (.cells #[.int .i64 k, .int .u32 (pl : Int), .int .u32 (mi : Int), .bool nt, .int .i64 mn, .int .i64 mx, .slice none 0 0] 27 (0, 0)) := by
    subst hB; exact new_at (by simp)
  have hE : Ext w (((w.alloc (.cells #[.int .i64 k, .int .u32 (pl : Int), .int .u32 (mi : Int), .bool nt, .int .i64 mn, .int .i64 mx, .slice ao N cap] 27)).alloc (.cells #[.int .i64 0, .int .u32 0, .int .u32 0, .bool false, .int .i64 0, .int .i64 0, .slice none 0 0] 27)).alloc (.cells #[.int .i64 k, .int .u32 (pl : Int), .int .u32 (mi : Int), .bool nt, .int .i64 mn, .int .i64 mx, .slice none 0 0] 27)) := (((Turn.refl _ w).alloc _).alloc _).alloc _
  have hR : MirRow 27 (((w.alloc (.cells #[.int .i64 k, .int .u32 (pl : Int), .int .u32 (mi : Int), .bool nt, .int .i64 mn, .int .i64 mx, .slice ao N cap] 27)).alloc (.cells #[.int .i64 0, .int .u32 0, .int .u32 0, .bool false, .int .i64 0, .int .i64 0, .slice none 0 0] 27)).alloc (.cells #[.int .i64 k, .int .u32 (pl : Int), .int .u32 (mi : Int), .bool nt, .int .i64 mn, .int .i64 mx, .slice none 0 0] 27)) (B + 3) (.slice none 0 0) [] [] := MirRow.nil _ _ _
  go_enter Tryd.func62, Tryd.ntmps62
  rcases (show k = 0 ∨ k = 1 ∨ k = 2 ∨ k = 3 ∨ k = 4 ∨ k = 5 ∨ k = 6 by omega) with rfl | rfl | rfl | rfl | rfl | rfl | rfl
  · go_wp2
    generalize (((w.alloc (.cells #[.int .i64 0, .int .u32 (pl : Int), .int .u32 (mi : Int), .bool nt, .int .i64 mn, .int .i64 mx, .slice ao N cap] 27)).alloc (.cells #[.int .i64 0, .int .u32 0, .int .u32 0, .bool false, .int .i64 0, .int .i64 0, .slice none 0 0] 27)).alloc (.cells #[.int .i64 0, .int .u32 (pl : Int), .int .u32 (mi : Int), .bool nt, .int .i64 mn, .int .i64 mx, .slice none 0 0] 27)) = w1 at hx hz hout hE hR ⊢
    clear hB
    refine wp_loop (fun a W => ∃ (i : Nat) (v : Value) (xs : List Value), i ≤ N ∧ a.defers = [] ∧ (a.tmps.size = 56 ∧ a.tmps.getD 1 undef = .pointer (some ⟨B, 0, none⟩) ∧ a.tmps.getD 2 undef = .pointer (some ⟨B + 1, 0, none⟩) ∧ a.tmps.getD 3 undef = .pointer (some ⟨B + 2, 0, none⟩) ∧ a.tmps.getD 5 undef = .int .i64 i) ∧ W.heap[B]? = some (.cells #[.int .i64 0, .int .u32 (pl : Int), .int .u32 (mi : Int), .bool nt, .int .i64 mn, .int .i64 mx, .slice ao N cap] 27 (0, 0)) ∧ W.heap[B + 1]? = some (.cells #[.int .i64 0, .int .u32 0, .int .u32 0, .bool false, .int .i64 0, .int .i64 0, .slice none 0 0] 27 (0, 0)) ∧ W.heap[B + 2]? = some (.cells #[.int .i64 0, .int .u32 (pl : Int), .int .u32 (mi : Int), .bool nt, .int .i64 mn, .int .i64 mx, v] 27 (0, 0)) ∧ MirRow 27 W (B + 3) v ((l.take i).map mirP) xs ∧ Ext w W)
      (fun a _ => N - (intOf (a.tmps.getD 5 undef)).toNat) ?_ ?_
    · exact ⟨0, .slice none 0 0, [], by omega, rfl, ⟨rfl, rfl, rfl, rfl, rfl⟩, hx, hz, hout, by simpa using hR, hE⟩
    clear hx hz hout hE hR
    rintro ⟨t, _⟩ W ⟨i, v, xs, hi, hds, ⟨hsz, f1, f2, f3, f5⟩, hx, hz, hout, hR, hE⟩
    subst hds
    obtain ⟨u', hu⟩ := frame_fun hsz
    obtain ⟨u, rfl⟩ : ∃ x, x = u' := ⟨_, rfl⟩
    have hu' : t = #[u 0, u 1, u 2, u 3, u 4, u 5, u 6, u 7, u 8, u 9, u 10, u 11, u 12, u 13, u 14, u 15, u 16, u 17, u 18, u 19, u 20, u 21, u 22, u 23, u 24, u 25, u 26, u 27, u 28, u 29, u 30, u 31, u 32, u 33, u 34, u 35, u 36, u 37, u 38, u 39, u 40, u 41, u 42, u 43, u 44, u 45, u 46, u 47, u 48, u 49, u 50, u 51, u 52, u 53, u 54, u 55] := hu
    clear hu
    subst hu'
    change u 1 = _ at f1
    change u 2 = _ at f2
    change u 3 = _ at f3
    change u 5 = _ at f5
    rw [f1, f2, f3, f5]
    clear f1 f2 f3 f5 hsz
    have hBW : B + 2 < W.heap.size := (Array.getElem?_eq_some_iff.1 hout).1
    have hlen : ((l.take i).map mirP).length = i := by rw [List.length_map, List.length_take, HN.out]; omega
    have hO := hR.own
    rw [hlen] at hO
    obtain ⟨vo, vc, rfl⟩ := own_slice hO
    by_cases hiN : i < N
    · exact absurd hiN (by have := H0.out (by decide) (by decide) (by decide); omega)
    · obtain rfl : N = i := by omega
      have h1 : ¬ (N : Int) < (N : Int) := by omega
      have hqs : l.take N = l := List.take_of_length_le (by rw [HN.out]; exact Nat.le_refl _)
      rw [hqs] at hR
      have cO := fun j => cell_of_row _ _ j _ _ _ hout
      have cX := fun j => cell_of_row _ _ j _ _ _ hx
      have HZ := Lib.hid hz; have HR := Lib.hid hR; have HE := Lib.hid hE
      clear hx hz hout hR hE hO hqs hlen
      go_wp2_with (refine wpList_store_row rfl 27 (.tmp 2) (.tmp 55) rfl (B + 1) #[.int .i64 0, .int .u32 (pl : Int), .int .u32 (mi : Int), .bool nt, .int .i64 mn, .int .i64 mx, .slice vo N vc] rfl rfl _ _ HZ.out (by kernel_rfl) rfl (all_oneCell_toArray patCells_one) ?_)
      have hT9 := Turn.setRow (W) (B + 1) #[.int .i64 0, .int .u32 (pl : Int), .int .u32 (mi : Int), .bool nt, .int .i64 mn, .int .i64 mx, .slice vo N vc]
      have hR9 := HR.out.ext hT9 (fun b h1 _ e => by omega)
      refine bodyPost_ret (results_cell_row rfl _ _ (B + 1) _ #[.int .i64 0, .int .u32 (pl : Int), .int .u32 (mi : Int), .bool nt, .int .i64 mn, .int .i64 mx, .slice vo N vc] _ _ rfl (setRow_heap _ _ _ _ _ _ HZ.out) Tryd.underlying27 rfl (by kernel_rfl)) rfl ?_
      refine ⟨patCells 0 pl mi nt mn mx vo N vc, rfl, ?_, ?_⟩
      · have hn : (l.map mirP).length = N := by simp [HN.out]
        have hP := hR9.node hn 0 hpl hmi nt mn mx (lo' := B) (by omega)
        rw [HM.out, HB.out]
        first | exact hP | (simpa using hP)
      · exact HE.out.after hT9 (fun b h1 e => by have := HB.out; omega)
  · go_wp2
    generalize (((w.alloc (.cells #[.int .i64 1, .int .u32 (pl : Int), .int .u32 (mi : Int), .bool nt, .int .i64 mn, .int .i64 mx, .slice ao N cap] 27)).alloc (.cells #[.int .i64 0, .int .u32 0, .int .u32 0, .bool false, .int .i64 0, .int .i64 0, .slice none 0 0] 27)).alloc (.cells #[.int .i64 1, .int .u32 (pl : Int), .int .u32 (mi : Int), .bool nt, .int .i64 mn, .int .i64 mx, .slice none 0 0] 27)) = w1 at hx hz hout hE hR ⊢
    clear hB
    refine wp_loop (fun a W => ∃ (i : Nat) (v : Value) (xs : List Value), i ≤ N ∧ a.defers = [] ∧ (a.tmps.size = 56 ∧ a.tmps.getD 1 undef = .pointer (some ⟨B, 0, none⟩) ∧ a.tmps.getD 2 undef = .pointer (some ⟨B + 1, 0, none⟩) ∧ a.tmps.getD 3 undef = .pointer (some ⟨B + 2, 0, none⟩) ∧ a.tmps.getD 5 undef = .int .i64 i) ∧ W.heap[B]? = some (.cells #[.int .i64 1, .int .u32 (pl : Int), .int .u32 (mi : Int), .bool nt, .int .i64 mn, .int .i64 mx, .slice ao N cap] 27 (0, 0)) ∧ W.heap[B + 1]? = some (.cells #[.int .i64 0, .int .u32 0, .int .u32 0, .bool false, .int .i64 0, .int .i64 0, .slice none 0 0] 27 (0, 0)) ∧ W.heap[B + 2]? = some (.cells #[.int .i64 1, .int .u32 (pl : Int), .int .u32 (mi : Int), .bool nt, .int .i64 mn, .int .i64 mx, v] 27 (0, 0)) ∧ MirRow 27 W (B + 3) v ((l.take i).map mirP) xs ∧ Ext w W)
      (fun a _ => N - (intOf (a.tmps.getD 5 undef)).toNat) ?_ ?_
    · exact ⟨0, .slice none 0 0, [], by omega, rfl, ⟨rfl, rfl, rfl, rfl, rfl⟩, hx, hz, hout, by simpa using hR, hE⟩
    clear hx hz hout hE hR
    rintro ⟨t, _⟩ W ⟨i, v, xs, hi, hds, ⟨hsz, f1, f2, f3, f5⟩, hx, hz, hout, hR, hE⟩
    subst hds
    obtain ⟨u', hu⟩ := frame_fun hsz
    obtain ⟨u, rfl⟩ : ∃ x, x = u' := ⟨_, rfl⟩
    have hu' : t = #[u 0, u 1, u 2, u 3, u 4, u 5, u 6, u 7, u 8, u 9, u 10, u 11, u 12, u 13, u 14, u 15, u 16, u 17, u 18, u 19, u 20, u 21, u 22, u 23, u 24, u 25, u 26, u 27, u 28, u 29, u 30, u 31, u 32, u 33, u 34, u 35, u 36, u 37, u 38, u 39, u 40, u 41, u 42, u 43, u 44, u 45, u 46, u 47, u 48, u 49, u 50, u 51, u 52, u 53, u 54, u 55] := hu
    clear hu
    subst hu'
    change u 1 = _ at f1
    change u 2 = _ at f2
    change u 3 = _ at f3
    change u 5 = _ at f5
    rw [f1, f2, f3, f5]
    clear f1 f2 f3 f5 hsz
    have hBW : B + 2 < W.heap.size := (Array.getElem?_eq_some_iff.1 hout).1
    have hlen : ((l.take i).map mirP).length = i := by rw [List.length_map, List.length_take, HN.out]; omega
    have hO := hR.own
    rw [hlen] at hO
    obtain ⟨vo, vc, rfl⟩ := own_slice hO
    by_cases hiN : i < N
    · exact absurd hiN (by have := H0.out (by decide) (by decide) (by decide); omega)
    · obtain rfl : N = i := by omega
      have h1 : ¬ (N : Int) < (N : Int) := by omega
      have hqs : l.take N = l := List.take_of_length_le (by rw [HN.out]; exact Nat.le_refl _)
      rw [hqs] at hR
      have cO := fun j => cell_of_row _ _ j _ _ _ hout
      have cX := fun j => cell_of_row _ _ j _ _ _ hx
      have HZ := Lib.hid hz; have HR := Lib.hid hR; have HE := Lib.hid hE
      clear hx hz hout hR hE hO hqs hlen
      go_wp2_with (refine wpList_store_row rfl 27 (.tmp 2) (.tmp 55) rfl (B + 1) #[.int .i64 1, .int .u32 (pl : Int), .int .u32 (mi : Int), .bool nt, .int .i64 mn, .int .i64 mx, .slice vo N vc] rfl rfl _ _ HZ.out (by kernel_rfl) rfl (all_oneCell_toArray patCells_one) ?_)
      have hT9 := Turn.setRow (W) (B + 1) #[.int .i64 1, .int .u32 (pl : Int), .int .u32 (mi : Int), .bool nt, .int .i64 mn, .int .i64 mx, .slice vo N vc]
      have hR9 := HR.out.ext hT9 (fun b h1 _ e => by omega)
      refine bodyPost_ret (results_cell_row rfl _ _ (B + 1) _ #[.int .i64 1, .int .u32 (pl : Int), .int .u32 (mi : Int), .bool nt, .int .i64 mn, .int .i64 mx, .slice vo N vc] _ _ rfl (setRow_heap _ _ _ _ _ _ HZ.out) Tryd.underlying27 rfl (by kernel_rfl)) rfl ?_
      refine ⟨patCells 1 pl mi nt mn mx vo N vc, rfl, ?_, ?_⟩
      · have hn : (l.map mirP).length = N := by simp [HN.out]
        have hP := hR9.node hn 1 hpl hmi nt mn mx (lo' := B) (by omega)
        rw [HM.out, HB.out]
        first | exact hP | (simpa using hP)
      · exact HE.out.after hT9 (fun b h1 e => by have := HB.out; omega)
  · have hN0 : N = 0 := H0.out (by decide) (by decide) (by decide)
    subst hN0
    have hl0 : l = [] := List.eq_nil_of_length_eq_zero HN.out
    subst hl0
    clear hx hz hout hE hR
    go_wp2
    refine bodyPost_ret (results_cell_row rfl _ _ (B + 1) _ #[.int .i64 6, .int .u32 (pl : Int), .int .u32 (mi : Int), .bool nt, .int .i64 mn, .int .i64 mx, .slice none 0 0] _ _ rfl (by subst hB; exact new_keep (new_at (by simp))) Tryd.underlying27 rfl (by kernel_rfl)) rfl ?_
    refine ⟨patCells 6 pl mi nt mn mx none 0 0, rfl, ?_, (((Turn.refl _ w).alloc _).alloc _).alloc _⟩
    have hP := (MirRow.nil 27 (((w.alloc (.cells #[.int .i64 2, .int .u32 (pl : Int), .int .u32 (mi : Int), .bool nt, .int .i64 mn, .int .i64 mx, .slice ao 0 cap] 27)).alloc (.cells #[.int .i64 6, .int .u32 (pl : Int), .int .u32 (mi : Int), .bool nt, .int .i64 mn, .int .i64 mx, .slice none 0 0] 27)).alloc (.cells #[.int .i64 6, .int .u32 (pl : Int), .int .u32 (mi : Int), .bool nt, .int .i64 mn, .int .i64 mx, .slice none 0 0] 27)) B).node rfl 6 hpl hmi nt mn mx (lo' := B) (Nat.le_refl _)
    rw [HM.out]
    first | exact hP | (simpa using hP)
  · go_wp2
    generalize (((w.alloc (.cells #[.int .i64 3, .int .u32 (pl : Int), .int .u32 (mi : Int), .bool nt, .int .i64 mn, .int .i64 mx, .slice ao N cap] 27)).alloc (.cells #[.int .i64 0, .int .u32 0, .int .u32 0, .bool false, .int .i64 0, .int .i64 0, .slice none 0 0] 27)).alloc (.cells #[.int .i64 3, .int .u32 (pl : Int), .int .u32 (mi : Int), .bool nt, .int .i64 mn, .int .i64 mx, .slice none 0 0] 27)) = w1 at hx hz hout hE hR ⊢
    clear hB
    refine wp_loop (fun a W => ∃ (i : Nat) (z : Int) (v : Value) (xs : List Value), i ≤ N ∧ z = (N : Int) - 1 - i ∧ a.defers = [] ∧ (a.tmps.size = 56 ∧ a.tmps.getD 1 undef = .pointer (some ⟨B, 0, none⟩) ∧ a.tmps.getD 2 undef = .pointer (some ⟨B + 1, 0, none⟩) ∧ a.tmps.getD 3 undef = .pointer (some ⟨B + 2, 0, none⟩) ∧ a.tmps.getD 4 undef = .int .i64 z) ∧ W.heap[B]? = some (.cells #[.int .i64 3, .int .u32 (pl : Int), .int .u32 (mi : Int), .bool nt, .int .i64 mn, .int .i64 mx, .slice ao N cap] 27 (0, 0)) ∧ W.heap[B + 1]? = some (.cells #[.int .i64 0, .int .u32 0, .int .u32 0, .bool false, .int .i64 0, .int .i64 0, .slice none 0 0] 27 (0, 0)) ∧ W.heap[B + 2]? = some (.cells #[.int .i64 3, .int .u32 (pl : Int), .int .u32 (mi : Int), .bool nt, .int .i64 mn, .int .i64 mx, v] 27 (0, 0)) ∧ MirRow 27 W (B + 3) v (((l.drop (N - i)).map mirP).reverse) xs ∧ Ext w W)
      (fun a _ => (intOf (a.tmps.getD 4 undef) + 1).toNat) ?_ ?_
    · exact ⟨0, (N : Int) - 1, .slice none 0 0, [], by omega, by omega, rfl, ⟨rfl, rfl, rfl, rfl, by go_num⟩, hx, hz, hout, by rw [Nat.sub_zero, List.drop_of_length_le (by rw [HN.out]; exact Nat.le_refl _)]; simpa using hR, hE⟩
    clear hx hz hout hE hR
    rintro ⟨t, _⟩ W ⟨i, z, v, xs, hi, hzz, hds, ⟨hsz, f1, f2, f3, f4⟩, hx, hz, hout, hR, hE⟩
    subst hds
    obtain ⟨u', hu⟩ := frame_fun hsz
    obtain ⟨u, rfl⟩ : ∃ x, x = u' := ⟨_, rfl⟩
    have hu' : t = #[u 0, u 1, u 2, u 3, u 4, u 5, u 6, u 7, u 8, u 9, u 10, u 11, u 12, u 13, u 14, u 15, u 16, u 17, u 18, u 19, u 20, u 21, u 22, u 23, u 24, u 25, u 26, u 27, u 28, u 29, u 30, u 31, u 32, u 33, u 34, u 35, u 36, u 37, u 38, u 39, u 40, u 41, u 42, u 43, u 44, u 45, u 46, u 47, u 48, u 49, u 50, u 51, u 52, u 53, u 54, u 55] := hu
    clear hu
    subst hu'
    change u 1 = _ at f1
    change u 2 = _ at f2
    change u 3 = _ at f3
    change u 4 = _ at f4
    rw [f1, f2, f3, f4]
    clear f1 f2 f3 f4 hsz
    have hBW : B + 2 < W.heap.size := (Array.getElem?_eq_some_iff.1 hout).1
    have hlen : (((l.drop (N - i)).map mirP).reverse).length = i := by rw [List.length_reverse, List.length_map, List.length_drop, HN.out]; omega
    have hO := hR.own
    rw [hlen] at hO
    obtain ⟨vo, vc, rfl⟩ := own_slice hO
    by_cases hiN : i < N
    · obtain ⟨m, rfl⟩ : ∃ m : Nat, z = m := ⟨z.toNat, by omega⟩
      have h1 : (m : Int) < (N : Int) := by omega
      have h0 : (0 : Int) ≤ (m : Int) := by omega
      have hil : m < l.length := by rw [HN.out]; omega
      have hnx : ((l.drop (N - (i + 1))).map mirP).reverse = ((l.drop (N - i)).map mirP).reverse ++ [mirP l[m]] := by
        rw [show N - (i + 1) = m by omega, List.drop_eq_getElem_cons hil, show m + 1 = N - i by omega, List.map_cons, List.reverse_cons]
      obtain ⟨QS, hQS⟩ : ∃ QS, ((l.drop (N - i)).map mirP).reverse = QS := ⟨_, rfl⟩
      rw [hQS] at hnx hR hlen
      have HLEN := Lib.hid hlen; have HZZ := Lib.hid hzz
      clear hlen hQS hzz
      obtain ⟨g, off, cs, rfl, hKg, hg, hra, hpa⟩ := HPS.out.get m hil
      rw [Nat.zero_add] at hra
      have hok := HOK.out l[m] (List.getElem_mem hil)
      have hih := IH.out l[m] (List.getElem_mem hil)
      obtain ⟨q, hq⟩ : ∃ q, l[m] = q := ⟨_, rfl⟩
      rw [hq] at hok hih hpa hnx
      obtain ⟨qk, qpl, qmi, qnt, qmn, qmx, ql⟩ := q
      have hpa' := hpa
      unfold PatAt at hpa
      obtain ⟨qao, qcap, hcs, _⟩ := hpa
      obtain ⟨Q, hQ⟩ : ∃ Q, ql.length = Q := ⟨_, rfl⟩
      rw [hQ] at hcs
      have hss : ∀ (D : World), Turn (fun b => B + 2 ≤ b) W D → D.cell? ⟨B, 6, none⟩ = some (.slice (some ⟨g, off, none⟩) N cap) ∧ D.cell? ⟨g, off + m * 7, none⟩ = some (.int .i64 qk) ∧ D.cell? ⟨g, off + m * 7 + 1, none⟩ = some (.int .u32 (qpl : Int)) ∧ D.cell? ⟨g, off + m * 7 + 2, none⟩ = some (.int .u32 (qmi : Int)) ∧ D.cell? ⟨g, off + m * 7 + 3, none⟩ = some (.bool qnt) ∧ D.cell? ⟨g, off + m * 7 + 4, none⟩ = some (.int .i64 qmn) ∧ D.cell? ⟨g, off + m * 7 + 5, none⟩ = some (.int .i64 qmx) ∧ D.cell? ⟨g, off + m * 7 + 6, none⟩ = some (.slice qao Q qcap) := by
        intro D hD
        obtain ⟨c0, c1, c2, c3, c4, c5, c6⟩ := patCells_at (rangeAt_turn hD (rangeAt_turn hE hra id) (by have := HB.out; omega)) hcs
        exact ⟨by simp [World.cell?, hD.heap hx (by omega)], c0, c1, c2, c3, c4, c5, c6⟩
      have hcall := fun (V : World) (hV : Ext W V) => hih K V cs (hpa'.ext (hE.trans hV)) hok
      rw [hcs] at hcall
      unfold patCells at hcall
      obtain ⟨mq, hmq⟩ : ∃ m, mirP (.node qk qpl qmi qnt qmn qmx ql) = m := ⟨_, rfl⟩
      rw [hmq] at hcall hnx
      have cV : W.cell? ⟨B + 2, 6, none⟩ = some (.slice vo i vc) := by rw [cell_of_row _ _ _ _ _ _ hout]; rfl
      have HC := Lib.hid hcall; have HO := Lib.hid hO; have HR := Lib.hid hR; have HX := Lib.hid hx; have HZ := Lib.hid hz; have HE := Lib.hid hE; have HNX := Lib.hid hnx; have HS := Lib.hid hss; have HOUT := Lib.hid hout
      have cX := fun j => cell_of_row _ _ j _ _ _ hx
      clear hcall hmq hq hO hR hz hE hpa' hok hih hra hcs hnx hQ hss hout hx
      go_wp2
      clear cX
      refine wp_region_held_drew (S := fun D => D.cell? ⟨B, 6, none⟩ = some (.slice (some ⟨g, off, none⟩) N cap) ∧ D.cell? ⟨g, off + m * 7, none⟩ = some (.int .i64 qk) ∧ D.cell? ⟨g, off + m * 7 + 1, none⟩ = some (.int .u32 (qpl : Int)) ∧ D.cell? ⟨g, off + m * 7 + 2, none⟩ = some (.int .u32 (qmi : Int)) ∧ D.cell? ⟨g, off + m * 7 + 3, none⟩ = some (.bool qnt) ∧ D.cell? ⟨g, off + m * 7 + 4, none⟩ = some (.int .i64 qmn) ∧ D.cell? ⟨g, off + m * 7 + 5, none⟩ = some (.int .i64 qmx) ∧ D.cell? ⟨g, off + m * 7 + 6, none⟩ = some (.slice qao Q qcap)) (by kernel_rfl) (HS.out _ (Turn.drew (Turn.refl _ W))) ?_
      intro hS0
      refine wpAnyH_take (i := 0) (v := ?_) rfl (by kernel_rfl) (by kernel_rfl) (by kernel_rfl) (fun _ _ _ h => h) (Or.inl ⟨by rfl, ?_⟩) (hS0) ?_
      rotate_left
      · intro w hSw; (try dsimp only at hSw); go_simp; try with_reducible rfl
      change wpAnyH _ _ _ _ _ _ _ (Act.put _ (some 44) _) _
      try simp only [Act.put, List.setIfInBounds_toArray, List.set_cons_zero, List.set_cons_succ]
      refine wpAnyH_take (i := 2) (v := ?_) rfl (by kernel_rfl) (by kernel_rfl) (by kernel_rfl) (fun _ _ _ h => h) (Or.inl ⟨by rfl, ?_⟩) (hS0) ?_
      rotate_left
      · intro w hSw; (try dsimp only at hSw); go_simp; try with_reducible rfl
      change wpAnyH _ _ _ _ _ _ _ (Act.put _ (some 46) _) _
      try simp only [Act.put, List.setIfInBounds_toArray, List.set_cons_zero, List.set_cons_succ]
      refine wpAnyH_take (i := 3) (v := ?_) rfl (by kernel_rfl) (by kernel_rfl) (by kernel_rfl) (fun _ _ _ h => h) (Or.inl ⟨by rfl, ?_⟩) (hS0) ?_
      rotate_left
      · intro w hSw; (try dsimp only at hSw); go_simp; try with_reducible rfl
      change wpAnyH _ _ _ _ _ _ _ (Act.put _ (some 47) _) _
      try simp only [Act.put, List.setIfInBounds_toArray, List.set_cons_zero, List.set_cons_succ]
      refine wpAnyH_take (i := 4) (v := ?_) rfl (by kernel_rfl) (by kernel_rfl) (by kernel_rfl) (fun _ _ _ h => h) (Or.inl ⟨by rfl, ?_⟩) (hS0) ?_
      rotate_left
      · intro w hSw; (try dsimp only at hSw); go_simp; try with_reducible rfl
      change wpAnyH _ _ _ _ _ _ _ (Act.put _ (some 48) _) _
      try simp only [Act.put, List.setIfInBounds_toArray, List.set_cons_zero, List.set_cons_succ]
      refine wpAnyH_take (i := 5) (v := ?_) rfl (by kernel_rfl) (by kernel_rfl) (by kernel_rfl) (fun _ _ _ h => h) (Or.inl ⟨by rfl, ?_⟩) (hS0) ?_
      rotate_left
      · intro w hSw; (try dsimp only at hSw); go_simp; try with_reducible rfl
      change wpAnyH _ _ _ _ _ _ _ (Act.put _ (some 49) _) _
      try simp only [Act.put, List.setIfInBounds_toArray, List.set_cons_zero, List.set_cons_succ]
      refine wpAnyH_take (i := 6) (v := ?_) rfl (by kernel_rfl) (by kernel_rfl) (by kernel_rfl) (fun _ _ _ h => h) (Or.inl ⟨by rfl, ?_⟩) (hS0) ?_
      rotate_left
      · intro w hSw; (try dsimp only at hSw); go_simp; try with_reducible rfl
      change wpAnyH _ _ _ _ _ _ _ (Act.put _ (some 50) _) _
      try simp only [Act.put, List.setIfInBounds_toArray, List.set_cons_zero, List.set_cons_succ]
      refine wpAnyH_ready (rs := [1, 7]) (by kernel_rfl) (by simp) ?_
      refine AllReadyH.cons rfl (fun K hK => ?_) (AllReadyH.cons rfl (fun K hK => ?_) (AllReadyH.nil))
      · (try rw [if_pos (show Region.wanted _ _ = true from rfl)])
        go_simp
        refine hK.out _ _ (hS0) (fun _ => ?_)
        clear hK K
        try simp only [Act.put, List.setIfInBounds_toArray, List.set_cons_zero, List.set_cons_succ]
        refine wpAnyH_ready (rs := [7]) (by kernel_rfl) (by simp) ?_
        refine AllReadyH.cons rfl (fun K hK => ?_) (AllReadyH.nil)
        (try rw [if_pos (show Region.wanted _ _ = true from rfl)])
        go_simp
        refine (HC.out _ (Turn.drew (Turn.refl _ W))).mono ?_
        rintro e W2 ⟨ds, rfl, hpx, hE2⟩
        obtain ⟨ek, epl, emi, ent, emn, emx, eao, en, ecap, rfl⟩ := sep_cells hpx
        have hc1 := hpx.cells.2
        have hE02 : Ext W W2 := Turn.trans (Turn.drew (Turn.refl _ W)) hE2
        have HPX := Lib.hid hpx; have HC1 := Lib.hid hc1
        clear hpx hc1 hE2
        have cV2 := hE02.cell_some cV id
        unfold patCells
        refine hK.out _ _ (HS.out _ (Ext.of hE02)) (fun hS1 => ?_)
        clear hK K
        try simp only [Act.put, List.setIfInBounds_toArray, List.set_cons_zero, List.set_cons_succ]
        refine wpAnyH_ready (rs := [8]) (by kernel_rfl) (by simp) ?_
        refine AllReadyH.cons rfl (fun K hK => ?_) (AllReadyH.nil)
        (try rw [if_pos (show Region.wanted _ _ = true from rfl)])
        go_simp
        refine hK.out _ _ (HS.out _ (Ext.of (hE02.alloc _))) (fun hS2 => ?_)
        clear hK K
        try simp only [Act.put, List.setIfInBounds_toArray, List.set_cons_zero, List.set_cons_succ]
        have hA3 : Ext W2 (W2.alloc (.cells #[.int .i64 ek, .int .u32 (epl : Int), .int .u32 (emi : Int), .bool ent, .int .i64 emn, .int .i64 emx, .slice eao en ecap] 27)) := (Turn.refl _ W2).alloc _
        have hsz3 : (W2.alloc (.cells #[.int .i64 ek, .int .u32 (epl : Int), .int .u32 (emi : Int), .bool ent, .int .i64 emn, .int .i64 emx, .slice eao en ecap] 27)).heap.size = W2.heap.size + 1 := by simp
        have hO2 := own_ext HO.out (hE02.trans hA3)
        have hs2 := hE02.size
        refine wpAnyH_ready (rs := [9]) (by kernel_rfl) (by simp) ?_
        refine AllReadyH.cons rfl (fun K hK => ?_) (AllReadyH.nil)
        (try rw [if_pos (show Region.wanted _ _ = true from rfl)])
        refine append_oper (.tmp 45) (.tmp 52) 25 rfl (B + 3) 27 _ 7 64 Tryd.underlying25 Tryd.infoPat rfl (by decide) _ _ _ rfl hO2 ⟨W2.heap.size, 0, none⟩ 1 1 (patCells ek epl emi ent emn emx eao en ecap) rfl rfl new_cells ?c2 ?c3 ?c4 ?c5 ?_
        case c2 => exact HC1.out
        case c3 => unfold maxLen; omega
        case c4 => omega
        case c5 => rw [hsz3]; omega
        intro ao' c' W3 hO3 hT3 hnb
        generalize (W2.alloc (.cells #[.int .i64 ek, .int .u32 (epl : Int), .int .u32 (emi : Int), .bool ent, .int .i64 emn, .int .i64 emx, .slice eao en ecap] 27)) = WB at hT3 hA3 hsz3 hnb
        have hlt : ∀ b, (Value.slice vo i vc).ownBlock = some b → B + 3 ≤ b := fun b hb => (HO.out.lt b hb).1
        have hR3 : MirRow 27 W3 (B + 3) (.slice ao' (i + 1) c') (QS ++ [mq]) (xs ++ patCells ek epl emi ent emn emx eao en ecap) := by
          refine HR.out.push (hE02.trans hA3) (m := W.heap.size) (Nat.le_refl _) ?_ rfl (by omega) hT3 (by rw [HLEN.out]; exact hO3) (hnb.imp id fun e => ⟨_, e, by omega⟩)
          exact (HPX.out.keep hA3 fun _ _ h => h).mono fun b hb => ⟨hb.1, by rw [hsz3]; omega⟩
        have hTW : Turn (fun b => B + 2 ≤ b) W W3 := (Ext.of (hE02.trans hA3)).trans (hT3.mono fun b _ e => by have := hlt _ e; omega)
        have hx3 := hTW.heap HX.out (by omega)
        have hz3 := hTW.heap HZ.out (by omega)
        have ho3 := hT3.heap (Ext.keep (hE02.trans hA3) HOUT.out) (fun e => by have := hlt _ e; omega)
        have hE3 : Ext w W3 := HE.out.after hTW (fun b' h1 e => by have := HB.out; omega)
        clear hlt hnb hT3 hO3 hO2 hA3 cV2
        refine hK.out _ _ (HS.out _ hTW) (fun hS3 => ?_)
        clear hK K
        try simp only [Act.put, List.setIfInBounds_toArray]
        refine wpAnyH_take (i := 10) (v := ?_) rfl (by kernel_rfl) (by kernel_rfl) (by kernel_rfl) (fun _ _ _ h => h) (Or.inl ⟨by rfl, ?_⟩) (hS3) ?_
        rotate_left
        · intro w hSw; (try dsimp only at hSw); go_simp; try with_reducible rfl
        change wpAnyH _ _ _ _ _ _ _ (Act.put _ (some 54) _) _
        try simp only [Act.put]
        have cO := fun j => cell_of_row _ _ j _ _ _ ho3
        have fO := fun j => frozen_of_row _ _ j _ _ ho3
        refine wpAnyH_ready (rs := [11]) (by kernel_rfl) (by simp) ?_
        refine AllReadyH.cons rfl (fun K hK => ?_) (AllReadyH.nil)
        (try rw [if_pos (show Region.wanted _ _ = true from rfl)])
        go_simp
        have hT9 := Turn.set1 W3 (B + 2) 6 (.slice ao' (i + 1) c')
        have ho9 := set_here (j := 6) (v := .slice ao' (i + 1) c') ho3
        change (W3.setCell ⟨B + 2, 6, none⟩ (.slice ao' (i + 1) c')).heap[B + 2]? = some (.cells #[.int .i64 3, .int .u32 (pl : Int), .int .u32 (mi : Int), .bool nt, .int .i64 mn, .int .i64 mx, .slice ao' (i + 1) c'] 27 (0, 0)) at ho9
        have hR9 := hR3.ext hT9 (fun b h1 _ e => by omega)
        rw [← HNX.out] at hR9
        have hx9 := hT9.heap hx3 (by omega)
        have hz9 := hT9.heap hz3 (by omega)
        have hE9 : Ext w _ := hE3.after hT9 (fun b h1 e => by have := HB.out; omega)
        have hTW9 : Turn (fun b => B + 2 ≤ b) W _ := hTW.trans (hT9.mono fun b _ e => by omega)
        refine hK.out _ _ (HS.out _ hTW9) (fun hS4 => ?_)
        clear hK K
        have HR9 := Lib.hid hR9; have HX9 := Lib.hid hx9; have HZ9 := Lib.hid hz9; have HO9 := Lib.hid ho9; have HE9 := Lib.hid hE9
        clear hR9 hx9 hz9 ho9 hE9 hTW9 hT9 hTW hR3 hx3 hz3 ho3 hE3 cO fO hS4 hS3 hsz3 hs2 hE02
        refine wpAnyH_done (by kernel_rfl) ?_ _
        try simp only [Act.put]
        go_wp2
        have hzz := HZZ.out
        exact ⟨⟨i + 1, (m : Int) - 1, _, _, by omega, by omega, by first | rfl | trivial, ⟨rfl, rfl, rfl, rfl, rfl⟩, HX9.out, HZ9.out, HO9.out, HR9.out, HE9.out⟩, by first | (simp [intOf]; done) | (simp [intOf]; omega)⟩
      · (try rw [if_pos (show Region.wanted _ _ = true from rfl)])
        go_simp
        refine (HC.out _ (Turn.drew (Turn.refl _ W))).mono ?_
        rintro e W2 ⟨ds, rfl, hpx, hE2⟩
        obtain ⟨ek, epl, emi, ent, emn, emx, eao, en, ecap, rfl⟩ := sep_cells hpx
        have hc1 := hpx.cells.2
        have hE02 : Ext W W2 := Turn.trans (Turn.drew (Turn.refl _ W)) hE2
        have HPX := Lib.hid hpx; have HC1 := Lib.hid hc1
        clear hpx hc1 hE2
        have cV2 := hE02.cell_some cV id
        unfold patCells
        refine hK.out _ _ (HS.out _ (Ext.of hE02)) (fun hS1 => ?_)
        clear hK K
        try simp only [Act.put, List.setIfInBounds_toArray, List.set_cons_zero, List.set_cons_succ]
        refine wpAnyH_ready (rs := [1, 8]) (by kernel_rfl) (by simp) ?_
        refine AllReadyH.cons rfl (fun K hK => ?_) (AllReadyH.cons rfl (fun K hK => ?_) (AllReadyH.nil))
        · (try rw [if_pos (show Region.wanted _ _ = true from rfl)])
          go_simp
          refine hK.out _ _ (hS1) (fun _ => ?_)
          clear hK K
          try simp only [Act.put, List.setIfInBounds_toArray, List.set_cons_zero, List.set_cons_succ]
          refine wpAnyH_ready (rs := [8]) (by kernel_rfl) (by simp) ?_
          refine AllReadyH.cons rfl (fun K hK => ?_) (AllReadyH.nil)
          (try rw [if_pos (show Region.wanted _ _ = true from rfl)])
          go_simp
          refine hK.out _ _ (HS.out _ (Ext.of (hE02.alloc _))) (fun hS2 => ?_)
          clear hK K
          try simp only [Act.put, List.setIfInBounds_toArray, List.set_cons_zero, List.set_cons_succ]
          have hA3 : Ext W2 (W2.alloc (.cells #[.int .i64 ek, .int .u32 (epl : Int), .int .u32 (emi : Int), .bool ent, .int .i64 emn, .int .i64 emx, .slice eao en ecap] 27)) := (Turn.refl _ W2).alloc _
          have hsz3 : (W2.alloc (.cells #[.int .i64 ek, .int .u32 (epl : Int), .int .u32 (emi : Int), .bool ent, .int .i64 emn, .int .i64 emx, .slice eao en ecap] 27)).heap.size = W2.heap.size + 1 := by simp
          have hO2 := own_ext HO.out (hE02.trans hA3)
          have hs2 := hE02.size
          refine wpAnyH_ready (rs := [9]) (by kernel_rfl) (by simp) ?_
          refine AllReadyH.cons rfl (fun K hK => ?_) (AllReadyH.nil)
          (try rw [if_pos (show Region.wanted _ _ = true from rfl)])
          refine append_oper (.tmp 45) (.tmp 52) 25 rfl (B + 3) 27 _ 7 64 Tryd.underlying25 Tryd.infoPat rfl (by decide) _ _ _ rfl hO2 ⟨W2.heap.size, 0, none⟩ 1 1 (patCells ek epl emi ent emn emx eao en ecap) rfl rfl new_cells ?c2 ?c3 ?c4 ?c5 ?_
          case c2 => exact HC1.out
          case c3 => unfold maxLen; omega
          case c4 => omega
          case c5 => rw [hsz3]; omega
          intro ao' c' W3 hO3 hT3 hnb
          generalize (W2.alloc (.cells #[.int .i64 ek, .int .u32 (epl : Int), .int .u32 (emi : Int), .bool ent, .int .i64 emn, .int .i64 emx, .slice eao en ecap] 27)) = WB at hT3 hA3 hsz3 hnb
          have hlt : ∀ b, (Value.slice vo i vc).ownBlock = some b → B + 3 ≤ b := fun b hb => (HO.out.lt b hb).1
          have hR3 : MirRow 27 W3 (B + 3) (.slice ao' (i + 1) c') (QS ++ [mq]) (xs ++ patCells ek epl emi ent emn emx eao en ecap) := by
            refine HR.out.push (hE02.trans hA3) (m := W.heap.size) (Nat.le_refl _) ?_ rfl (by omega) hT3 (by rw [HLEN.out]; exact hO3) (hnb.imp id fun e => ⟨_, e, by omega⟩)
            exact (HPX.out.keep hA3 fun _ _ h => h).mono fun b hb => ⟨hb.1, by rw [hsz3]; omega⟩
          have hTW : Turn (fun b => B + 2 ≤ b) W W3 := (Ext.of (hE02.trans hA3)).trans (hT3.mono fun b _ e => by have := hlt _ e; omega)
          have hx3 := hTW.heap HX.out (by omega)
          have hz3 := hTW.heap HZ.out (by omega)
          have ho3 := hT3.heap (Ext.keep (hE02.trans hA3) HOUT.out) (fun e => by have := hlt _ e; omega)
          have hE3 : Ext w W3 := HE.out.after hTW (fun b' h1 e => by have := HB.out; omega)
          clear hlt hnb hT3 hO3 hO2 hA3 cV2
          refine hK.out _ _ (HS.out _ hTW) (fun hS3 => ?_)
          clear hK K
          try simp only [Act.put, List.setIfInBounds_toArray]
          refine wpAnyH_take (i := 10) (v := ?_) rfl (by kernel_rfl) (by kernel_rfl) (by kernel_rfl) (fun _ _ _ h => h) (Or.inl ⟨by rfl, ?_⟩) (hS3) ?_
          rotate_left
          · intro w hSw; (try dsimp only at hSw); go_simp; try with_reducible rfl
          change wpAnyH _ _ _ _ _ _ _ (Act.put _ (some 54) _) _
          try simp only [Act.put]
          have cO := fun j => cell_of_row _ _ j _ _ _ ho3
          have fO := fun j => frozen_of_row _ _ j _ _ ho3
          refine wpAnyH_ready (rs := [11]) (by kernel_rfl) (by simp) ?_
          refine AllReadyH.cons rfl (fun K hK => ?_) (AllReadyH.nil)
          (try rw [if_pos (show Region.wanted _ _ = true from rfl)])
          go_simp
          have hT9 := Turn.set1 W3 (B + 2) 6 (.slice ao' (i + 1) c')
          have ho9 := set_here (j := 6) (v := .slice ao' (i + 1) c') ho3
          change (W3.setCell ⟨B + 2, 6, none⟩ (.slice ao' (i + 1) c')).heap[B + 2]? = some (.cells #[.int .i64 3, .int .u32 (pl : Int), .int .u32 (mi : Int), .bool nt, .int .i64 mn, .int .i64 mx, .slice ao' (i + 1) c'] 27 (0, 0)) at ho9
          have hR9 := hR3.ext hT9 (fun b h1 _ e => by omega)
          rw [← HNX.out] at hR9
          have hx9 := hT9.heap hx3 (by omega)
          have hz9 := hT9.heap hz3 (by omega)
          have hE9 : Ext w _ := hE3.after hT9 (fun b h1 e => by have := HB.out; omega)
          have hTW9 : Turn (fun b => B + 2 ≤ b) W _ := hTW.trans (hT9.mono fun b _ e => by omega)
          refine hK.out _ _ (HS.out _ hTW9) (fun hS4 => ?_)
          clear hK K
          have HR9 := Lib.hid hR9; have HX9 := Lib.hid hx9; have HZ9 := Lib.hid hz9; have HO9 := Lib.hid ho9; have HE9 := Lib.hid hE9
          clear hR9 hx9 hz9 ho9 hE9 hTW9 hT9 hTW hR3 hx3 hz3 ho3 hE3 cO fO hS4 hS3 hsz3 hs2 hE02
          refine wpAnyH_done (by kernel_rfl) ?_ _
          try simp only [Act.put]
          go_wp2
          have hzz := HZZ.out
          exact ⟨⟨i + 1, (m : Int) - 1, _, _, by omega, by omega, by first | rfl | trivial, ⟨rfl, rfl, rfl, rfl, rfl⟩, HX9.out, HZ9.out, HO9.out, HR9.out, HE9.out⟩, by first | (simp [intOf]; done) | (simp [intOf]; omega)⟩
        · (try rw [if_pos (show Region.wanted _ _ = true from rfl)])
          go_simp
          refine hK.out _ _ (HS.out _ (Ext.of (hE02.alloc _))) (fun hS2 => ?_)
          clear hK K
          try simp only [Act.put, List.setIfInBounds_toArray, List.set_cons_zero, List.set_cons_succ]
          have cV3 : (W2.alloc (.cells #[.int .i64 ek, .int .u32 (epl : Int), .int .u32 (emi : Int), .bool ent, .int .i64 emn, .int .i64 emx, .slice eao en ecap] 27)).cell? ⟨B + 2, 6, none⟩ = some (.slice vo i vc) := ((Turn.refl (fun _ => False) W2).alloc _).cell_some cV2 id
          refine wpAnyH_ready (rs := [1]) (by kernel_rfl) (by simp) ?_
          refine AllReadyH.cons rfl (fun K hK => ?_) (AllReadyH.nil)
          (try rw [if_pos (show Region.wanted _ _ = true from rfl)])
          go_simp
          refine hK.out _ _ (hS2) (fun _ => ?_)
          clear hK K
          try simp only [Act.put, List.setIfInBounds_toArray, List.set_cons_zero, List.set_cons_succ]
          clear cV3
          have hA3 : Ext W2 (W2.alloc (.cells #[.int .i64 ek, .int .u32 (epl : Int), .int .u32 (emi : Int), .bool ent, .int .i64 emn, .int .i64 emx, .slice eao en ecap] 27)) := (Turn.refl _ W2).alloc _
          have hsz3 : (W2.alloc (.cells #[.int .i64 ek, .int .u32 (epl : Int), .int .u32 (emi : Int), .bool ent, .int .i64 emn, .int .i64 emx, .slice eao en ecap] 27)).heap.size = W2.heap.size + 1 := by simp
          have hO2 := own_ext HO.out (hE02.trans hA3)
          have hs2 := hE02.size
          refine wpAnyH_ready (rs := [9]) (by kernel_rfl) (by simp) ?_
          refine AllReadyH.cons rfl (fun K hK => ?_) (AllReadyH.nil)
          (try rw [if_pos (show Region.wanted _ _ = true from rfl)])
          refine append_oper (.tmp 45) (.tmp 52) 25 rfl (B + 3) 27 _ 7 64 Tryd.underlying25 Tryd.infoPat rfl (by decide) _ _ _ rfl hO2 ⟨W2.heap.size, 0, none⟩ 1 1 (patCells ek epl emi ent emn emx eao en ecap) rfl rfl new_cells ?c2 ?c3 ?c4 ?c5 ?_
          case c2 => exact HC1.out
          case c3 => unfold maxLen; omega
          case c4 => omega
          case c5 => rw [hsz3]; omega
          intro ao' c' W3 hO3 hT3 hnb
          generalize (W2.alloc (.cells #[.int .i64 ek, .int .u32 (epl : Int), .int .u32 (emi : Int), .bool ent, .int .i64 emn, .int .i64 emx, .slice eao en ecap] 27)) = WB at hT3 hA3 hsz3 hnb
          have hlt : ∀ b, (Value.slice vo i vc).ownBlock = some b → B + 3 ≤ b := fun b hb => (HO.out.lt b hb).1
          have hR3 : MirRow 27 W3 (B + 3) (.slice ao' (i + 1) c') (QS ++ [mq]) (xs ++ patCells ek epl emi ent emn emx eao en ecap) := by
            refine HR.out.push (hE02.trans hA3) (m := W.heap.size) (Nat.le_refl _) ?_ rfl (by omega) hT3 (by rw [HLEN.out]; exact hO3) (hnb.imp id fun e => ⟨_, e, by omega⟩)
            exact (HPX.out.keep hA3 fun _ _ h => h).mono fun b hb => ⟨hb.1, by rw [hsz3]; omega⟩
          have hTW : Turn (fun b => B + 2 ≤ b) W W3 := (Ext.of (hE02.trans hA3)).trans (hT3.mono fun b _ e => by have := hlt _ e; omega)
          have hx3 := hTW.heap HX.out (by omega)
          have hz3 := hTW.heap HZ.out (by omega)
          have ho3 := hT3.heap (Ext.keep (hE02.trans hA3) HOUT.out) (fun e => by have := hlt _ e; omega)
          have hE3 : Ext w W3 := HE.out.after hTW (fun b' h1 e => by have := HB.out; omega)
          clear hlt hnb hT3 hO3 hO2 hA3 cV2
          refine hK.out _ _ (HS.out _ hTW) (fun hS3 => ?_)
          clear hK K
          try simp only [Act.put, List.setIfInBounds_toArray]
          refine wpAnyH_take (i := 10) (v := ?_) rfl (by kernel_rfl) (by kernel_rfl) (by kernel_rfl) (fun _ _ _ h => h) (Or.inl ⟨by rfl, ?_⟩) (hS3) ?_
          rotate_left
          · intro w hSw; (try dsimp only at hSw); go_simp; try with_reducible rfl
          change wpAnyH _ _ _ _ _ _ _ (Act.put _ (some 54) _) _
          try simp only [Act.put]
          have cO := fun j => cell_of_row _ _ j _ _ _ ho3
          have fO := fun j => frozen_of_row _ _ j _ _ ho3
          refine wpAnyH_ready (rs := [11]) (by kernel_rfl) (by simp) ?_
          refine AllReadyH.cons rfl (fun K hK => ?_) (AllReadyH.nil)
          (try rw [if_pos (show Region.wanted _ _ = true from rfl)])
          go_simp
          have hT9 := Turn.set1 W3 (B + 2) 6 (.slice ao' (i + 1) c')
          have ho9 := set_here (j := 6) (v := .slice ao' (i + 1) c') ho3
          change (W3.setCell ⟨B + 2, 6, none⟩ (.slice ao' (i + 1) c')).heap[B + 2]? = some (.cells #[.int .i64 3, .int .u32 (pl : Int), .int .u32 (mi : Int), .bool nt, .int .i64 mn, .int .i64 mx, .slice ao' (i + 1) c'] 27 (0, 0)) at ho9
          have hR9 := hR3.ext hT9 (fun b h1 _ e => by omega)
          rw [← HNX.out] at hR9
          have hx9 := hT9.heap hx3 (by omega)
          have hz9 := hT9.heap hz3 (by omega)
          have hE9 : Ext w _ := hE3.after hT9 (fun b h1 e => by have := HB.out; omega)
          have hTW9 : Turn (fun b => B + 2 ≤ b) W _ := hTW.trans (hT9.mono fun b _ e => by omega)
          refine hK.out _ _ (HS.out _ hTW9) (fun hS4 => ?_)
          clear hK K
          have HR9 := Lib.hid hR9; have HX9 := Lib.hid hx9; have HZ9 := Lib.hid hz9; have HO9 := Lib.hid ho9; have HE9 := Lib.hid hE9
          clear hR9 hx9 hz9 ho9 hE9 hTW9 hT9 hTW hR3 hx3 hz3 ho3 hE3 cO fO hS4 hS3 hsz3 hs2 hE02
          refine wpAnyH_done (by kernel_rfl) ?_ _
          try simp only [Act.put]
          go_wp2
          have hzz := HZZ.out
          exact ⟨⟨i + 1, (m : Int) - 1, _, _, by omega, by omega, by first | rfl | trivial, ⟨rfl, rfl, rfl, rfl, rfl⟩, HX9.out, HZ9.out, HO9.out, HR9.out, HE9.out⟩, by first | (simp [intOf]; done) | (simp [intOf]; omega)⟩
    · obtain rfl : N = i := by omega
      have h1 : ¬ (0 : Int) ≤ z := by omega
      rw [Nat.sub_self, List.drop_zero] at hR
      have cO := fun j => cell_of_row _ _ j _ _ _ hout
      have HZ := Lib.hid hz; have HR := Lib.hid hR; have HE := Lib.hid hE
      clear hx hz hout hR hE hO hlen hzz
      go_wp2_with (refine wpList_store_row rfl 27 (.tmp 2) (.tmp 55) rfl (B + 1) #[.int .i64 3, .int .u32 (pl : Int), .int .u32 (mi : Int), .bool nt, .int .i64 mn, .int .i64 mx, .slice vo N vc] rfl rfl _ _ HZ.out (by kernel_rfl) rfl (all_oneCell_toArray patCells_one) ?_)
      have hT9 := Turn.setRow (W) (B + 1) #[.int .i64 3, .int .u32 (pl : Int), .int .u32 (mi : Int), .bool nt, .int .i64 mn, .int .i64 mx, .slice vo N vc]
      have hR9 := HR.out.ext hT9 (fun b h1 _ e => by omega)
      refine bodyPost_ret (results_cell_row rfl _ _ (B + 1) _ #[.int .i64 3, .int .u32 (pl : Int), .int .u32 (mi : Int), .bool nt, .int .i64 mn, .int .i64 mx, .slice vo N vc] _ _ rfl (setRow_heap _ _ _ _ _ _ HZ.out) Tryd.underlying27 rfl (by kernel_rfl)) rfl ?_
      refine ⟨patCells 3 pl mi nt mn mx vo N vc, rfl, ?_, ?_⟩
      · have hn : ((l.map mirP).reverse).length = N := by simp [HN.out]
        have hP := hR9.node hn 3 hpl hmi nt mn mx (lo' := B) (by omega)
        rw [HM.out, HB.out]
        first | exact hP | (simpa using hP)
      · exact HE.out.after hT9 (fun b h1 e => by have := HB.out; omega)
  · go_wp2
    generalize (((w.alloc (.cells #[.int .i64 4, .int .u32 (pl : Int), .int .u32 (mi : Int), .bool nt, .int .i64 mn, .int .i64 mx, .slice ao N cap] 27)).alloc (.cells #[.int .i64 0, .int .u32 0, .int .u32 0, .bool false, .int .i64 0, .int .i64 0, .slice none 0 0] 27)).alloc (.cells #[.int .i64 4, .int .u32 (pl : Int), .int .u32 (mi : Int), .bool nt, .int .i64 mn, .int .i64 mx, .slice none 0 0] 27)) = w1 at hx hz hout hE hR ⊢
    clear hB
    refine wp_loop (fun a W => ∃ (i : Nat) (v : Value) (xs : List Value), i ≤ N ∧ a.defers = [] ∧ (a.tmps.size = 56 ∧ a.tmps.getD 1 undef = .pointer (some ⟨B, 0, none⟩) ∧ a.tmps.getD 2 undef = .pointer (some ⟨B + 1, 0, none⟩) ∧ a.tmps.getD 3 undef = .pointer (some ⟨B + 2, 0, none⟩) ∧ a.tmps.getD 5 undef = .int .i64 i) ∧ W.heap[B]? = some (.cells #[.int .i64 4, .int .u32 (pl : Int), .int .u32 (mi : Int), .bool nt, .int .i64 mn, .int .i64 mx, .slice ao N cap] 27 (0, 0)) ∧ W.heap[B + 1]? = some (.cells #[.int .i64 0, .int .u32 0, .int .u32 0, .bool false, .int .i64 0, .int .i64 0, .slice none 0 0] 27 (0, 0)) ∧ W.heap[B + 2]? = some (.cells #[.int .i64 4, .int .u32 (pl : Int), .int .u32 (mi : Int), .bool nt, .int .i64 mn, .int .i64 mx, v] 27 (0, 0)) ∧ MirRow 27 W (B + 3) v ((l.take i).map mirP) xs ∧ Ext w W)
      (fun a _ => N - (intOf (a.tmps.getD 5 undef)).toNat) ?_ ?_
    · exact ⟨0, .slice none 0 0, [], by omega, rfl, ⟨rfl, rfl, rfl, rfl, rfl⟩, hx, hz, hout, by simpa using hR, hE⟩
    clear hx hz hout hE hR
    rintro ⟨t, _⟩ W ⟨i, v, xs, hi, hds, ⟨hsz, f1, f2, f3, f5⟩, hx, hz, hout, hR, hE⟩
    subst hds
    obtain ⟨u', hu⟩ := frame_fun hsz
    obtain ⟨u, rfl⟩ : ∃ x, x = u' := ⟨_, rfl⟩
    have hu' : t = #[u 0, u 1, u 2, u 3, u 4, u 5, u 6, u 7, u 8, u 9, u 10, u 11, u 12, u 13, u 14, u 15, u 16, u 17, u 18, u 19, u 20, u 21, u 22, u 23, u 24, u 25, u 26, u 27, u 28, u 29, u 30, u 31, u 32, u 33, u 34, u 35, u 36, u 37, u 38, u 39, u 40, u 41, u 42, u 43, u 44, u 45, u 46, u 47, u 48, u 49, u 50, u 51, u 52, u 53, u 54, u 55] := hu
    clear hu
    subst hu'
    change u 1 = _ at f1
    change u 2 = _ at f2
    change u 3 = _ at f3
    change u 5 = _ at f5
    rw [f1, f2, f3, f5]
    clear f1 f2 f3 f5 hsz
    have hBW : B + 2 < W.heap.size := (Array.getElem?_eq_some_iff.1 hout).1
    have hlen : ((l.take i).map mirP).length = i := by rw [List.length_map, List.length_take, HN.out]; omega
    have hO := hR.own
    rw [hlen] at hO
    obtain ⟨vo, vc, rfl⟩ := own_slice hO
    by_cases hiN : i < N
    · have h1 : (i : Int) < (N : Int) := by omega
      have h0 : (0 : Int) ≤ (i : Int) := by omega
      have hil : i < l.length := by rw [HN.out]; exact hiN
      have hnx : (l.take (i + 1)).map mirP = (l.take i).map mirP ++ [mirP l[i]] := by rw [List.take_succ_eq_append_getElem hil, List.map_append]; rfl
      obtain ⟨QS, hQS⟩ : ∃ QS, (l.take i).map mirP = QS := ⟨_, rfl⟩
      rw [hQS] at hnx hR hlen
      have HLEN := Lib.hid hlen
      clear hlen hQS
      obtain ⟨g, off, cs, rfl, hKg, hg, hra, hpa⟩ := HPS.out.get i hil
      rw [Nat.zero_add] at hra
      have hok := HOK.out l[i] (List.getElem_mem hil)
      have hih := IH.out l[i] (List.getElem_mem hil)
      obtain ⟨q, hq⟩ : ∃ q, l[i] = q := ⟨_, rfl⟩
      rw [hq] at hok hih hpa hnx
      obtain ⟨qk, qpl, qmi, qnt, qmn, qmx, ql⟩ := q
      have hpa' := hpa
      unfold PatAt at hpa
      obtain ⟨qao, qcap, hcs, _⟩ := hpa
      obtain ⟨Q, hQ⟩ : ∃ Q, ql.length = Q := ⟨_, rfl⟩
      rw [hQ] at hcs
      have hss : ∀ (D : World), Turn (fun b => B + 2 ≤ b) W D → D.cell? ⟨B, 6, none⟩ = some (.slice (some ⟨g, off, none⟩) N cap) ∧ D.cell? ⟨g, off + i * 7, none⟩ = some (.int .i64 qk) ∧ D.cell? ⟨g, off + i * 7 + 1, none⟩ = some (.int .u32 (qpl : Int)) ∧ D.cell? ⟨g, off + i * 7 + 2, none⟩ = some (.int .u32 (qmi : Int)) ∧ D.cell? ⟨g, off + i * 7 + 3, none⟩ = some (.bool qnt) ∧ D.cell? ⟨g, off + i * 7 + 4, none⟩ = some (.int .i64 qmn) ∧ D.cell? ⟨g, off + i * 7 + 5, none⟩ = some (.int .i64 qmx) ∧ D.cell? ⟨g, off + i * 7 + 6, none⟩ = some (.slice qao Q qcap) := by
        intro D hD
        obtain ⟨c0, c1, c2, c3, c4, c5, c6⟩ := patCells_at (rangeAt_turn hD (rangeAt_turn hE hra id) (by have := HB.out; omega)) hcs
        exact ⟨by simp [World.cell?, hD.heap hx (by omega)], c0, c1, c2, c3, c4, c5, c6⟩
      have hcall := fun (V : World) (hV : Ext W V) => hih K V cs (hpa'.ext (hE.trans hV)) hok
      rw [hcs] at hcall
      unfold patCells at hcall
      obtain ⟨mq, hmq⟩ : ∃ m, mirP (.node qk qpl qmi qnt qmn qmx ql) = m := ⟨_, rfl⟩
      rw [hmq] at hcall hnx
      have cV : W.cell? ⟨B + 2, 6, none⟩ = some (.slice vo i vc) := by rw [cell_of_row _ _ _ _ _ _ hout]; rfl
      have HC := Lib.hid hcall; have HO := Lib.hid hO; have HR := Lib.hid hR; have HX := Lib.hid hx; have HZ := Lib.hid hz; have HE := Lib.hid hE; have HNX := Lib.hid hnx; have HS := Lib.hid hss; have HOUT := Lib.hid hout
      have cX := fun j => cell_of_row _ _ j _ _ _ hx
      clear hcall hmq hq hO hR hz hE hpa' hok hih hra hcs hnx hQ hss hout hx
      go_wp2
      clear cX
      refine wp_region_held_drew (S := fun D => D.cell? ⟨B, 6, none⟩ = some (.slice (some ⟨g, off, none⟩) N cap) ∧ D.cell? ⟨g, off + i * 7, none⟩ = some (.int .i64 qk) ∧ D.cell? ⟨g, off + i * 7 + 1, none⟩ = some (.int .u32 (qpl : Int)) ∧ D.cell? ⟨g, off + i * 7 + 2, none⟩ = some (.int .u32 (qmi : Int)) ∧ D.cell? ⟨g, off + i * 7 + 3, none⟩ = some (.bool qnt) ∧ D.cell? ⟨g, off + i * 7 + 4, none⟩ = some (.int .i64 qmn) ∧ D.cell? ⟨g, off + i * 7 + 5, none⟩ = some (.int .i64 qmx) ∧ D.cell? ⟨g, off + i * 7 + 6, none⟩ = some (.slice qao Q qcap)) (by kernel_rfl) (HS.out _ (Turn.drew (Turn.refl _ W))) ?_
      intro hS0
      refine wpAnyH_take (i := 0) (v := ?_) rfl (by kernel_rfl) (by kernel_rfl) (by kernel_rfl) (fun _ _ _ h => h) (Or.inl ⟨by rfl, ?_⟩) (hS0) ?_
      rotate_left
      · intro w hSw; (try dsimp only at hSw); go_simp; try with_reducible rfl
      change wpAnyH _ _ _ _ _ _ _ (Act.put _ (some 17) _) _
      try simp only [Act.put, List.setIfInBounds_toArray, List.set_cons_zero, List.set_cons_succ]
      refine wpAnyH_take (i := 2) (v := ?_) rfl (by kernel_rfl) (by kernel_rfl) (by kernel_rfl) (fun _ _ _ h => h) (Or.inl ⟨by rfl, ?_⟩) (hS0) ?_
      rotate_left
      · intro w hSw; (try dsimp only at hSw); go_simp; try with_reducible rfl
      change wpAnyH _ _ _ _ _ _ _ (Act.put _ (some 19) _) _
      try simp only [Act.put, List.setIfInBounds_toArray, List.set_cons_zero, List.set_cons_succ]
      refine wpAnyH_take (i := 3) (v := ?_) rfl (by kernel_rfl) (by kernel_rfl) (by kernel_rfl) (fun _ _ _ h => h) (Or.inl ⟨by rfl, ?_⟩) (hS0) ?_
      rotate_left
      · intro w hSw; (try dsimp only at hSw); go_simp; try with_reducible rfl
      change wpAnyH _ _ _ _ _ _ _ (Act.put _ (some 20) _) _
      try simp only [Act.put, List.setIfInBounds_toArray, List.set_cons_zero, List.set_cons_succ]
      refine wpAnyH_take (i := 4) (v := ?_) rfl (by kernel_rfl) (by kernel_rfl) (by kernel_rfl) (fun _ _ _ h => h) (Or.inl ⟨by rfl, ?_⟩) (hS0) ?_
      rotate_left
      · intro w hSw; (try dsimp only at hSw); go_simp; try with_reducible rfl
      change wpAnyH _ _ _ _ _ _ _ (Act.put _ (some 21) _) _
      try simp only [Act.put, List.setIfInBounds_toArray, List.set_cons_zero, List.set_cons_succ]
      refine wpAnyH_take (i := 5) (v := ?_) rfl (by kernel_rfl) (by kernel_rfl) (by kernel_rfl) (fun _ _ _ h => h) (Or.inl ⟨by rfl, ?_⟩) (hS0) ?_
      rotate_left
      · intro w hSw; (try dsimp only at hSw); go_simp; try with_reducible rfl
      change wpAnyH _ _ _ _ _ _ _ (Act.put _ (some 22) _) _
      try simp only [Act.put, List.setIfInBounds_toArray, List.set_cons_zero, List.set_cons_succ]
      refine wpAnyH_take (i := 6) (v := ?_) rfl (by kernel_rfl) (by kernel_rfl) (by kernel_rfl) (fun _ _ _ h => h) (Or.inl ⟨by rfl, ?_⟩) (hS0) ?_
      rotate_left
      · intro w hSw; (try dsimp only at hSw); go_simp; try with_reducible rfl
      change wpAnyH _ _ _ _ _ _ _ (Act.put _ (some 23) _) _
      try simp only [Act.put, List.setIfInBounds_toArray, List.set_cons_zero, List.set_cons_succ]
      refine wpAnyH_ready (rs := [1, 7]) (by kernel_rfl) (by simp) ?_
      refine AllReadyH.cons rfl (fun K hK => ?_) (AllReadyH.cons rfl (fun K hK => ?_) (AllReadyH.nil))
      · (try rw [if_pos (show Region.wanted _ _ = true from rfl)])
        go_simp
        refine hK.out _ _ (hS0) (fun _ => ?_)
        clear hK K
        try simp only [Act.put, List.setIfInBounds_toArray, List.set_cons_zero, List.set_cons_succ]
        refine wpAnyH_ready (rs := [7]) (by kernel_rfl) (by simp) ?_
        refine AllReadyH.cons rfl (fun K hK => ?_) (AllReadyH.nil)
        (try rw [if_pos (show Region.wanted _ _ = true from rfl)])
        go_simp
        refine (HC.out _ (Turn.drew (Turn.refl _ W))).mono ?_
        rintro e W2 ⟨ds, rfl, hpx, hE2⟩
        obtain ⟨ek, epl, emi, ent, emn, emx, eao, en, ecap, rfl⟩ := sep_cells hpx
        have hc1 := hpx.cells.2
        have hE02 : Ext W W2 := Turn.trans (Turn.drew (Turn.refl _ W)) hE2
        have HPX := Lib.hid hpx; have HC1 := Lib.hid hc1
        clear hpx hc1 hE2
        have cV2 := hE02.cell_some cV id
        unfold patCells
        refine hK.out _ _ (HS.out _ (Ext.of hE02)) (fun hS1 => ?_)
        clear hK K
        try simp only [Act.put, List.setIfInBounds_toArray, List.set_cons_zero, List.set_cons_succ]
        refine wpAnyH_ready (rs := [8]) (by kernel_rfl) (by simp) ?_
        refine AllReadyH.cons rfl (fun K hK => ?_) (AllReadyH.nil)
        (try rw [if_pos (show Region.wanted _ _ = true from rfl)])
        go_simp
        refine hK.out _ _ (HS.out _ (Ext.of (hE02.alloc _))) (fun hS2 => ?_)
        clear hK K
        try simp only [Act.put, List.setIfInBounds_toArray, List.set_cons_zero, List.set_cons_succ]
        have hA3 : Ext W2 (W2.alloc (.cells #[.int .i64 ek, .int .u32 (epl : Int), .int .u32 (emi : Int), .bool ent, .int .i64 emn, .int .i64 emx, .slice eao en ecap] 27)) := (Turn.refl _ W2).alloc _
        have hsz3 : (W2.alloc (.cells #[.int .i64 ek, .int .u32 (epl : Int), .int .u32 (emi : Int), .bool ent, .int .i64 emn, .int .i64 emx, .slice eao en ecap] 27)).heap.size = W2.heap.size + 1 := by simp
        have hO2 := own_ext HO.out (hE02.trans hA3)
        have hs2 := hE02.size
        refine wpAnyH_ready (rs := [9]) (by kernel_rfl) (by simp) ?_
        refine AllReadyH.cons rfl (fun K hK => ?_) (AllReadyH.nil)
        (try rw [if_pos (show Region.wanted _ _ = true from rfl)])
        refine append_oper (.tmp 18) (.tmp 25) 25 rfl (B + 3) 27 _ 7 64 Tryd.underlying25 Tryd.infoPat rfl (by decide) _ _ _ rfl hO2 ⟨W2.heap.size, 0, none⟩ 1 1 (patCells ek epl emi ent emn emx eao en ecap) rfl rfl new_cells ?c2 ?c3 ?c4 ?c5 ?_
        case c2 => exact HC1.out
        case c3 => unfold maxLen; omega
        case c4 => omega
        case c5 => rw [hsz3]; omega
        intro ao' c' W3 hO3 hT3 hnb
        generalize (W2.alloc (.cells #[.int .i64 ek, .int .u32 (epl : Int), .int .u32 (emi : Int), .bool ent, .int .i64 emn, .int .i64 emx, .slice eao en ecap] 27)) = WB at hT3 hA3 hsz3 hnb
        have hlt : ∀ b, (Value.slice vo i vc).ownBlock = some b → B + 3 ≤ b := fun b hb => (HO.out.lt b hb).1
        have hR3 : MirRow 27 W3 (B + 3) (.slice ao' (i + 1) c') (QS ++ [mq]) (xs ++ patCells ek epl emi ent emn emx eao en ecap) := by
          refine HR.out.push (hE02.trans hA3) (m := W.heap.size) (Nat.le_refl _) ?_ rfl (by omega) hT3 (by rw [HLEN.out]; exact hO3) (hnb.imp id fun e => ⟨_, e, by omega⟩)
          exact (HPX.out.keep hA3 fun _ _ h => h).mono fun b hb => ⟨hb.1, by rw [hsz3]; omega⟩
        have hTW : Turn (fun b => B + 2 ≤ b) W W3 := (Ext.of (hE02.trans hA3)).trans (hT3.mono fun b _ e => by have := hlt _ e; omega)
        have hx3 := hTW.heap HX.out (by omega)
        have hz3 := hTW.heap HZ.out (by omega)
        have ho3 := hT3.heap (Ext.keep (hE02.trans hA3) HOUT.out) (fun e => by have := hlt _ e; omega)
        have hE3 : Ext w W3 := HE.out.after hTW (fun b' h1 e => by have := HB.out; omega)
        clear hlt hnb hT3 hO3 hO2 hA3 cV2
        refine hK.out _ _ (HS.out _ hTW) (fun hS3 => ?_)
        clear hK K
        try simp only [Act.put, List.setIfInBounds_toArray]
        refine wpAnyH_take (i := 10) (v := ?_) rfl (by kernel_rfl) (by kernel_rfl) (by kernel_rfl) (fun _ _ _ h => h) (Or.inl ⟨by rfl, ?_⟩) (hS3) ?_
        rotate_left
        · intro w hSw; (try dsimp only at hSw); go_simp; try with_reducible rfl
        change wpAnyH _ _ _ _ _ _ _ (Act.put _ (some 27) _) _
        try simp only [Act.put]
        have cO := fun j => cell_of_row _ _ j _ _ _ ho3
        have fO := fun j => frozen_of_row _ _ j _ _ ho3
        refine wpAnyH_ready (rs := [11]) (by kernel_rfl) (by simp) ?_
        refine AllReadyH.cons rfl (fun K hK => ?_) (AllReadyH.nil)
        (try rw [if_pos (show Region.wanted _ _ = true from rfl)])
        go_simp
        have hT9 := Turn.set1 W3 (B + 2) 6 (.slice ao' (i + 1) c')
        have ho9 := set_here (j := 6) (v := .slice ao' (i + 1) c') ho3
        change (W3.setCell ⟨B + 2, 6, none⟩ (.slice ao' (i + 1) c')).heap[B + 2]? = some (.cells #[.int .i64 4, .int .u32 (pl : Int), .int .u32 (mi : Int), .bool nt, .int .i64 mn, .int .i64 mx, .slice ao' (i + 1) c'] 27 (0, 0)) at ho9
        have hR9 := hR3.ext hT9 (fun b h1 _ e => by omega)
        rw [← HNX.out] at hR9
        have hx9 := hT9.heap hx3 (by omega)
        have hz9 := hT9.heap hz3 (by omega)
        have hE9 : Ext w _ := hE3.after hT9 (fun b h1 e => by have := HB.out; omega)
        have hTW9 : Turn (fun b => B + 2 ≤ b) W _ := hTW.trans (hT9.mono fun b _ e => by omega)
        refine hK.out _ _ (HS.out _ hTW9) (fun hS4 => ?_)
        clear hK K
        have HR9 := Lib.hid hR9; have HX9 := Lib.hid hx9; have HZ9 := Lib.hid hz9; have HO9 := Lib.hid ho9; have HE9 := Lib.hid hE9
        clear hR9 hx9 hz9 ho9 hE9 hTW9 hT9 hTW hR3 hx3 hz3 ho3 hE3 cO fO hS4 hS3 hsz3 hs2 hE02
        refine wpAnyH_done (by kernel_rfl) ?_ _
        try simp only [Act.put]
        go_wp2
        exact ⟨⟨i + 1, _, _, by omega, by first | rfl | trivial, ⟨rfl, rfl, rfl, rfl, rfl⟩, HX9.out, HZ9.out, HO9.out, HR9.out, HE9.out⟩, by first | (simp [intOf]; done) | (simp [intOf]; omega)⟩
      · (try rw [if_pos (show Region.wanted _ _ = true from rfl)])
        go_simp
        refine (HC.out _ (Turn.drew (Turn.refl _ W))).mono ?_
        rintro e W2 ⟨ds, rfl, hpx, hE2⟩
        obtain ⟨ek, epl, emi, ent, emn, emx, eao, en, ecap, rfl⟩ := sep_cells hpx
        have hc1 := hpx.cells.2
        have hE02 : Ext W W2 := Turn.trans (Turn.drew (Turn.refl _ W)) hE2
        have HPX := Lib.hid hpx; have HC1 := Lib.hid hc1
        clear hpx hc1 hE2
        have cV2 := hE02.cell_some cV id
        unfold patCells
        refine hK.out _ _ (HS.out _ (Ext.of hE02)) (fun hS1 => ?_)
        clear hK K
        try simp only [Act.put, List.setIfInBounds_toArray, List.set_cons_zero, List.set_cons_succ]
        refine wpAnyH_ready (rs := [1, 8]) (by kernel_rfl) (by simp) ?_
        refine AllReadyH.cons rfl (fun K hK => ?_) (AllReadyH.cons rfl (fun K hK => ?_) (AllReadyH.nil))
        · (try rw [if_pos (show Region.wanted _ _ = true from rfl)])
          go_simp
          refine hK.out _ _ (hS1) (fun _ => ?_)
          clear hK K
          try simp only [Act.put, List.setIfInBounds_toArray, List.set_cons_zero, List.set_cons_succ]
          refine wpAnyH_ready (rs := [8]) (by kernel_rfl) (by simp) ?_
          refine AllReadyH.cons rfl (fun K hK => ?_) (AllReadyH.nil)
          (try rw [if_pos (show Region.wanted _ _ = true from rfl)])
          go_simp
          refine hK.out _ _ (HS.out _ (Ext.of (hE02.alloc _))) (fun hS2 => ?_)
          clear hK K
          try simp only [Act.put, List.setIfInBounds_toArray, List.set_cons_zero, List.set_cons_succ]
          have hA3 : Ext W2 (W2.alloc (.cells #[.int .i64 ek, .int .u32 (epl : Int), .int .u32 (emi : Int), .bool ent, .int .i64 emn, .int .i64 emx, .slice eao en ecap] 27)) := (Turn.refl _ W2).alloc _
          have hsz3 : (W2.alloc (.cells #[.int .i64 ek, .int .u32 (epl : Int), .int .u32 (emi : Int), .bool ent, .int .i64 emn, .int .i64 emx, .slice eao en ecap] 27)).heap.size = W2.heap.size + 1 := by simp
          have hO2 := own_ext HO.out (hE02.trans hA3)
          have hs2 := hE02.size
          refine wpAnyH_ready (rs := [9]) (by kernel_rfl) (by simp) ?_
          refine AllReadyH.cons rfl (fun K hK => ?_) (AllReadyH.nil)
          (try rw [if_pos (show Region.wanted _ _ = true from rfl)])
          refine append_oper (.tmp 18) (.tmp 25) 25 rfl (B + 3) 27 _ 7 64 Tryd.underlying25 Tryd.infoPat rfl (by decide) _ _ _ rfl hO2 ⟨W2.heap.size, 0, none⟩ 1 1 (patCells ek epl emi ent emn emx eao en ecap) rfl rfl new_cells ?c2 ?c3 ?c4 ?c5 ?_
          case c2 => exact HC1.out
          case c3 => unfold maxLen; omega
          case c4 => omega
          case c5 => rw [hsz3]; omega
          intro ao' c' W3 hO3 hT3 hnb
          generalize (W2.alloc (.cells #[.int .i64 ek, .int .u32 (epl : Int), .int .u32 (emi : Int), .bool ent, .int .i64 emn, .int .i64 emx, .slice eao en ecap] 27)) = WB at hT3 hA3 hsz3 hnb
          have hlt : ∀ b, (Value.slice vo i vc).ownBlock = some b → B + 3 ≤ b := fun b hb => (HO.out.lt b hb).1
          have hR3 : MirRow 27 W3 (B + 3) (.slice ao' (i + 1) c') (QS ++ [mq]) (xs ++ patCells ek epl emi ent emn emx eao en ecap) := by
            refine HR.out.push (hE02.trans hA3) (m := W.heap.size) (Nat.le_refl _) ?_ rfl (by omega) hT3 (by rw [HLEN.out]; exact hO3) (hnb.imp id fun e => ⟨_, e, by omega⟩)
            exact (HPX.out.keep hA3 fun _ _ h => h).mono fun b hb => ⟨hb.1, by rw [hsz3]; omega⟩
          have hTW : Turn (fun b => B + 2 ≤ b) W W3 := (Ext.of (hE02.trans hA3)).trans (hT3.mono fun b _ e => by have := hlt _ e; omega)
          have hx3 := hTW.heap HX.out (by omega)
          have hz3 := hTW.heap HZ.out (by omega)
          have ho3 := hT3.heap (Ext.keep (hE02.trans hA3) HOUT.out) (fun e => by have := hlt _ e; omega)
          have hE3 : Ext w W3 := HE.out.after hTW (fun b' h1 e => by have := HB.out; omega)
          clear hlt hnb hT3 hO3 hO2 hA3 cV2
          refine hK.out _ _ (HS.out _ hTW) (fun hS3 => ?_)
          clear hK K
          try simp only [Act.put, List.setIfInBounds_toArray]
          refine wpAnyH_take (i := 10) (v := ?_) rfl (by kernel_rfl) (by kernel_rfl) (by kernel_rfl) (fun _ _ _ h => h) (Or.inl ⟨by rfl, ?_⟩) (hS3) ?_
          rotate_left
          · intro w hSw; (try dsimp only at hSw); go_simp; try with_reducible rfl
          change wpAnyH _ _ _ _ _ _ _ (Act.put _ (some 27) _) _
          try simp only [Act.put]
          have cO := fun j => cell_of_row _ _ j _ _ _ ho3
          have fO := fun j => frozen_of_row _ _ j _ _ ho3
          refine wpAnyH_ready (rs := [11]) (by kernel_rfl) (by simp) ?_
          refine AllReadyH.cons rfl (fun K hK => ?_) (AllReadyH.nil)
          (try rw [if_pos (show Region.wanted _ _ = true from rfl)])
          go_simp
          have hT9 := Turn.set1 W3 (B + 2) 6 (.slice ao' (i + 1) c')
          have ho9 := set_here (j := 6) (v := .slice ao' (i + 1) c') ho3
          change (W3.setCell ⟨B + 2, 6, none⟩ (.slice ao' (i + 1) c')).heap[B + 2]? = some (.cells #[.int .i64 4, .int .u32 (pl : Int), .int .u32 (mi : Int), .bool nt, .int .i64 mn, .int .i64 mx, .slice ao' (i + 1) c'] 27 (0, 0)) at ho9
          have hR9 := hR3.ext hT9 (fun b h1 _ e => by omega)
          rw [← HNX.out] at hR9
          have hx9 := hT9.heap hx3 (by omega)
          have hz9 := hT9.heap hz3 (by omega)
          have hE9 : Ext w _ := hE3.after hT9 (fun b h1 e => by have := HB.out; omega)
          have hTW9 : Turn (fun b => B + 2 ≤ b) W _ := hTW.trans (hT9.mono fun b _ e => by omega)
          refine hK.out _ _ (HS.out _ hTW9) (fun hS4 => ?_)
          clear hK K
          have HR9 := Lib.hid hR9; have HX9 := Lib.hid hx9; have HZ9 := Lib.hid hz9; have HO9 := Lib.hid ho9; have HE9 := Lib.hid hE9
          clear hR9 hx9 hz9 ho9 hE9 hTW9 hT9 hTW hR3 hx3 hz3 ho3 hE3 cO fO hS4 hS3 hsz3 hs2 hE02
          refine wpAnyH_done (by kernel_rfl) ?_ _
          try simp only [Act.put]
          go_wp2
          exact ⟨⟨i + 1, _, _, by omega, by first | rfl | trivial, ⟨rfl, rfl, rfl, rfl, rfl⟩, HX9.out, HZ9.out, HO9.out, HR9.out, HE9.out⟩, by first | (simp [intOf]; done) | (simp [intOf]; omega)⟩
        · (try rw [if_pos (show Region.wanted _ _ = true from rfl)])
          go_simp
          refine hK.out _ _ (HS.out _ (Ext.of (hE02.alloc _))) (fun hS2 => ?_)
          clear hK K
          try simp only [Act.put, List.setIfInBounds_toArray, List.set_cons_zero, List.set_cons_succ]
          have cV3 : (W2.alloc (.cells #[.int .i64 ek, .int .u32 (epl : Int), .int .u32 (emi : Int), .bool ent, .int .i64 emn, .int .i64 emx, .slice eao en ecap] 27)).cell? ⟨B + 2, 6, none⟩ = some (.slice vo i vc) := ((Turn.refl (fun _ => False) W2).alloc _).cell_some cV2 id
          refine wpAnyH_ready (rs := [1]) (by kernel_rfl) (by simp) ?_
          refine AllReadyH.cons rfl (fun K hK => ?_) (AllReadyH.nil)
          (try rw [if_pos (show Region.wanted _ _ = true from rfl)])
          go_simp
          refine hK.out _ _ (hS2) (fun _ => ?_)
          clear hK K
          try simp only [Act.put, List.setIfInBounds_toArray, List.set_cons_zero, List.set_cons_succ]
          clear cV3
          have hA3 : Ext W2 (W2.alloc (.cells #[.int .i64 ek, .int .u32 (epl : Int), .int .u32 (emi : Int), .bool ent, .int .i64 emn, .int .i64 emx, .slice eao en ecap] 27)) := (Turn.refl _ W2).alloc _
          have hsz3 : (W2.alloc (.cells #[.int .i64 ek, .int .u32 (epl : Int), .int .u32 (emi : Int), .bool ent, .int .i64 emn, .int .i64 emx, .slice eao en ecap] 27)).heap.size = W2.heap.size + 1 := by simp
          have hO2 := own_ext HO.out (hE02.trans hA3)
          have hs2 := hE02.size
          refine wpAnyH_ready (rs := [9]) (by kernel_rfl) (by simp) ?_
          refine AllReadyH.cons rfl (fun K hK => ?_) (AllReadyH.nil)
          (try rw [if_pos (show Region.wanted _ _ = true from rfl)])
          refine append_oper (.tmp 18) (.tmp 25) 25 rfl (B + 3) 27 _ 7 64 Tryd.underlying25 Tryd.infoPat rfl (by decide) _ _ _ rfl hO2 ⟨W2.heap.size, 0, none⟩ 1 1 (patCells ek epl emi ent emn emx eao en ecap) rfl rfl new_cells ?c2 ?c3 ?c4 ?c5 ?_
          case c2 => exact HC1.out
          case c3 => unfold maxLen; omega
          case c4 => omega
          case c5 => rw [hsz3]; omega
          intro ao' c' W3 hO3 hT3 hnb
          generalize (W2.alloc (.cells #[.int .i64 ek, .int .u32 (epl : Int), .int .u32 (emi : Int), .bool ent, .int .i64 emn, .int .i64 emx, .slice eao en ecap] 27)) = WB at hT3 hA3 hsz3 hnb
          have hlt : ∀ b, (Value.slice vo i vc).ownBlock = some b → B + 3 ≤ b := fun b hb => (HO.out.lt b hb).1
          have hR3 : MirRow 27 W3 (B + 3) (.slice ao' (i + 1) c') (QS ++ [mq]) (xs ++ patCells ek epl emi ent emn emx eao en ecap) := by
            refine HR.out.push (hE02.trans hA3) (m := W.heap.size) (Nat.le_refl _) ?_ rfl (by omega) hT3 (by rw [HLEN.out]; exact hO3) (hnb.imp id fun e => ⟨_, e, by omega⟩)
            exact (HPX.out.keep hA3 fun _ _ h => h).mono fun b hb => ⟨hb.1, by rw [hsz3]; omega⟩
          have hTW : Turn (fun b => B + 2 ≤ b) W W3 := (Ext.of (hE02.trans hA3)).trans (hT3.mono fun b _ e => by have := hlt _ e; omega)
          have hx3 := hTW.heap HX.out (by omega)
          have hz3 := hTW.heap HZ.out (by omega)
          have ho3 := hT3.heap (Ext.keep (hE02.trans hA3) HOUT.out) (fun e => by have := hlt _ e; omega)
          have hE3 : Ext w W3 := HE.out.after hTW (fun b' h1 e => by have := HB.out; omega)
          clear hlt hnb hT3 hO3 hO2 hA3 cV2
          refine hK.out _ _ (HS.out _ hTW) (fun hS3 => ?_)
          clear hK K
          try simp only [Act.put, List.setIfInBounds_toArray]
          refine wpAnyH_take (i := 10) (v := ?_) rfl (by kernel_rfl) (by kernel_rfl) (by kernel_rfl) (fun _ _ _ h => h) (Or.inl ⟨by rfl, ?_⟩) (hS3) ?_
          rotate_left
          · intro w hSw; (try dsimp only at hSw); go_simp; try with_reducible rfl
          change wpAnyH _ _ _ _ _ _ _ (Act.put _ (some 27) _) _
          try simp only [Act.put]
          have cO := fun j => cell_of_row _ _ j _ _ _ ho3
          have fO := fun j => frozen_of_row _ _ j _ _ ho3
          refine wpAnyH_ready (rs := [11]) (by kernel_rfl) (by simp) ?_
          refine AllReadyH.cons rfl (fun K hK => ?_) (AllReadyH.nil)
          (try rw [if_pos (show Region.wanted _ _ = true from rfl)])
          go_simp
          have hT9 := Turn.set1 W3 (B + 2) 6 (.slice ao' (i + 1) c')
          have ho9 := set_here (j := 6) (v := .slice ao' (i + 1) c') ho3
          change (W3.setCell ⟨B + 2, 6, none⟩ (.slice ao' (i + 1) c')).heap[B + 2]? = some (.cells #[.int .i64 4, .int .u32 (pl : Int), .int .u32 (mi : Int), .bool nt, .int .i64 mn, .int .i64 mx, .slice ao' (i + 1) c'] 27 (0, 0)) at ho9
          have hR9 := hR3.ext hT9 (fun b h1 _ e => by omega)
          rw [← HNX.out] at hR9
          have hx9 := hT9.heap hx3 (by omega)
          have hz9 := hT9.heap hz3 (by omega)
          have hE9 : Ext w _ := hE3.after hT9 (fun b h1 e => by have := HB.out; omega)
          have hTW9 : Turn (fun b => B + 2 ≤ b) W _ := hTW.trans (hT9.mono fun b _ e => by omega)
          refine hK.out _ _ (HS.out _ hTW9) (fun hS4 => ?_)
          clear hK K
          have HR9 := Lib.hid hR9; have HX9 := Lib.hid hx9; have HZ9 := Lib.hid hz9; have HO9 := Lib.hid ho9; have HE9 := Lib.hid hE9
          clear hR9 hx9 hz9 ho9 hE9 hTW9 hT9 hTW hR3 hx3 hz3 ho3 hE3 cO fO hS4 hS3 hsz3 hs2 hE02
          refine wpAnyH_done (by kernel_rfl) ?_ _
          try simp only [Act.put]
          go_wp2
          exact ⟨⟨i + 1, _, _, by omega, by first | rfl | trivial, ⟨rfl, rfl, rfl, rfl, rfl⟩, HX9.out, HZ9.out, HO9.out, HR9.out, HE9.out⟩, by first | (simp [intOf]; done) | (simp [intOf]; omega)⟩
    · obtain rfl : N = i := by omega
      have h1 : ¬ (N : Int) < (N : Int) := by omega
      have hqs : l.take N = l := List.take_of_length_le (by rw [HN.out]; exact Nat.le_refl _)
      rw [hqs] at hR
      have cO := fun j => cell_of_row _ _ j _ _ _ hout
      have cX := fun j => cell_of_row _ _ j _ _ _ hx
      have HZ := Lib.hid hz; have HR := Lib.hid hR; have HE := Lib.hid hE
      clear hx hz hout hR hE hO hqs hlen
      go_wp2_with (refine wpList_store_row rfl 27 (.tmp 2) (.tmp 55) rfl (B + 1) #[.int .i64 4, .int .u32 (pl : Int), .int .u32 (mi : Int), .bool nt, .int .i64 mn, .int .i64 mx, .slice vo N vc] rfl rfl _ _ HZ.out (by kernel_rfl) rfl (all_oneCell_toArray patCells_one) ?_)
      have hT9 := Turn.setRow (W) (B + 1) #[.int .i64 4, .int .u32 (pl : Int), .int .u32 (mi : Int), .bool nt, .int .i64 mn, .int .i64 mx, .slice vo N vc]
      have hR9 := HR.out.ext hT9 (fun b h1 _ e => by omega)
      refine bodyPost_ret (results_cell_row rfl _ _ (B + 1) _ #[.int .i64 4, .int .u32 (pl : Int), .int .u32 (mi : Int), .bool nt, .int .i64 mn, .int .i64 mx, .slice vo N vc] _ _ rfl (setRow_heap _ _ _ _ _ _ HZ.out) Tryd.underlying27 rfl (by kernel_rfl)) rfl ?_
      refine ⟨patCells 4 pl mi nt mn mx vo N vc, rfl, ?_, ?_⟩
      · have hn : (l.map mirP).length = N := by simp [HN.out]
        have hP := hR9.node hn 4 hpl hmi nt mn mx (lo' := B) (by omega)
        rw [HM.out, HB.out]
        first | exact hP | (simpa using hP)
      · exact HE.out.after hT9 (fun b h1 e => by have := HB.out; omega)
  · go_wp2
    generalize (((w.alloc (.cells #[.int .i64 5, .int .u32 (pl : Int), .int .u32 (mi : Int), .bool nt, .int .i64 mn, .int .i64 mx, .slice ao N cap] 27)).alloc (.cells #[.int .i64 0, .int .u32 0, .int .u32 0, .bool false, .int .i64 0, .int .i64 0, .slice none 0 0] 27)).alloc (.cells #[.int .i64 5, .int .u32 (pl : Int), .int .u32 (mi : Int), .bool nt, .int .i64 mn, .int .i64 mx, .slice none 0 0] 27)) = w1 at hx hz hout hE hR ⊢
    clear hB
    refine wp_loop (fun a W => ∃ (i : Nat) (v : Value) (xs : List Value), i ≤ N ∧ a.defers = [] ∧ (a.tmps.size = 56 ∧ a.tmps.getD 1 undef = .pointer (some ⟨B, 0, none⟩) ∧ a.tmps.getD 2 undef = .pointer (some ⟨B + 1, 0, none⟩) ∧ a.tmps.getD 3 undef = .pointer (some ⟨B + 2, 0, none⟩) ∧ a.tmps.getD 5 undef = .int .i64 i) ∧ W.heap[B]? = some (.cells #[.int .i64 5, .int .u32 (pl : Int), .int .u32 (mi : Int), .bool nt, .int .i64 mn, .int .i64 mx, .slice ao N cap] 27 (0, 0)) ∧ W.heap[B + 1]? = some (.cells #[.int .i64 0, .int .u32 0, .int .u32 0, .bool false, .int .i64 0, .int .i64 0, .slice none 0 0] 27 (0, 0)) ∧ W.heap[B + 2]? = some (.cells #[.int .i64 5, .int .u32 (pl : Int), .int .u32 (mi : Int), .bool nt, .int .i64 mn, .int .i64 mx, v] 27 (0, 0)) ∧ MirRow 27 W (B + 3) v ((l.take i).map mirP) xs ∧ Ext w W)
      (fun a _ => N - (intOf (a.tmps.getD 5 undef)).toNat) ?_ ?_
    · exact ⟨0, .slice none 0 0, [], by omega, rfl, ⟨rfl, rfl, rfl, rfl, rfl⟩, hx, hz, hout, by simpa using hR, hE⟩
    clear hx hz hout hE hR
    rintro ⟨t, _⟩ W ⟨i, v, xs, hi, hds, ⟨hsz, f1, f2, f3, f5⟩, hx, hz, hout, hR, hE⟩
    subst hds
    obtain ⟨u', hu⟩ := frame_fun hsz
    obtain ⟨u, rfl⟩ : ∃ x, x = u' := ⟨_, rfl⟩
    have hu' : t = #[u 0, u 1, u 2, u 3, u 4, u 5, u 6, u 7, u 8, u 9, u 10, u 11, u 12, u 13, u 14, u 15, u 16, u 17, u 18, u 19, u 20, u 21, u 22, u 23, u 24, u 25, u 26, u 27, u 28, u 29, u 30, u 31, u 32, u 33, u 34, u 35, u 36, u 37, u 38, u 39, u 40, u 41, u 42, u 43, u 44, u 45, u 46, u 47, u 48, u 49, u 50, u 51, u 52, u 53, u 54, u 55] := hu
    clear hu
    subst hu'
    change u 1 = _ at f1
    change u 2 = _ at f2
    change u 3 = _ at f3
    change u 5 = _ at f5
    rw [f1, f2, f3, f5]
    clear f1 f2 f3 f5 hsz
    have hBW : B + 2 < W.heap.size := (Array.getElem?_eq_some_iff.1 hout).1
    have hlen : ((l.take i).map mirP).length = i := by rw [List.length_map, List.length_take, HN.out]; omega
    have hO := hR.own
    rw [hlen] at hO
    obtain ⟨vo, vc, rfl⟩ := own_slice hO
    by_cases hiN : i < N
    · have h1 : (i : Int) < (N : Int) := by omega
      have h0 : (0 : Int) ≤ (i : Int) := by omega
      have hil : i < l.length := by rw [HN.out]; exact hiN
      have hnx : (l.take (i + 1)).map mirP = (l.take i).map mirP ++ [mirP l[i]] := by rw [List.take_succ_eq_append_getElem hil, List.map_append]; rfl
      obtain ⟨QS, hQS⟩ : ∃ QS, (l.take i).map mirP = QS := ⟨_, rfl⟩
      rw [hQS] at hnx hR hlen
      have HLEN := Lib.hid hlen
      clear hlen hQS
      obtain ⟨g, off, cs, rfl, hKg, hg, hra, hpa⟩ := HPS.out.get i hil
      rw [Nat.zero_add] at hra
      have hok := HOK.out l[i] (List.getElem_mem hil)
      have hih := IH.out l[i] (List.getElem_mem hil)
      obtain ⟨q, hq⟩ : ∃ q, l[i] = q := ⟨_, rfl⟩
      rw [hq] at hok hih hpa hnx
      obtain ⟨qk, qpl, qmi, qnt, qmn, qmx, ql⟩ := q
      have hpa' := hpa
      unfold PatAt at hpa
      obtain ⟨qao, qcap, hcs, _⟩ := hpa
      obtain ⟨Q, hQ⟩ : ∃ Q, ql.length = Q := ⟨_, rfl⟩
      rw [hQ] at hcs
      have hss : ∀ (D : World), Turn (fun b => B + 2 ≤ b) W D → D.cell? ⟨B, 6, none⟩ = some (.slice (some ⟨g, off, none⟩) N cap) ∧ D.cell? ⟨g, off + i * 7, none⟩ = some (.int .i64 qk) ∧ D.cell? ⟨g, off + i * 7 + 1, none⟩ = some (.int .u32 (qpl : Int)) ∧ D.cell? ⟨g, off + i * 7 + 2, none⟩ = some (.int .u32 (qmi : Int)) ∧ D.cell? ⟨g, off + i * 7 + 3, none⟩ = some (.bool qnt) ∧ D.cell? ⟨g, off + i * 7 + 4, none⟩ = some (.int .i64 qmn) ∧ D.cell? ⟨g, off + i * 7 + 5, none⟩ = some (.int .i64 qmx) ∧ D.cell? ⟨g, off + i * 7 + 6, none⟩ = some (.slice qao Q qcap) := by
        intro D hD
        obtain ⟨c0, c1, c2, c3, c4, c5, c6⟩ := patCells_at (rangeAt_turn hD (rangeAt_turn hE hra id) (by have := HB.out; omega)) hcs
        exact ⟨by simp [World.cell?, hD.heap hx (by omega)], c0, c1, c2, c3, c4, c5, c6⟩
      have hcall := fun (V : World) (hV : Ext W V) => hih K V cs (hpa'.ext (hE.trans hV)) hok
      rw [hcs] at hcall
      unfold patCells at hcall
      obtain ⟨mq, hmq⟩ : ∃ m, mirP (.node qk qpl qmi qnt qmn qmx ql) = m := ⟨_, rfl⟩
      rw [hmq] at hcall hnx
      have cV : W.cell? ⟨B + 2, 6, none⟩ = some (.slice vo i vc) := by rw [cell_of_row _ _ _ _ _ _ hout]; rfl
      have HC := Lib.hid hcall; have HO := Lib.hid hO; have HR := Lib.hid hR; have HX := Lib.hid hx; have HZ := Lib.hid hz; have HE := Lib.hid hE; have HNX := Lib.hid hnx; have HS := Lib.hid hss; have HOUT := Lib.hid hout
      have cX := fun j => cell_of_row _ _ j _ _ _ hx
      clear hcall hmq hq hO hR hz hE hpa' hok hih hra hcs hnx hQ hss hout hx
      go_wp2
      clear cX
      refine wp_region_held_drew (S := fun D => D.cell? ⟨B, 6, none⟩ = some (.slice (some ⟨g, off, none⟩) N cap) ∧ D.cell? ⟨g, off + i * 7, none⟩ = some (.int .i64 qk) ∧ D.cell? ⟨g, off + i * 7 + 1, none⟩ = some (.int .u32 (qpl : Int)) ∧ D.cell? ⟨g, off + i * 7 + 2, none⟩ = some (.int .u32 (qmi : Int)) ∧ D.cell? ⟨g, off + i * 7 + 3, none⟩ = some (.bool qnt) ∧ D.cell? ⟨g, off + i * 7 + 4, none⟩ = some (.int .i64 qmn) ∧ D.cell? ⟨g, off + i * 7 + 5, none⟩ = some (.int .i64 qmx) ∧ D.cell? ⟨g, off + i * 7 + 6, none⟩ = some (.slice qao Q qcap)) (by kernel_rfl) (HS.out _ (Turn.drew (Turn.refl _ W))) ?_
      intro hS0
      refine wpAnyH_take (i := 0) (v := ?_) rfl (by kernel_rfl) (by kernel_rfl) (by kernel_rfl) (fun _ _ _ h => h) (Or.inl ⟨by rfl, ?_⟩) (hS0) ?_
      rotate_left
      · intro w hSw; (try dsimp only at hSw); go_simp; try with_reducible rfl
      change wpAnyH _ _ _ _ _ _ _ (Act.put _ (some 17) _) _
      try simp only [Act.put, List.setIfInBounds_toArray, List.set_cons_zero, List.set_cons_succ]
      refine wpAnyH_take (i := 2) (v := ?_) rfl (by kernel_rfl) (by kernel_rfl) (by kernel_rfl) (fun _ _ _ h => h) (Or.inl ⟨by rfl, ?_⟩) (hS0) ?_
      rotate_left
      · intro w hSw; (try dsimp only at hSw); go_simp; try with_reducible rfl
      change wpAnyH _ _ _ _ _ _ _ (Act.put _ (some 19) _) _
      try simp only [Act.put, List.setIfInBounds_toArray, List.set_cons_zero, List.set_cons_succ]
      refine wpAnyH_take (i := 3) (v := ?_) rfl (by kernel_rfl) (by kernel_rfl) (by kernel_rfl) (fun _ _ _ h => h) (Or.inl ⟨by rfl, ?_⟩) (hS0) ?_
      rotate_left
      · intro w hSw; (try dsimp only at hSw); go_simp; try with_reducible rfl
      change wpAnyH _ _ _ _ _ _ _ (Act.put _ (some 20) _) _
      try simp only [Act.put, List.setIfInBounds_toArray, List.set_cons_zero, List.set_cons_succ]
      refine wpAnyH_take (i := 4) (v := ?_) rfl (by kernel_rfl) (by kernel_rfl) (by kernel_rfl) (fun _ _ _ h => h) (Or.inl ⟨by rfl, ?_⟩) (hS0) ?_
      rotate_left
      · intro w hSw; (try dsimp only at hSw); go_simp; try with_reducible rfl
      change wpAnyH _ _ _ _ _ _ _ (Act.put _ (some 21) _) _
      try simp only [Act.put, List.setIfInBounds_toArray, List.set_cons_zero, List.set_cons_succ]
      refine wpAnyH_take (i := 5) (v := ?_) rfl (by kernel_rfl) (by kernel_rfl) (by kernel_rfl) (fun _ _ _ h => h) (Or.inl ⟨by rfl, ?_⟩) (hS0) ?_
      rotate_left
      · intro w hSw; (try dsimp only at hSw); go_simp; try with_reducible rfl
      change wpAnyH _ _ _ _ _ _ _ (Act.put _ (some 22) _) _
      try simp only [Act.put, List.setIfInBounds_toArray, List.set_cons_zero, List.set_cons_succ]
      refine wpAnyH_take (i := 6) (v := ?_) rfl (by kernel_rfl) (by kernel_rfl) (by kernel_rfl) (fun _ _ _ h => h) (Or.inl ⟨by rfl, ?_⟩) (hS0) ?_
      rotate_left
      · intro w hSw; (try dsimp only at hSw); go_simp; try with_reducible rfl
      change wpAnyH _ _ _ _ _ _ _ (Act.put _ (some 23) _) _
      try simp only [Act.put, List.setIfInBounds_toArray, List.set_cons_zero, List.set_cons_succ]
      refine wpAnyH_ready (rs := [1, 7]) (by kernel_rfl) (by simp) ?_
      refine AllReadyH.cons rfl (fun K hK => ?_) (AllReadyH.cons rfl (fun K hK => ?_) (AllReadyH.nil))
      · (try rw [if_pos (show Region.wanted _ _ = true from rfl)])
        go_simp
        refine hK.out _ _ (hS0) (fun _ => ?_)
        clear hK K
        try simp only [Act.put, List.setIfInBounds_toArray, List.set_cons_zero, List.set_cons_succ]
        refine wpAnyH_ready (rs := [7]) (by kernel_rfl) (by simp) ?_
        refine AllReadyH.cons rfl (fun K hK => ?_) (AllReadyH.nil)
        (try rw [if_pos (show Region.wanted _ _ = true from rfl)])
        go_simp
        refine (HC.out _ (Turn.drew (Turn.refl _ W))).mono ?_
        rintro e W2 ⟨ds, rfl, hpx, hE2⟩
        obtain ⟨ek, epl, emi, ent, emn, emx, eao, en, ecap, rfl⟩ := sep_cells hpx
        have hc1 := hpx.cells.2
        have hE02 : Ext W W2 := Turn.trans (Turn.drew (Turn.refl _ W)) hE2
        have HPX := Lib.hid hpx; have HC1 := Lib.hid hc1
        clear hpx hc1 hE2
        have cV2 := hE02.cell_some cV id
        unfold patCells
        refine hK.out _ _ (HS.out _ (Ext.of hE02)) (fun hS1 => ?_)
        clear hK K
        try simp only [Act.put, List.setIfInBounds_toArray, List.set_cons_zero, List.set_cons_succ]
        refine wpAnyH_ready (rs := [8]) (by kernel_rfl) (by simp) ?_
        refine AllReadyH.cons rfl (fun K hK => ?_) (AllReadyH.nil)
        (try rw [if_pos (show Region.wanted _ _ = true from rfl)])
        go_simp
        refine hK.out _ _ (HS.out _ (Ext.of (hE02.alloc _))) (fun hS2 => ?_)
        clear hK K
        try simp only [Act.put, List.setIfInBounds_toArray, List.set_cons_zero, List.set_cons_succ]
        have hA3 : Ext W2 (W2.alloc (.cells #[.int .i64 ek, .int .u32 (epl : Int), .int .u32 (emi : Int), .bool ent, .int .i64 emn, .int .i64 emx, .slice eao en ecap] 27)) := (Turn.refl _ W2).alloc _
        have hsz3 : (W2.alloc (.cells #[.int .i64 ek, .int .u32 (epl : Int), .int .u32 (emi : Int), .bool ent, .int .i64 emn, .int .i64 emx, .slice eao en ecap] 27)).heap.size = W2.heap.size + 1 := by simp
        have hO2 := own_ext HO.out (hE02.trans hA3)
        have hs2 := hE02.size
        refine wpAnyH_ready (rs := [9]) (by kernel_rfl) (by simp) ?_
        refine AllReadyH.cons rfl (fun K hK => ?_) (AllReadyH.nil)
        (try rw [if_pos (show Region.wanted _ _ = true from rfl)])
        refine append_oper (.tmp 18) (.tmp 25) 25 rfl (B + 3) 27 _ 7 64 Tryd.underlying25 Tryd.infoPat rfl (by decide) _ _ _ rfl hO2 ⟨W2.heap.size, 0, none⟩ 1 1 (patCells ek epl emi ent emn emx eao en ecap) rfl rfl new_cells ?c2 ?c3 ?c4 ?c5 ?_
        case c2 => exact HC1.out
        case c3 => unfold maxLen; omega
        case c4 => omega
        case c5 => rw [hsz3]; omega
        intro ao' c' W3 hO3 hT3 hnb
        generalize (W2.alloc (.cells #[.int .i64 ek, .int .u32 (epl : Int), .int .u32 (emi : Int), .bool ent, .int .i64 emn, .int .i64 emx, .slice eao en ecap] 27)) = WB at hT3 hA3 hsz3 hnb
        have hlt : ∀ b, (Value.slice vo i vc).ownBlock = some b → B + 3 ≤ b := fun b hb => (HO.out.lt b hb).1
        have hR3 : MirRow 27 W3 (B + 3) (.slice ao' (i + 1) c') (QS ++ [mq]) (xs ++ patCells ek epl emi ent emn emx eao en ecap) := by
          refine HR.out.push (hE02.trans hA3) (m := W.heap.size) (Nat.le_refl _) ?_ rfl (by omega) hT3 (by rw [HLEN.out]; exact hO3) (hnb.imp id fun e => ⟨_, e, by omega⟩)
          exact (HPX.out.keep hA3 fun _ _ h => h).mono fun b hb => ⟨hb.1, by rw [hsz3]; omega⟩
        have hTW : Turn (fun b => B + 2 ≤ b) W W3 := (Ext.of (hE02.trans hA3)).trans (hT3.mono fun b _ e => by have := hlt _ e; omega)
        have hx3 := hTW.heap HX.out (by omega)
        have hz3 := hTW.heap HZ.out (by omega)
        have ho3 := hT3.heap (Ext.keep (hE02.trans hA3) HOUT.out) (fun e => by have := hlt _ e; omega)
        have hE3 : Ext w W3 := HE.out.after hTW (fun b' h1 e => by have := HB.out; omega)
        clear hlt hnb hT3 hO3 hO2 hA3 cV2
        refine hK.out _ _ (HS.out _ hTW) (fun hS3 => ?_)
        clear hK K
        try simp only [Act.put, List.setIfInBounds_toArray]
        refine wpAnyH_take (i := 10) (v := ?_) rfl (by kernel_rfl) (by kernel_rfl) (by kernel_rfl) (fun _ _ _ h => h) (Or.inl ⟨by rfl, ?_⟩) (hS3) ?_
        rotate_left
        · intro w hSw; (try dsimp only at hSw); go_simp; try with_reducible rfl
        change wpAnyH _ _ _ _ _ _ _ (Act.put _ (some 27) _) _
        try simp only [Act.put]
        have cO := fun j => cell_of_row _ _ j _ _ _ ho3
        have fO := fun j => frozen_of_row _ _ j _ _ ho3
        refine wpAnyH_ready (rs := [11]) (by kernel_rfl) (by simp) ?_
        refine AllReadyH.cons rfl (fun K hK => ?_) (AllReadyH.nil)
        (try rw [if_pos (show Region.wanted _ _ = true from rfl)])
        go_simp
        have hT9 := Turn.set1 W3 (B + 2) 6 (.slice ao' (i + 1) c')
        have ho9 := set_here (j := 6) (v := .slice ao' (i + 1) c') ho3
        change (W3.setCell ⟨B + 2, 6, none⟩ (.slice ao' (i + 1) c')).heap[B + 2]? = some (.cells #[.int .i64 5, .int .u32 (pl : Int), .int .u32 (mi : Int), .bool nt, .int .i64 mn, .int .i64 mx, .slice ao' (i + 1) c'] 27 (0, 0)) at ho9
        have hR9 := hR3.ext hT9 (fun b h1 _ e => by omega)
        rw [← HNX.out] at hR9
        have hx9 := hT9.heap hx3 (by omega)
        have hz9 := hT9.heap hz3 (by omega)
        have hE9 : Ext w _ := hE3.after hT9 (fun b h1 e => by have := HB.out; omega)
        have hTW9 : Turn (fun b => B + 2 ≤ b) W _ := hTW.trans (hT9.mono fun b _ e => by omega)
        refine hK.out _ _ (HS.out _ hTW9) (fun hS4 => ?_)
        clear hK K
        have HR9 := Lib.hid hR9; have HX9 := Lib.hid hx9; have HZ9 := Lib.hid hz9; have HO9 := Lib.hid ho9; have HE9 := Lib.hid hE9
        clear hR9 hx9 hz9 ho9 hE9 hTW9 hT9 hTW hR3 hx3 hz3 ho3 hE3 cO fO hS4 hS3 hsz3 hs2 hE02
        refine wpAnyH_done (by kernel_rfl) ?_ _
        try simp only [Act.put]
        go_wp2
        exact ⟨⟨i + 1, _, _, by omega, by first | rfl | trivial, ⟨rfl, rfl, rfl, rfl, rfl⟩, HX9.out, HZ9.out, HO9.out, HR9.out, HE9.out⟩, by first | (simp [intOf]; done) | (simp [intOf]; omega)⟩
      · (try rw [if_pos (show Region.wanted _ _ = true from rfl)])
        go_simp
        refine (HC.out _ (Turn.drew (Turn.refl _ W))).mono ?_
        rintro e W2 ⟨ds, rfl, hpx, hE2⟩
        obtain ⟨ek, epl, emi, ent, emn, emx, eao, en, ecap, rfl⟩ := sep_cells hpx
        have hc1 := hpx.cells.2
        have hE02 : Ext W W2 := Turn.trans (Turn.drew (Turn.refl _ W)) hE2
        have HPX := Lib.hid hpx; have HC1 := Lib.hid hc1
        clear hpx hc1 hE2
        have cV2 := hE02.cell_some cV id
        unfold patCells
        refine hK.out _ _ (HS.out _ (Ext.of hE02)) (fun hS1 => ?_)
        clear hK K
        try simp only [Act.put, List.setIfInBounds_toArray, List.set_cons_zero, List.set_cons_succ]
        refine wpAnyH_ready (rs := [1, 8]) (by kernel_rfl) (by simp) ?_
        refine AllReadyH.cons rfl (fun K hK => ?_) (AllReadyH.cons rfl (fun K hK => ?_) (AllReadyH.nil))
        · (try rw [if_pos (show Region.wanted _ _ = true from rfl)])
          go_simp
          refine hK.out _ _ (hS1) (fun _ => ?_)
          clear hK K
          try simp only [Act.put, List.setIfInBounds_toArray, List.set_cons_zero, List.set_cons_succ]
          refine wpAnyH_ready (rs := [8]) (by kernel_rfl) (by simp) ?_
          refine AllReadyH.cons rfl (fun K hK => ?_) (AllReadyH.nil)
          (try rw [if_pos (show Region.wanted _ _ = true from rfl)])
          go_simp
          refine hK.out _ _ (HS.out _ (Ext.of (hE02.alloc _))) (fun hS2 => ?_)
          clear hK K
          try simp only [Act.put, List.setIfInBounds_toArray, List.set_cons_zero, List.set_cons_succ]
          have hA3 : Ext W2 (W2.alloc (.cells #[.int .i64 ek, .int .u32 (epl : Int), .int .u32 (emi : Int), .bool ent, .int .i64 emn, .int .i64 emx, .slice eao en ecap] 27)) := (Turn.refl _ W2).alloc _
          have hsz3 : (W2.alloc (.cells #[.int .i64 ek, .int .u32 (epl : Int), .int .u32 (emi : Int), .bool ent, .int .i64 emn, .int .i64 emx, .slice eao en ecap] 27)).heap.size = W2.heap.size + 1 := by simp
          have hO2 := own_ext HO.out (hE02.trans hA3)
          have hs2 := hE02.size
          refine wpAnyH_ready (rs := [9]) (by kernel_rfl) (by simp) ?_
          refine AllReadyH.cons rfl (fun K hK => ?_) (AllReadyH.nil)
          (try rw [if_pos (show Region.wanted _ _ = true from rfl)])
          refine append_oper (.tmp 18) (.tmp 25) 25 rfl (B + 3) 27 _ 7 64 Tryd.underlying25 Tryd.infoPat rfl (by decide) _ _ _ rfl hO2 ⟨W2.heap.size, 0, none⟩ 1 1 (patCells ek epl emi ent emn emx eao en ecap) rfl rfl new_cells ?c2 ?c3 ?c4 ?c5 ?_
          case c2 => exact HC1.out
          case c3 => unfold maxLen; omega
          case c4 => omega
          case c5 => rw [hsz3]; omega
          intro ao' c' W3 hO3 hT3 hnb
          generalize (W2.alloc (.cells #[.int .i64 ek, .int .u32 (epl : Int), .int .u32 (emi : Int), .bool ent, .int .i64 emn, .int .i64 emx, .slice eao en ecap] 27)) = WB at hT3 hA3 hsz3 hnb
          have hlt : ∀ b, (Value.slice vo i vc).ownBlock = some b → B + 3 ≤ b := fun b hb => (HO.out.lt b hb).1
          have hR3 : MirRow 27 W3 (B + 3) (.slice ao' (i + 1) c') (QS ++ [mq]) (xs ++ patCells ek epl emi ent emn emx eao en ecap) := by
            refine HR.out.push (hE02.trans hA3) (m := W.heap.size) (Nat.le_refl _) ?_ rfl (by omega) hT3 (by rw [HLEN.out]; exact hO3) (hnb.imp id fun e => ⟨_, e, by omega⟩)
            exact (HPX.out.keep hA3 fun _ _ h => h).mono fun b hb => ⟨hb.1, by rw [hsz3]; omega⟩
          have hTW : Turn (fun b => B + 2 ≤ b) W W3 := (Ext.of (hE02.trans hA3)).trans (hT3.mono fun b _ e => by have := hlt _ e; omega)
          have hx3 := hTW.heap HX.out (by omega)
          have hz3 := hTW.heap HZ.out (by omega)
          have ho3 := hT3.heap (Ext.keep (hE02.trans hA3) HOUT.out) (fun e => by have := hlt _ e; omega)
          have hE3 : Ext w W3 := HE.out.after hTW (fun b' h1 e => by have := HB.out; omega)
          clear hlt hnb hT3 hO3 hO2 hA3 cV2
          refine hK.out _ _ (HS.out _ hTW) (fun hS3 => ?_)
          clear hK K
          try simp only [Act.put, List.setIfInBounds_toArray]
          refine wpAnyH_take (i := 10) (v := ?_) rfl (by kernel_rfl) (by kernel_rfl) (by kernel_rfl) (fun _ _ _ h => h) (Or.inl ⟨by rfl, ?_⟩) (hS3) ?_
          rotate_left
          · intro w hSw; (try dsimp only at hSw); go_simp; try with_reducible rfl
          change wpAnyH _ _ _ _ _ _ _ (Act.put _ (some 27) _) _
          try simp only [Act.put]
          have cO := fun j => cell_of_row _ _ j _ _ _ ho3
          have fO := fun j => frozen_of_row _ _ j _ _ ho3
          refine wpAnyH_ready (rs := [11]) (by kernel_rfl) (by simp) ?_
          refine AllReadyH.cons rfl (fun K hK => ?_) (AllReadyH.nil)
          (try rw [if_pos (show Region.wanted _ _ = true from rfl)])
          go_simp
          have hT9 := Turn.set1 W3 (B + 2) 6 (.slice ao' (i + 1) c')
          have ho9 := set_here (j := 6) (v := .slice ao' (i + 1) c') ho3
          change (W3.setCell ⟨B + 2, 6, none⟩ (.slice ao' (i + 1) c')).heap[B + 2]? = some (.cells #[.int .i64 5, .int .u32 (pl : Int), .int .u32 (mi : Int), .bool nt, .int .i64 mn, .int .i64 mx, .slice ao' (i + 1) c'] 27 (0, 0)) at ho9
          have hR9 := hR3.ext hT9 (fun b h1 _ e => by omega)
          rw [← HNX.out] at hR9
          have hx9 := hT9.heap hx3 (by omega)
          have hz9 := hT9.heap hz3 (by omega)
          have hE9 : Ext w _ := hE3.after hT9 (fun b h1 e => by have := HB.out; omega)
          have hTW9 : Turn (fun b => B + 2 ≤ b) W _ := hTW.trans (hT9.mono fun b _ e => by omega)
          refine hK.out _ _ (HS.out _ hTW9) (fun hS4 => ?_)
          clear hK K
          have HR9 := Lib.hid hR9; have HX9 := Lib.hid hx9; have HZ9 := Lib.hid hz9; have HO9 := Lib.hid ho9; have HE9 := Lib.hid hE9
          clear hR9 hx9 hz9 ho9 hE9 hTW9 hT9 hTW hR3 hx3 hz3 ho3 hE3 cO fO hS4 hS3 hsz3 hs2 hE02
          refine wpAnyH_done (by kernel_rfl) ?_ _
          try simp only [Act.put]
          go_wp2
          exact ⟨⟨i + 1, _, _, by omega, by first | rfl | trivial, ⟨rfl, rfl, rfl, rfl, rfl⟩, HX9.out, HZ9.out, HO9.out, HR9.out, HE9.out⟩, by first | (simp [intOf]; done) | (simp [intOf]; omega)⟩
        · (try rw [if_pos (show Region.wanted _ _ = true from rfl)])
          go_simp
          refine hK.out _ _ (HS.out _ (Ext.of (hE02.alloc _))) (fun hS2 => ?_)
          clear hK K
          try simp only [Act.put, List.setIfInBounds_toArray, List.set_cons_zero, List.set_cons_succ]
          have cV3 : (W2.alloc (.cells #[.int .i64 ek, .int .u32 (epl : Int), .int .u32 (emi : Int), .bool ent, .int .i64 emn, .int .i64 emx, .slice eao en ecap] 27)).cell? ⟨B + 2, 6, none⟩ = some (.slice vo i vc) := ((Turn.refl (fun _ => False) W2).alloc _).cell_some cV2 id
          refine wpAnyH_ready (rs := [1]) (by kernel_rfl) (by simp) ?_
          refine AllReadyH.cons rfl (fun K hK => ?_) (AllReadyH.nil)
          (try rw [if_pos (show Region.wanted _ _ = true from rfl)])
          go_simp
          refine hK.out _ _ (hS2) (fun _ => ?_)
          clear hK K
          try simp only [Act.put, List.setIfInBounds_toArray, List.set_cons_zero, List.set_cons_succ]
          clear cV3
          have hA3 : Ext W2 (W2.alloc (.cells #[.int .i64 ek, .int .u32 (epl : Int), .int .u32 (emi : Int), .bool ent, .int .i64 emn, .int .i64 emx, .slice eao en ecap] 27)) := (Turn.refl _ W2).alloc _
          have hsz3 : (W2.alloc (.cells #[.int .i64 ek, .int .u32 (epl : Int), .int .u32 (emi : Int), .bool ent, .int .i64 emn, .int .i64 emx, .slice eao en ecap] 27)).heap.size = W2.heap.size + 1 := by simp
          have hO2 := own_ext HO.out (hE02.trans hA3)
          have hs2 := hE02.size
          refine wpAnyH_ready (rs := [9]) (by kernel_rfl) (by simp) ?_
          refine AllReadyH.cons rfl (fun K hK => ?_) (AllReadyH.nil)
          (try rw [if_pos (show Region.wanted _ _ = true from rfl)])
          refine append_oper (.tmp 18) (.tmp 25) 25 rfl (B + 3) 27 _ 7 64 Tryd.underlying25 Tryd.infoPat rfl (by decide) _ _ _ rfl hO2 ⟨W2.heap.size, 0, none⟩ 1 1 (patCells ek epl emi ent emn emx eao en ecap) rfl rfl new_cells ?c2 ?c3 ?c4 ?c5 ?_
          case c2 => exact HC1.out
          case c3 => unfold maxLen; omega
          case c4 => omega
          case c5 => rw [hsz3]; omega
          intro ao' c' W3 hO3 hT3 hnb
          generalize (W2.alloc (.cells #[.int .i64 ek, .int .u32 (epl : Int), .int .u32 (emi : Int), .bool ent, .int .i64 emn, .int .i64 emx, .slice eao en ecap] 27)) = WB at hT3 hA3 hsz3 hnb
          have hlt : ∀ b, (Value.slice vo i vc).ownBlock = some b → B + 3 ≤ b := fun b hb => (HO.out.lt b hb).1
          have hR3 : MirRow 27 W3 (B + 3) (.slice ao' (i + 1) c') (QS ++ [mq]) (xs ++ patCells ek epl emi ent emn emx eao en ecap) := by
            refine HR.out.push (hE02.trans hA3) (m := W.heap.size) (Nat.le_refl _) ?_ rfl (by omega) hT3 (by rw [HLEN.out]; exact hO3) (hnb.imp id fun e => ⟨_, e, by omega⟩)
            exact (HPX.out.keep hA3 fun _ _ h => h).mono fun b hb => ⟨hb.1, by rw [hsz3]; omega⟩
          have hTW : Turn (fun b => B + 2 ≤ b) W W3 := (Ext.of (hE02.trans hA3)).trans (hT3.mono fun b _ e => by have := hlt _ e; omega)
          have hx3 := hTW.heap HX.out (by omega)
          have hz3 := hTW.heap HZ.out (by omega)
          have ho3 := hT3.heap (Ext.keep (hE02.trans hA3) HOUT.out) (fun e => by have := hlt _ e; omega)
          have hE3 : Ext w W3 := HE.out.after hTW (fun b' h1 e => by have := HB.out; omega)
          clear hlt hnb hT3 hO3 hO2 hA3 cV2
          refine hK.out _ _ (HS.out _ hTW) (fun hS3 => ?_)
          clear hK K
          try simp only [Act.put, List.setIfInBounds_toArray]
          refine wpAnyH_take (i := 10) (v := ?_) rfl (by kernel_rfl) (by kernel_rfl) (by kernel_rfl) (fun _ _ _ h => h) (Or.inl ⟨by rfl, ?_⟩) (hS3) ?_
          rotate_left
          · intro w hSw; (try dsimp only at hSw); go_simp; try with_reducible rfl
          change wpAnyH _ _ _ _ _ _ _ (Act.put _ (some 27) _) _
          try simp only [Act.put]
          have cO := fun j => cell_of_row _ _ j _ _ _ ho3
          have fO := fun j => frozen_of_row _ _ j _ _ ho3
          refine wpAnyH_ready (rs := [11]) (by kernel_rfl) (by simp) ?_
          refine AllReadyH.cons rfl (fun K hK => ?_) (AllReadyH.nil)
          (try rw [if_pos (show Region.wanted _ _ = true from rfl)])
          go_simp
          have hT9 := Turn.set1 W3 (B + 2) 6 (.slice ao' (i + 1) c')
          have ho9 := set_here (j := 6) (v := .slice ao' (i + 1) c') ho3
          change (W3.setCell ⟨B + 2, 6, none⟩ (.slice ao' (i + 1) c')).heap[B + 2]? = some (.cells #[.int .i64 5, .int .u32 (pl : Int), .int .u32 (mi : Int), .bool nt, .int .i64 mn, .int .i64 mx, .slice ao' (i + 1) c'] 27 (0, 0)) at ho9
          have hR9 := hR3.ext hT9 (fun b h1 _ e => by omega)
          rw [← HNX.out] at hR9
          have hx9 := hT9.heap hx3 (by omega)
          have hz9 := hT9.heap hz3 (by omega)
          have hE9 : Ext w _ := hE3.after hT9 (fun b h1 e => by have := HB.out; omega)
          have hTW9 : Turn (fun b => B + 2 ≤ b) W _ := hTW.trans (hT9.mono fun b _ e => by omega)
          refine hK.out _ _ (HS.out _ hTW9) (fun hS4 => ?_)
          clear hK K
          have HR9 := Lib.hid hR9; have HX9 := Lib.hid hx9; have HZ9 := Lib.hid hz9; have HO9 := Lib.hid ho9; have HE9 := Lib.hid hE9
          clear hR9 hx9 hz9 ho9 hE9 hTW9 hT9 hTW hR3 hx3 hz3 ho3 hE3 cO fO hS4 hS3 hsz3 hs2 hE02
          refine wpAnyH_done (by kernel_rfl) ?_ _
          try simp only [Act.put]
          go_wp2
          exact ⟨⟨i + 1, _, _, by omega, by first | rfl | trivial, ⟨rfl, rfl, rfl, rfl, rfl⟩, HX9.out, HZ9.out, HO9.out, HR9.out, HE9.out⟩, by first | (simp [intOf]; done) | (simp [intOf]; omega)⟩
    · obtain rfl : N = i := by omega
      have h1 : ¬ (N : Int) < (N : Int) := by omega
      have hqs : l.take N = l := List.take_of_length_le (by rw [HN.out]; exact Nat.le_refl _)
      rw [hqs] at hR
      have cO := fun j => cell_of_row _ _ j _ _ _ hout
      have cX := fun j => cell_of_row _ _ j _ _ _ hx
      have HZ := Lib.hid hz; have HR := Lib.hid hR; have HE := Lib.hid hE
      clear hx hz hout hR hE hO hqs hlen
      go_wp2_with (refine wpList_store_row rfl 27 (.tmp 2) (.tmp 55) rfl (B + 1) #[.int .i64 5, .int .u32 (pl : Int), .int .u32 (mi : Int), .bool nt, .int .i64 mn, .int .i64 mx, .slice vo N vc] rfl rfl _ _ HZ.out (by kernel_rfl) rfl (all_oneCell_toArray patCells_one) ?_)
      have hT9 := Turn.setRow (W) (B + 1) #[.int .i64 5, .int .u32 (pl : Int), .int .u32 (mi : Int), .bool nt, .int .i64 mn, .int .i64 mx, .slice vo N vc]
      have hR9 := HR.out.ext hT9 (fun b h1 _ e => by omega)
      refine bodyPost_ret (results_cell_row rfl _ _ (B + 1) _ #[.int .i64 5, .int .u32 (pl : Int), .int .u32 (mi : Int), .bool nt, .int .i64 mn, .int .i64 mx, .slice vo N vc] _ _ rfl (setRow_heap _ _ _ _ _ _ HZ.out) Tryd.underlying27 rfl (by kernel_rfl)) rfl ?_
      refine ⟨patCells 5 pl mi nt mn mx vo N vc, rfl, ?_, ?_⟩
      · have hn : (l.map mirP).length = N := by simp [HN.out]
        have hP := hR9.node hn 5 hpl hmi nt mn mx (lo' := B) (by omega)
        rw [HM.out, HB.out]
        first | exact hP | (simpa using hP)
      · exact HE.out.after hT9 (fun b h1 e => by have := HB.out; omega)
  · have hN0 : N = 0 := H0.out (by decide) (by decide) (by decide)
    subst hN0
    have hl0 : l = [] := List.eq_nil_of_length_eq_zero HN.out
    subst hl0
    clear hx hz hout hE hR
    go_wp2
    refine bodyPost_ret (results_cell_row rfl _ _ (B + 1) _ #[.int .i64 2, .int .u32 (pl : Int), .int .u32 (mi : Int), .bool nt, .int .i64 mn, .int .i64 mx, .slice none 0 0] _ _ rfl (by subst hB; exact new_keep (new_at (by simp))) Tryd.underlying27 rfl (by kernel_rfl)) rfl ?_
    refine ⟨patCells 2 pl mi nt mn mx none 0 0, rfl, ?_, (((Turn.refl _ w).alloc _).alloc _).alloc _⟩
    have hP := (MirRow.nil 27 (((w.alloc (.cells #[.int .i64 6, .int .u32 (pl : Int), .int .u32 (mi : Int), .bool nt, .int .i64 mn, .int .i64 mx, .slice ao 0 cap] 27)).alloc (.cells #[.int .i64 2, .int .u32 (pl : Int), .int .u32 (mi : Int), .bool nt, .int .i64 mn, .int .i64 mx, .slice none 0 0] 27)).alloc (.cells #[.int .i64 2, .int .u32 (pl : Int), .int .u32 (mi : Int), .bool nt, .int .i64 mn, .int .i64 mx, .slice none 0 0] 27)) B).node rfl 2 hpl hmi nt mn mx (lo' := B) (Nat.le_refl _)
    rw [HM.out]
    first | exact hP | (simpa using hP)

mutual
theorem rmirror_all : ∀ p : Pat, RMirOk p
  | .node k pl mi nt mn mx l => rmirror_step k pl mi nt mn mx l (rmirror_alls l)
theorem rmirror_alls : ∀ l : List Pat, ∀ p ∈ l, RMirOk p
  | [], _, h => by cases h
  | q :: l, p, h => (List.mem_cons.1 h).elim (fun e => e ▸ rmirror_all q) (fun h => rmirror_alls l p h)
end
end Go.Proofs.YtapfoaiibjdfnaaDoor
