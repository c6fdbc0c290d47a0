/- ablautlaw13.works. -/
import Derived.Test.YtnnnbmkhgcpjoaaDoorPlay
import Derived.Test.YtnnnbmkhgcpjoaaDoorLevels
import Derived.Test.YtnnnbmkhgcpjoaaDoorAllows
import Derived.Test.YtnnnbmkhgcpjoaaDoorCount
namespace Go.Proofs.YtnnnbmkhgcpjoaaDoor
open Go.RowKit Go.Ab

theorem Rd.lit {w : World} {l : List Value} {t : TypeId} {n sz cap : Nat} (hl : l.length = n * sz) (hn : n ≤ maxLen) : Rd (w.alloc (.cells l.toArray t)) (.slice (some ⟨w.heap.size, 0, none⟩) n cap) n sz l := by
  refine ⟨hl, hn, _, _, rfl, fun _ => ⟨_, _, rfl, by simp, fun j hj => ?_⟩⟩
  have hjl : j < l.length := by omega
  have := new_cells (w := w) (l := l) (t := t) j (l.getD j undef) (by simp [List.getD_eq_getElem?_getD, hjl])
  cases j with
  | zero => simpa [Addr.add] using this
  | succ j => simpa [Addr.add] using this

def r5 : Nat → Nat → Bool := befN 5 (befN 5 (befN 5 (fun _ _ => false) 3 1) 1 0) 0 3
theorem r5_a : befC 5 (fun _ _ => false) 3 1 = 0 := by decide
theorem r5_b : befC 5 (befN 5 (fun _ _ => false) 3 1) 1 0 = 0 := by decide
theorem r5_c : befC 5 (befN 5 (befN 5 (fun _ _ => false) 3 1) 1 0) 0 3 = 9 := by decide
theorem r5_count : countR 5 r5 = 20 := by decide +kernel
theorem r5_allows : allowsR 5 r5 [3, 2, 1, 4, 0] = (true, 0) := by decide +kernel
theorem r5_pairs : pairsR 5 r5 = [(1, 0), (3, 0), (3, 1)] := by decide +kernel
theorem r5_red : redR 5 r5 = [(1, 0), (3, 1)] := by decide +kernel
theorem r5_first : zs (firstL 5 r5) = [2, 3, 1, 0, 4] := by decide +kernel
theorem r5_levels : (List.range 5).map (levF 5 r5 (firstL 5 r5)) = [2, 1, 0, 0, 0] := by decide +kernel
theorem r5_rel : Rel 5 r5 := befN_rel (befN_rel (befN_rel (Rel.empty 5) _ _) _ _) _ _

set_option maxHeartbeats 8000000 in
theorem works_any (w : World) (hT : Tab w) :
    Calls Tryd.prog 14 #[] w fun e w' => e = .returned (.bool true) ∧ Ext w w' := by
  have hw0 : 0 < w.heap.size := by
    have := hT 0 (by decide)
    apply Nat.lt_of_not_le; intro h
    simp [World.cell?, Array.getElem?_eq_none h] at this
  have n64 : 5 ≤ 64 := by decide
  go_enter Tryd.func14, Tryd.ntmps14
  go_wp2_with fail
  refine (new_R 5 n64 w).mono ?_
  rintro e w1 ⟨rfl, hE1, ho1⟩
  have hT1 := hT.keep hE1 id
  go_wp2_with fail
  refine (before_R _ 5 _ n64 (Rel.empty 5) w1 ho1 hT1 (by omega) 3 1).mono ?_
  rintro e w2 ⟨rfl, ht2, ho2⟩
  rw [r5_a]
  have hE2 : Ext w w2 := hE1.after ht2 (fun b' h1 h2 => by omega)
  have hT2 := hT.keep hE2 id
  go_wp2_with fail
  refine (before_R _ 5 _ n64 (befN_rel (Rel.empty 5) _ _) w2 ho2 hT2 (by omega) 1 0).mono ?_
  rintro e w3 ⟨rfl, ht3, ho3⟩
  rw [r5_b]
  have hE3 : Ext w w3 := hE2.after ht3 (fun b' h1 h2 => by omega)
  have hT3 := hT.keep hE3 id
  go_wp2_with fail
  refine (before_R _ 5 _ n64 (befN_rel (befN_rel (Rel.empty 5) _ _) _ _) w3 ho3 hT3 (by omega) 0 3).mono ?_
  rintro e w4 ⟨rfl, ht4, ho4⟩
  rw [r5_c]
  have hE4 : Ext w w4 := hE3.after ht4 (fun b' h1 h2 => by omega)
  have hT4 := hT.keep hE4 id
  change OrdR w4 w.heap.size 5 r5 at ho4
  go_wp2_with fail
  refine (count_any _ 5 _ (by decide) w4 ho4 hT4).mono ?_
  rintro e w5 ⟨rfl, hE5⟩
  rw [r5_count]
  go_wp2_with fail
  have hE6 : Ext w5 (w5.alloc (.cells #[.int .i64 3, .int .i64 2, .int .i64 1, .int .i64 4, .int .i64 0] 3)) := (Turn.refl _ _).alloc _
  have ho5 := (ho4.keep hE5 id).keep hE6 id
  refine (allows_any _ 5 r5 n64 _ ho5 _ [3, 2, 1, 4, 0] (Rd.lit (l := ints [3, 2, 1, 4, 0]) rfl (by decide))).mono ?_
  rintro e w6 ⟨rfl, rfl⟩
  rw [r5_allows]
  have hE06 := (hE4.trans hE5).trans hE6
  have hT6 := hT.keep hE06 id
  generalize (w5.alloc (.cells #[.int .i64 3, .int .i64 2, .int .i64 1, .int .i64 4, .int .i64 0] 3)) = w6 at ho5 hE06 hT6 ⊢
  go_wp2_with fail
  refine (pairs_R _ 5 r5 n64 w6 ho5 hT6).mono ?_
  rintro e w7 ⟨v7, rfl, hE7, hO7⟩
  rw [r5_pairs] at hO7
  go_wp2_with fail
  have hX8 : Ext w7 (w7.alloc (.cells #[.int .i64 1, .int .i64 0, .int .i64 3, .int .i64 0, .int .i64 3, .int .i64 1] 33)) := (Turn.refl _ _).alloc _
  refine (same_any _ _ _ [(1, 0), (3, 0), (3, 1)] _ ((Rd.of_own hO7).ext hX8) (Rd.lit (l := prs [(1, 0), (3, 0), (3, 1)]) rfl (by decide))).mono ?_
  rintro e _ ⟨he, m8, rfl⟩
  obtain rfl : e = .returned (.bool true) := by rw [he]; simp
  clear he
  have hZ8 : Ext w7 ((w7.alloc (.cells #[.int .i64 1, .int .i64 0, .int .i64 3, .int .i64 0, .int .i64 3, .int .i64 1] 33)).drewN m8) := hX8.drewN _
  have hY8 := (hE06.trans hE7).trans hZ8
  have hT8 := hT.keep hY8 id
  have ho8 := (ho5.keep hE7 id).keep hZ8 id
  generalize ((w7.alloc (.cells #[.int .i64 1, .int .i64 0, .int .i64 3, .int .i64 0, .int .i64 3, .int .i64 1] 33)).drewN m8) = w8 at hZ8 hY8 hT8 ho8 ⊢
  go_wp2_with fail
  refine (reduced_R _ 5 r5 n64 w8 ho8 hT8).mono ?_
  rintro e w9 ⟨v9, rfl, hE9, hO9⟩
  rw [r5_red] at hO9
  go_wp2_with fail
  have hX10 : Ext w9 (w9.alloc (.cells #[.int .i64 1, .int .i64 0, .int .i64 3, .int .i64 1] 33)) := (Turn.refl _ _).alloc _
  refine (same_any _ _ _ [(1, 0), (3, 1)] _ ((Rd.of_own hO9).ext hX10) (Rd.lit (l := prs [(1, 0), (3, 1)]) rfl (by decide))).mono ?_
  rintro e _ ⟨he, m10, rfl⟩
  obtain rfl : e = .returned (.bool true) := by rw [he]; simp
  clear he
  have hZ10 : Ext w9 ((w9.alloc (.cells #[.int .i64 1, .int .i64 0, .int .i64 3, .int .i64 1] 33)).drewN m10) := hX10.drewN _
  have hY10 := (hY8.trans hE9).trans hZ10
  have hT10 := hT.keep hY10 id
  have ho10 := (ho8.keep hE9 id).keep hZ10 id
  generalize ((w9.alloc (.cells #[.int .i64 1, .int .i64 0, .int .i64 3, .int .i64 1] 33)).drewN m10) = w10 at hZ10 hY10 hT10 ho10 ⊢
  go_wp2_with fail
  refine (levels_any _ 5 r5 n64 r5_rel w10 ho10 hT10).mono ?_
  rintro e w11 ⟨v11, rfl, hE11, hO11⟩
  rw [show lvRow 5 (levF 5 r5 (firstL 5 r5)) = ints [2, 1, 0, 0, 0] by rw [lvRow, r5_levels]; simp [zs, ints]] at hO11
  go_wp2_with fail
  have hX12 : Ext w11 (w11.alloc (.cells #[.int .i64 2, .int .i64 1, .int .i64 0, .int .i64 0, .int .i64 0] 3)) := (Turn.refl _ _).alloc _
  refine (equal_any _ _ _ [2, 1, 0, 0, 0] _ ((Rd.of_own hO11).ext hX12) (Rd.lit (l := ints [2, 1, 0, 0, 0]) rfl (by decide))).mono ?_
  rintro e _ ⟨he, m12, rfl⟩
  obtain rfl : e = .returned (.bool true) := by rw [he]; simp
  clear he
  have hZ12 : Ext w11 ((w11.alloc (.cells #[.int .i64 2, .int .i64 1, .int .i64 0, .int .i64 0, .int .i64 0] 3)).drewN m12) := hX12.drewN _
  have hY12 := (hY10.trans hE11).trans hZ12
  have hT12 := hT.keep hY12 id
  have ho12 := (ho10.keep hE11 id).keep hZ12 id
  generalize ((w11.alloc (.cells #[.int .i64 2, .int .i64 1, .int .i64 0, .int .i64 0, .int .i64 0] 3)).drewN m12) = w12 at hZ12 hY12 hT12 ho12 ⊢
  go_wp2_with fail
  refine (first_any _ 5 r5 n64 r5_rel w12 ho12).mono ?_
  rintro e w13 ⟨v13, rfl, hE13, hO13, _⟩
  rw [show (firstL 5 r5).length = 5 by decide +kernel, r5_first] at hO13
  go_wp2_with fail
  have hX14 : Ext w13 (w13.alloc (.cells #[.int .i64 2, .int .i64 3, .int .i64 1, .int .i64 0, .int .i64 4] 3)) := (Turn.refl _ _).alloc _
  refine (equal_any _ _ _ [2, 3, 1, 0, 4] _ ((Rd.of_own hO13).ext hX14) (Rd.lit (l := ints [2, 3, 1, 0, 4]) rfl (by decide))).mono ?_
  rintro e _ ⟨he, m14, rfl⟩
  obtain rfl : e = .returned (.bool true) := by rw [he]; simp
  clear he
  have hZ14 : Ext w13 ((w13.alloc (.cells #[.int .i64 2, .int .i64 3, .int .i64 1, .int .i64 0, .int .i64 4] 3)).drewN m14) := hX14.drewN _
  have hY14 := (hY12.trans hE13).trans hZ14
  have hT14 := hT.keep hY14 id
  have ho14 := (ho12.keep hE13 id).keep hZ14 id
  generalize ((w13.alloc (.cells #[.int .i64 2, .int .i64 3, .int .i64 1, .int .i64 0, .int .i64 4] 3)).drewN m14) = w14 at hZ14 hY14 hT14 ho14 ⊢
  go_wp2
  go_ret
  exact ⟨rfl, hY14⟩
end Go.Proofs.YtnnnbmkhgcpjoaaDoor
