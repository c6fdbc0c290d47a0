/- ablautlaw13.agree. -/
import Derived.Test.YtnnnbmkhgcpjoaaDoorRefLevels
import Derived.Test.YtnnnbmkhgcpjoaaDoorRefNil
import Derived.Test.YtnnnbmkhgcpjoaaDoorNil
import Derived.Test.YtnnnbmkhgcpjoaaDoorLevels
namespace Go.Proofs.YtnnnbmkhgcpjoaaDoor
open Go.RowKit Go.Ab

theorem len_lv (n : Nat) (f : Nat → Nat) : (zs ((List.range n).map f)).length = n := by simp [zs]
theorem rd_lv {w : World} {v : Value} {n : Nat} {f : Nat → Nat} (h : Rd w v n 1 (lvRow n f)) : Rd w v (zs ((List.range n).map f)).length 1 (ints (zs ((List.range n).map f))) := by
  rw [len_lv]; exact h
theorem rd_zs {w : World} {v : Value} {l : List Nat} (h : Rd w v l.length 1 (ints (zs l))) : Rd w v (zs l).length 1 (ints (zs l)) := by
  rw [zs_length]; exact h

set_option maxRecDepth 100000 in
set_option maxHeartbeats 8000000 in
theorem agree_ok {w : World} {base b r n : Nat} {R : Bin} (hn : n ≤ 64) (hR : Rel n R) (ho : OrdR w b n R) (hr : RefO w base r n R) (hT : Tab w) (x y : Int) :
    Calls Tryd.prog 32 #[.pointer (some ⟨b, 0, none⟩), .pointer (some ⟨r, 0, none⟩), .agg #[.int .i64 x, .int .i64 y]] w fun e w' => e = .returned (.bool true) ∧ Ext w w' := by
  go_enter Tryd.func32, Tryd.ntmps32
  go_wp2_with fail
  have hE0 : Ext w (w.alloc (.cells #[.int .i64 x, .int .i64 y] 33)) := (Turn.refl _ _).alloc _
  have ho0 := ho.keep hE0 id
  have hr0 := hr.ext hE0
  have hT0 := hT.keep hE0 id
  have c0 : (w.alloc (.cells #[.int .i64 x, .int .i64 y] 33)).cell? ⟨w.heap.size, 0, none⟩ = some (.int .i64 x) := by rw [World.cell?, new_at rfl]; rfl
  have c1 : (w.alloc (.cells #[.int .i64 x, .int .i64 y] 33)).cell? ⟨w.heap.size, 1, none⟩ = some (.int .i64 y) := by rw [World.cell?, new_at rfl]; rfl
  generalize (w.alloc (.cells #[.int .i64 x, .int .i64 y] 33)) = w0 at hE0 ho0 hr0 hT0 c0 c1 ⊢
  have hDm : ∀ m, Ext w0 (w0.drewN m) := fun m => (Turn.refl _ w0).drewN m
  obtain ⟨p, hp⟩ : ∃ p, isR n R x y = p := ⟨_, rfl⟩
  obtain ⟨q, hq⟩ : ∃ q, freeR n R x y = q := ⟨_, rfl⟩
  have k1 : ∀ m, Calls Tryd.prog 31 #[.pointer (some ⟨b, 0, none⟩), .int .i64 x, .int .i64 y] (w0.drewN m) fun e w' => e = .returned (.bool p) ∧ w' = w0.drewN m := fun m => by
    refine (is_R b n R hn _ (ho0.keep (hDm m) id) x y).mono ?_
    rintro e _ ⟨rfl, rfl⟩; rw [hp]; exact ⟨rfl, rfl⟩
  have k2 : ∀ m, Calls Tryd.prog 35 #[.pointer (some ⟨r, 0, none⟩), .int .i64 x, .int .i64 y] (w0.drewN m) fun e w' => e = .returned (.bool p) ∧ w' = w0.drewN m := fun m => by
    refine (refIs_ok (hr0.ext (hDm m)) x y).mono ?_
    rintro e _ ⟨rfl, rfl⟩; rw [hp]; exact ⟨rfl, rfl⟩
  have k3 : ∀ m, Calls Tryd.prog 33 #[.pointer (some ⟨b, 0, none⟩), .int .i64 x, .int .i64 y] (w0.drewN m) fun e w' => e = .returned (.bool q) ∧ w' = w0.drewN m := fun m => by
    refine (free_R b n R hn _ (ho0.keep (hDm m) id) x y).mono ?_
    rintro e _ ⟨rfl, rfl⟩; rw [hq]; exact ⟨rfl, rfl⟩
  have k4 : ∀ m, Calls Tryd.prog 36 #[.pointer (some ⟨r, 0, none⟩), .int .i64 x, .int .i64 y] (w0.drewN m) fun e w' => e = .returned (.bool q) ∧ w' = w0.drewN m := fun m => by
    refine (refFree_ok (hr0.ext (hDm m)) x y).mono ?_
    rintro e _ ⟨rfl, rfl⟩; rw [hq]; exact ⟨rfl, rfl⟩
  have k5 : ∀ m, Calls Tryd.prog 37 #[.pointer (some ⟨b, 0, none⟩)] (w0.drewN m) fun e w' => e = .returned (.int .i64 n) ∧ w' = w0.drewN m := fun m => by
    refine (len_any b n _ (Ord.n (ho0.keep (hDm m) id))).mono ?_
    rintro e _ ⟨rfl, rfl⟩; exact ⟨rfl, rfl⟩
  have k6 : ∀ m, Calls Tryd.prog 42 #[.pointer (some ⟨r, 0, none⟩)] (w0.drewN m) fun e w' => e = .returned (.int .i64 n) ∧ w' = w0.drewN m := fun m => by
    refine (refLen_ok (hr0.ext (hDm m))).mono ?_
    rintro e _ ⟨rfl, rfl⟩; exact ⟨rfl, rfl⟩
  have K1 := Lib.hid k1; have K2 := Lib.hid k2; have K3 := Lib.hid k3; have K4 := Lib.hid k4; have K5 := Lib.hid k5; have K6 := Lib.hid k6
  have HO := Lib.hid ho0; have HR := Lib.hid hr0; have HT := Lib.hid hT0; have HE := Lib.hid hE0
  clear k1 k2 k3 k4 k5 k6 hDm hp hq ho0 hr0 hT0 hE0 ho hr hT
  go_quiet (first
    | (go_at_call 31; exact Calls.quiet_of_same (K1.out _))
    | (go_at_call 35; exact Calls.quiet_of_same (K2.out _))
    | (go_at_call 33; exact Calls.quiet_of_same (K3.out _))
    | (go_at_call 36; exact Calls.quiet_of_same (K4.out _))
    | (go_at_call 37; exact Calls.quiet_of_same (K5.out _))
    | (go_at_call 42; exact Calls.quiet_of_same (K6.out _)))
  have hEq := HE.out.drewN nq
  have hDq : Ext w0 (w0.drewN nq) := (Turn.refl _ w0).drewN nq
  have ho0 : OrdR (w0.drewN nq) b n R := HO.out.keep hDq id
  have hr0 : RefO (w0.drewN nq) base r n R := HR.out.ext hDq
  have hT0 : Tab (w0.drewN nq) := HT.out.keep hDq id
  clear hDq K1 K2 K3 K4 K5 K6 HO HR HT HE c0 c1
  generalize w0.drewN nq = w0 at hEq ho0 hr0 hT0 ⊢
  have hE0 := hEq
  go_wp2_with fail
  refine (pairs_R b n R hn w0 ho0 hT0).mono ?_
  rintro e w1 ⟨v1, rfl, hE1, hO1⟩
  have ho1 := ho0.keep hE1 id
  have hr1 := hr0.ext hE1
  have hT1 := hT0.keep hE1 id
  go_wp2_with fail
  refine (refPairs_ok hn hr1).mono ?_
  rintro e w2 ⟨v2, rfl, hE2, hO2⟩
  have ho2 := ho1.keep hE2 id
  have hr2 := hr1.ext hE2
  have hT2 := hT1.keep hE2 id
  have hO12 := own_ext hO1 hE2
  go_wp2_with fail
  refine (same_any v1 v2 _ _ w2 (Rd.of_own hO12) (Rd.of_own hO2)).mono ?_
  rintro e _ ⟨rfl, m2, rfl⟩
  have hE2' : Ext w2 (w2.drewN m2) := (Turn.refl _ _).drewN m2
  generalize w2.drewN m2 = w3 at hE2' ⊢
  have ho3 := ho2.keep hE2' id
  have hr3 := hr2.ext hE2'
  have hT3 := hT2.keep hE2' id
  rw [decide_eq_true rfl]
  go_wp2_with fail
  refine (reduced_R b n R hn w3 ho3 hT3).mono ?_
  rintro e w4 ⟨v4, rfl, hE4, hO4⟩
  have ho4 := ho3.keep hE4 id
  have hr4 := hr3.ext hE4
  have hT4 := hT3.keep hE4 id
  go_wp2_with fail
  refine (refReduced_ok hn hr4).mono ?_
  rintro e w5 ⟨v5, rfl, hE5, hO5⟩
  have ho5 := ho4.keep hE5 id
  have hr5 := hr4.ext hE5
  have hT5 := hT4.keep hE5 id
  have hO45 := own_ext hO4 hE5
  go_wp2_with fail
  refine (same_any v4 v5 _ _ w5 (Rd.of_own hO45) (Rd.of_own hO5)).mono ?_
  rintro e _ ⟨rfl, m5, rfl⟩
  have hE5' : Ext w5 (w5.drewN m5) := (Turn.refl _ _).drewN m5
  generalize w5.drewN m5 = w6 at hE5' ⊢
  have ho6 := ho5.keep hE5' id
  have hr6 := hr5.ext hE5'
  have hT6 := hT5.keep hE5' id
  rw [decide_eq_true rfl]
  go_wp2_with fail
  refine (levels_any b n R hn hR w6 ho6 hT6).mono ?_
  rintro e w7 ⟨v7, rfl, hE7, hO7⟩
  have ho7 := ho6.keep hE7 id
  have hr7 := hr6.ext hE7
  have hT7 := hT6.keep hE7 id
  go_wp2_with fail
  refine (refLevels_ok hn hR hr7).mono ?_
  rintro e w8 ⟨v8, rfl, hE8, hO8⟩
  have ho8 := ho7.keep hE8 id
  have hr8 := hr7.ext hE8
  have hT8 := hT7.keep hE8 id
  have hO78 := own_ext hO7 hE8
  go_wp2_with fail
  refine (equal_any v7 v8 (zs ((List.range n).map (lvl n R))) (zs ((List.range n).map (lvl n R))) w8 (rd_lv (Rd.of_own hO78)) (rd_lv (Rd.of_own hO8))).mono ?_
  rintro e _ ⟨rfl, m8, rfl⟩
  have hE8' : Ext w8 (w8.drewN m8) := (Turn.refl _ _).drewN m8
  generalize w8.drewN m8 = w9 at hE8' ⊢
  have ho9 := ho8.keep hE8' id
  have hr9 := hr8.ext hE8'
  have hT9 := hT8.keep hE8' id
  rw [decide_eq_true rfl]
  go_wp2_with fail
  refine (first_any b n R hn hR w9 ho9).mono ?_
  rintro e w10 ⟨v10, rfl, hE10, hO10, _⟩
  have hr10 := hr9.ext hE10
  go_wp2_with fail
  refine (refFirst_ok hn hR hr10).mono ?_
  rintro e w11 ⟨v11, rfl, hE11, hO11, _⟩
  have hO1011 := own_ext hO10 hE11
  go_wp2_with fail
  refine (equal_any v10 v11 (zs (firstL n R)) (zs (firstL n R)) w11 (rd_zs (Rd.of_own hO1011)) (rd_zs (Rd.of_own hO11))).mono ?_
  rintro e _ ⟨rfl, m11, rfl⟩
  have hE11' : Ext w11 (w11.drewN m11) := (Turn.refl _ _).drewN m11
  generalize w11.drewN m11 = w12 at hE11' ⊢
  rw [decide_eq_true rfl]
  go_wp2
  go_ret
  exact ⟨rfl, ((((((((((((hE0.trans hE1).trans hE2).trans hE2').trans hE4).trans hE5).trans hE5').trans hE7).trans hE8).trans hE8').trans hE10).trans hE11).trans hE11')⟩

theorem rd_nil (w : World) (a : Option Addr) (c sz : Nat) : Rd w (.slice a 0 c) 0 sz [] := ⟨by simp, by simp [maxLen], a, c, rfl, fun h => by omega⟩

set_option maxRecDepth 100000 in
set_option maxHeartbeats 8000000 in
theorem agree_nil {w : World} (x y : Int) :
    Calls Tryd.prog 32 #[.pointer none, .pointer none, .agg #[.int .i64 x, .int .i64 y]] w fun e w' => e = .returned (.bool true) ∧ Ext w w' := by
  have hz : ∀ w, ZOrd w none := fun w => .inl rfl
  go_enter Tryd.func32, Tryd.ntmps32
  go_wp2_with fail
  have hE0 : Ext w (w.alloc (.cells #[.int .i64 x, .int .i64 y] 33)) := (Turn.refl _ _).alloc _
  have c0 : (w.alloc (.cells #[.int .i64 x, .int .i64 y] 33)).cell? ⟨w.heap.size, 0, none⟩ = some (.int .i64 x) := by rw [World.cell?, new_at rfl]; rfl
  have c1 : (w.alloc (.cells #[.int .i64 x, .int .i64 y] 33)).cell? ⟨w.heap.size, 1, none⟩ = some (.int .i64 y) := by rw [World.cell?, new_at rfl]; rfl
  generalize (w.alloc (.cells #[.int .i64 x, .int .i64 y] 33)) = w0 at hE0 c0 c1 ⊢
  have k1 : ∀ m, Calls Tryd.prog 31 #[.pointer none, .int .i64 x, .int .i64 y] (w0.drewN m) fun e w' => e = .returned (.bool false) ∧ w' = w0.drewN m := fun m => by
    refine (is_z (hz _) x y).mono ?_
    rintro e _ ⟨rfl, rfl⟩; exact ⟨rfl, rfl⟩
  have k2 : ∀ m, Calls Tryd.prog 35 #[.pointer none, .int .i64 x, .int .i64 y] (w0.drewN m) fun e w' => e = .returned (.bool false) ∧ w' = w0.drewN m := fun m => by
    refine (refIs_nil x y _).mono ?_
    rintro e _ ⟨rfl, rfl⟩; exact ⟨rfl, rfl⟩
  have k3 : ∀ m, Calls Tryd.prog 33 #[.pointer none, .int .i64 x, .int .i64 y] (w0.drewN m) fun e w' => e = .returned (.bool false) ∧ w' = w0.drewN m := fun m => by
    refine (free_z (hz _) x y).mono ?_
    rintro e _ ⟨rfl, rfl⟩; exact ⟨rfl, rfl⟩
  have k4 : ∀ m, Calls Tryd.prog 36 #[.pointer none, .int .i64 x, .int .i64 y] (w0.drewN m) fun e w' => e = .returned (.bool false) ∧ w' = w0.drewN m := fun m => by
    refine (refFree_nil x y _).mono ?_
    rintro e _ ⟨rfl, rfl⟩; exact ⟨rfl, rfl⟩
  have k5 : ∀ m, Calls Tryd.prog 37 #[.pointer none] (w0.drewN m) fun e w' => e = .returned (.int .i64 0) ∧ w' = w0.drewN m := fun m => by
    refine (len_z (hz _)).mono ?_
    rintro e _ ⟨rfl, rfl⟩; exact ⟨rfl, rfl⟩
  have k6 : ∀ m, Calls Tryd.prog 42 #[.pointer none] (w0.drewN m) fun e w' => e = .returned (.int .i64 0) ∧ w' = w0.drewN m := fun m => by
    refine (refLen_nil _).mono ?_
    rintro e _ ⟨rfl, rfl⟩; exact ⟨rfl, rfl⟩
  have HZ := Lib.hid hz
  have K1 := Lib.hid k1; have K2 := Lib.hid k2; have K3 := Lib.hid k3; have K4 := Lib.hid k4; have K5 := Lib.hid k5; have K6 := Lib.hid k6
  clear k1 k2 k3 k4 k5 k6 hz
  go_quiet (first
    | (go_at_call 31; exact Calls.quiet_of_same (K1.out _))
    | (go_at_call 35; exact Calls.quiet_of_same (K2.out _))
    | (go_at_call 33; exact Calls.quiet_of_same (K3.out _))
    | (go_at_call 36; exact Calls.quiet_of_same (K4.out _))
    | (go_at_call 37; exact Calls.quiet_of_same (K5.out _))
    | (go_at_call 42; exact Calls.quiet_of_same (K6.out _)))
  have hEq := hE0.drewN nq
  clear K1 K2 K3 K4 K5 K6 c0 c1 hE0
  generalize w0.drewN nq = w0 at hEq ⊢
  have hE0 := hEq
  have hz := HZ.out
  go_wp2_with fail
  refine (pairs_z (hz _)).mono ?_
  rintro e w1 ⟨rfl, hE1⟩
  go_wp2_with fail
  refine (refPairs_nil _).mono ?_
  rintro e _ ⟨rfl, rfl⟩
  go_wp2_with fail
  refine (same_any _ _ [] [] _ (rd_nil _ _ _ _) (rd_nil _ _ _ _)).mono ?_
  rintro e _ ⟨rfl, m1, rfl⟩
  have hE1' : Ext w1 (w1.drewN m1) := (Turn.refl _ _).drewN m1
  generalize w1.drewN m1 = w3 at hE1' ⊢
  rw [decide_eq_true rfl]
  go_wp2_with fail
  refine (reduced_z (hz _)).mono ?_
  rintro e w4 ⟨rfl, hE4⟩
  go_wp2_with fail
  refine (refReduced_nil _).mono ?_
  rintro e _ ⟨rfl, rfl⟩
  go_wp2_with fail
  refine (same_any _ _ [] [] _ (rd_nil _ _ _ _) (rd_nil _ _ _ _)).mono ?_
  rintro e _ ⟨rfl, m4, rfl⟩
  have hE4' : Ext w4 (w4.drewN m4) := (Turn.refl _ _).drewN m4
  generalize w4.drewN m4 = w6 at hE4' ⊢
  rw [decide_eq_true rfl]
  go_wp2_with fail
  refine (levels_z (hz _)).mono ?_
  rintro e w7 ⟨a7, q7, rfl, hE7⟩
  go_wp2_with fail
  refine (refLevels_nil _).mono ?_
  rintro e _ ⟨rfl, rfl⟩
  go_wp2_with fail
  refine (equal_any _ _ [] [] _ (rd_nil _ _ _ _) (rd_nil _ _ _ _)).mono ?_
  rintro e _ ⟨rfl, m7, rfl⟩
  have hE7' : Ext w7 (w7.drewN m7) := (Turn.refl _ _).drewN m7
  generalize w7.drewN m7 = w9 at hE7' ⊢
  rw [decide_eq_true rfl]
  go_wp2_with fail
  refine (first_z (hz _)).mono ?_
  rintro e _ ⟨rfl, rfl⟩
  go_wp2_with fail
  refine (refFirst_nil _).mono ?_
  rintro e _ ⟨rfl, rfl⟩
  go_wp2_with fail
  refine (equal_any _ _ [] [] _ (rd_nil _ _ _ _) (rd_nil _ _ _ _)).mono ?_
  rintro e _ ⟨rfl, m9, rfl⟩
  have hE9' : Ext w9 (w9.drewN m9) := (Turn.refl _ _).drewN m9
  generalize w9.drewN m9 = w10 at hE9' ⊢
  rw [decide_eq_true rfl]
  go_wp2
  go_ret
  exact ⟨rfl, ((((((hE0.trans hE1).trans hE1').trans hE4).trans hE4').trans hE7).trans hE7').trans hE9'⟩
end Go.Proofs.YtnnnbmkhgcpjoaaDoor
