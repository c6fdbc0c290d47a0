/- ablautlaw13.ChronChains: the walk. -/
import Derived.Test.YtnnnbmkhgcpjoaaDoorWorks
import Derived.Test.YtnnnbmkhgcpjoaaDoorChainLaw
import Derived.Test.YtnnnbmkhgcpjoaaDoorArgs
import Derived.RegionTactic
namespace Go.Proofs.YtnnnbmkhgcpjoaaDoor
open Go.RowKit Go.Ab

theorem own_lit {w : World} {e : TypeId} {base : Nat} (hb : base ≤ w.heap.size) (u : Value) : (w.alloc (.cells #[u] e)).ownsRow base e 1 (.slice (some ⟨w.heap.size, 0, none⟩) 1 1) 1 [u] :=
  ⟨rfl, .inr ⟨w.heap.size, 1, #[u], rfl, hb, World.alloc_heap_new _ _, Nat.le_refl _, by decide, rfl, by simp⟩⟩

set_option maxRecDepth 100000 in
set_option maxHeartbeats 8000000 in
theorem chains_law (w : World) (hT : Tab w) (n : Nat) (hn : n < 256) (wh : Nat) (hwh : wh < 256) :
    Calls Tryd.prog 6 #[.int .u8 n, .int .u8 wh] w fun e w' => e = .returned (.bool true) ∧ Ext w w' := by
  have hw0 : 0 < w.heap.size := by
    have := hT 0 (by decide)
    apply Nat.lt_of_not_le; intro h
    simp [World.cell?, Array.getElem?_eq_none h] at this
  have hr16 : n % 16 < 16 := Nat.mod_lt _ (by decide)
  have hm0 : ((n : Int).tmod 16) = ((n % 16 : Nat) : Int) := rfl
  obtain ⟨r, hr⟩ : ∃ r, n % 16 = r := ⟨_, rfl⟩
  rw [hr] at hr16 hm0
  clear hr
  obtain ⟨m, hm⟩ : ∃ m, 1 + r = m := ⟨_, rfl⟩
  have hm1 : (1 : Int) + (r : Int) = (m : Int) := by omega
  have hm16 : m ≤ 16 := by omega
  have hm64 : m ≤ 64 := by omega
  have h1m : 1 ≤ m := by omega
  clear hm
  go_enter Tryd.func6, Tryd.ntmps6
  go_wp2_with fail
  clear hm0 hm1
  refine (new_R m hm64 w).mono ?_
  rintro e w1 ⟨rfl, hE1, oA1⟩
  go_wp2_with fail
  refine (new_R m hm64 w1).mono ?_
  rintro e w2 ⟨rfl, hE2, oF2⟩
  have oA2 := oA1.keep hE2 id
  have l1 := oA1.lt
  have l2 := oF2.lt
  obtain ⟨pF, hpF⟩ : ∃ p, w1.heap.size = p := ⟨_, rfl⟩
  rw [hpF] at oF2 l1 l2 ⊢
  have hE02 := hE1.trans hE2
  change OrdR w2 pF m noR at oF2
  change OrdR w2 w.heap.size m noR at oA2
  rw [← chR_one] at oA2
  clear hE1 hE2 oA1 hpF
  go_wp2
  have hOl : (w2.alloc (.cells #[.int .i64 0] 3)).ownsRow w2.heap.size 3 1 (.slice (some ⟨w2.heap.size, 0, none⟩) 1 1) 1 (ints (zs (List.range 1))) := own_lit (Nat.le_refl _) _
  have hEl : Ext w2 (w2.alloc (.cells #[.int .i64 0] 3)) := (Turn.refl _ _).alloc _
  refine wp_loop (fun a W => ∃ (i F : Nat) (vo : Value), 1 ≤ i ∧ i ≤ m ∧ F = fact i ∧ a.defers = [] ∧ (a.tmps.size = 187 ∧ a.tmps.getD 1 undef = .int .u8 wh ∧ a.tmps.getD 5 undef = .int .i64 m ∧ a.tmps.getD 6 undef = .pointer (some ⟨w.heap.size, 0, none⟩) ∧ a.tmps.getD 8 undef = .pointer (some ⟨pF, 0, none⟩) ∧ a.tmps.getD 10 undef = .int .i64 F ∧ a.tmps.getD 11 undef = vo ∧ a.tmps.getD 12 undef = .int .i64 i) ∧
      OrdR W w.heap.size m (chR i) ∧ OrdR W pF m noR ∧ W.ownsRow w2.heap.size 3 1 vo i (ints (zs (List.range i))) ∧ Ext w W)
    (fun a _ => m - (intOf (a.tmps.getD 12 undef)).toNat) ?_ ?_
  · exact ⟨1, 1, _, by omega, h1m, rfl, rfl, ⟨rfl, rfl, rfl, rfl, rfl, rfl, rfl, rfl⟩, oA2.keep hEl id, oF2.keep hEl id, hOl, hE02.trans hEl⟩
  clear hOl hEl oA2 oF2
  rintro ⟨t, _⟩ W ⟨i, F, vo, hi1, him, hF, hds, ⟨hsz, f1, f5, f6, f8, f10, f11, f12⟩, oA, oF, hO, hE⟩
  subst hds
  obtain ⟨u', hu⟩ := frame_fun hsz
  obtain ⟨u, rfl⟩ : ∃ x, x = u' := ⟨_, rfl⟩
  have hu' : t = #[u 0, u 1, u 2, u 3, u 4, u 5, u 6, u 7, u 8, u 9, u 10, u 11, u 12, u 13, u 14, u 15, u 16, u 17, u 18, u 19, u 20, u 21, u 22, u 23, u 24, u 25, u 26, u 27, u 28, u 29, u 30, u 31, u 32, u 33, u 34, u 35, u 36, u 37, u 38, u 39, u 40, u 41, u 42, u 43, u 44, u 45, u 46, u 47, u 48, u 49, u 50, u 51, u 52, u 53, u 54, u 55, u 56, u 57, u 58, u 59, u 60, u 61, u 62, u 63, u 64, u 65, u 66, u 67, u 68, u 69, u 70, u 71, u 72, u 73, u 74, u 75, u 76, u 77, u 78, u 79, u 80, u 81, u 82, u 83, u 84, u 85, u 86, u 87, u 88, u 89, u 90, u 91, u 92, u 93, u 94, u 95, u 96, u 97, u 98, u 99, u 100, u 101, u 102, u 103, u 104, u 105, u 106, u 107, u 108, u 109, u 110, u 111, u 112, u 113, u 114, u 115, u 116, u 117, u 118, u 119, u 120, u 121, u 122, u 123, u 124, u 125, u 126, u 127, u 128, u 129, u 130, u 131, u 132, u 133, u 134, u 135, u 136, u 137, u 138, u 139, u 140, u 141, u 142, u 143, u 144, u 145, u 146, u 147, u 148, u 149, u 150, u 151, u 152, u 153, u 154, u 155, u 156, u 157, u 158, u 159, u 160, u 161, u 162, u 163, u 164, u 165, u 166, u 167, u 168, u 169, u 170, u 171, u 172, u 173, u 174, u 175, u 176, u 177, u 178, u 179, u 180, u 181, u 182, u 183, u 184, u 185, u 186] := hu
  clear hu
  subst hu'
  change u 1 = _ at f1
  change u 5 = _ at f5
  change u 6 = _ at f6
  change u 8 = _ at f8
  change u 10 = _ at f10
  change u 11 = _ at f11
  change u 12 = _ at f12
  rw [f1, f5, f6, f8, f10, f11, f12]
  clear f1 f5 f6 f8 f10 f11 f12 hsz
  have lA := oA.lt
  have lF := oF.lt
  have hTW := hT.keep hE id
  have s2 := hE02.size
  have l2W : w2.heap.size < W.heap.size := by
    obtain ⟨ao, cp, rfl⟩ := own_slice hO
    rcases hO.2 with ⟨_, h⟩ | ⟨g, cap, cur, e, hb, hg, _⟩
    · rw [h] at hi1; omega
    · have := (Array.getElem?_eq_some_iff.1 hg).1; omega
  by_cases hlt : i < m
  · obtain ⟨k, rfl⟩ : ∃ k, i = k + 1 := ⟨i - 1, by omega⟩
    have hkm : (k : Int) + 1 < (m : Int) := by omega
    have q1 : befC m (chR (k + 1)) (k : Int) ((k : Int) + 1) = 0 := by have := chR_bef (n := m) (k := k) hlt; simpa using this
    have q2 : befN m (chR (k + 1)) (k : Int) ((k : Int) + 1) = chR (k + 2) := by
      rw [befN, if_pos q1, show ((k : Int)).toNat = k by omega, show ((k : Int) + 1).toNat = k + 1 by omega]; exact chR_step k
    have hF2 : (k + 2) * F = fact (k + 2) := by rw [hF]; rfl
    have hFb : fact (k + 2) ≤ 20922789888000 := fact_small (by omega)
    obtain ⟨F2, hF2'⟩ : ∃ F2, fact (k + 2) = F2 := ⟨_, rfl⟩
    rw [hF2'] at hF2 hFb
    have hF3 : (F : Int) * ((k : Int) + 1 + 1) = (F2 : Int) := by
      rw [← hF2, Int.mul_comm]; simp only [Int.natCast_mul, Int.natCast_add]; rfl
    have hF4 : IntKind.i64.wrap (F2 : Int) = (F2 : Int) := IntWalk.i64_in _ (by omega)
    have hFle : F ≤ F2 := by
      have := Nat.le_mul_of_pos_left F (show 0 < k + 2 by omega)
      omega
    have HF2 := Lib.hid hF2'; have Q2 := Lib.hid q2
    clear hF hF2 hF2' q2
    go_wp2_with fail
    refine (before_R w.heap.size m (chR (k + 1)) hm64 (chR_rel (by omega)) W oA hTW (by omega) k ((k : Int) + 1)).mono ?_
    rintro e W3 ⟨rfl, ht3, oA3⟩
    rw [q1]
    rw [Q2.out] at oA3
    have hE3 : Ext w W3 := hE.after ht3 (fun b' h1 h2 => by omega)
    have oF3 := oF.keep ht3 (by omega)
    have hgo : ∀ g, vo.ownBlock = some g → ¬ g = w.heap.size := fun g hg e => by have := (hO.lt g hg).1; omega
    have hO3 := own_keep hO ht3 hgo
    have l2W3 : w2.heap.size < W3.heap.size := by have := ht3.size; omega
    clear hO ht3 oA oF hE hgo
    obtain ⟨ao, cp, rfl⟩ := own_slice hO3
    go_wp2_with (at_builtin; refine append_row rfl (.tmp 67) (.tmp 69) 23 rfl w2.heap.size 3 _ 1 8 Tryd.underlying23 Tryd.infoInt rfl (by decide) _ _ _ rfl (own_ext hO3 ((Turn.refl _ _).alloc _)) ⟨_, 0, none⟩ 1 1 [.int .i64 ((k : Int) + 1)] rfl rfl new_cells ?c2 ?c3 ?c4 ?c5 ?_)
    case c2 => first | rfl | (intro u hu; simp at hu; subst hu; rfl)
    case c3 => unfold maxLen; omega
    case c4 => omega
    case c5 => simp; omega
    intro ao2 c2 w4 hO2 hT2 _
    have hTw4 : Turn (fun b => (Value.slice ao (k + 1) cp).ownBlock = some b) W3 w4 := Turn.trans ((Turn.refl _ W3).alloc _) hT2
    have hE4 : Ext w w4 := hE3.after hTw4 (fun b' h1 e => by have := (hO3.lt _ e).1; omega)
    have oA4 := oA3.keep hTw4 (fun e => by have := (hO3.lt _ e).1; omega)
    have oF4 := oF3.keep hTw4 (fun e => by have := (hO3.lt _ e).1; omega)
    clear hT2 hTw4 hO3 hE3 oA3 oF3
    go_wp2
    refine ⟨⟨k + 2, F2, _, by omega, by omega, HF2.out.symm, by first | rfl | trivial, ⟨rfl, rfl, rfl, rfl, rfl, rfl, rfl, rfl⟩, oA4, oF4, ?_, hE4⟩, by simp [intOf]; omega⟩
    show World.ownsRow w4 _ _ _ (.slice ao2 (k + 1 + 1) c2) (k + 2) (ints (zs (List.range (k + 2))))
    simpa [List.range_succ, zs, ints, List.append_assoc] using hO2
  · obtain rfl : i = m := by omega
    have hok := chain_all i hm16
    simp only [chainOk, Bool.and_eq_true, decide_eq_true_eq] at hok
    obtain ⟨⟨⟨⟨⟨k1, k2⟩, k3⟩, k4⟩, k5⟩, k6⟩ := hok
    have hcf : countR i noR = F := by rw [hF]; exact count_free i
    have hFb : F ≤ 20922789888000 := by rw [hF]; exact fact_small hm16
    have hrA : Rel i (chR i) := chR_rel (Nat.le_refl _)
    obtain ⟨ao, cp, rfl⟩ := own_slice hO
    clear hF hlt
    go_wp2_with fail
    refine (count_any _ i (chR i) hm16 W oA hTW).mono ?_
    rintro e x1 ⟨rfl, hX1⟩
    rw [k1]
    have oA1 := oA.keep hX1 id
    have oF1 := oF.keep hX1 id
    have hO1 := own_ext hO hX1
    have hE1 := hE.trans hX1
    have hT1 := hT.keep hE1 id
    clear oA oF hO hE hTW hX1 lA lF
    go_wp2_with fail
    refine (count_any _ i noR hm16 x1 oF1 hT1).mono ?_
    rintro e x2 ⟨rfl, hX2⟩
    rw [hcf]
    have oA2 := oA1.keep hX2 id
    have oF2 := oF1.keep hX2 id
    have hO2 := own_ext hO1 hX2
    have hE2 := hE1.trans hX2
    have hT2 := hT.keep hE2 id
    clear oA1 oF1 hO1 hE1 hT1 hX2
    go_wp2_with fail
    refine (levels_any _ i (chR i) hm64 hrA x2 oA2 hT2).mono ?_
    rintro e x3 ⟨v3, rfl, hX3, hV3⟩
    rw [lvRow, k2] at hV3
    have oA3 := oA2.keep hX3 id
    have oF3 := oF2.keep hX3 id
    have hO3 := own_ext hO2 hX3
    have hE3 := hE2.trans hX3
    have hT3 := hT.keep hE3 id
    clear oA2 oF2 hO2 hE2 hT2 hX3
    have hRO : ∀ (B : World) (v : Value) (b : Nat), B.ownsRow b 3 1 v i (ints (zs (List.range i))) → Rd B v (zs (List.range i)).length 1 (ints (zs (List.range i))) := fun B v b h => by have := Rd.of_own h; simpa [zs] using this
    have HRO := Lib.hid hRO
    clear hRO
    go_wp2_with fail
    refine (equal_any _ _ (zs (List.range i)) (zs (List.range i)) x3 (HRO.out _ _ _ hV3) (HRO.out _ _ _ hO3)).mono ?_
    rintro e _ ⟨he, m1, rfl⟩
    obtain rfl : e = .returned (.bool true) := by rw [he]; simp
    clear he hV3
    have hD : Ext x3 (x3.drewN m1) := (Turn.refl _ _).drewN _
    have oA4 := oA3.keep hD id
    have oF4 := oF3.keep hD id
    have hO4 := own_ext hO3 hD
    have hE4 := hE3.trans hD
    generalize x3.drewN m1 = x4 at oA4 oF4 hO4 hE4 ⊢
    clear hD oA3 oF3 hO3 hE3 hT3
    go_wp2_with fail
    refine (first_any _ i (chR i) hm64 hrA x4 oA4).mono ?_
    rintro e x5 ⟨v5, rfl, hX5, hV5, hl5⟩
    rw [hl5, k3] at hV5
    have oA5 := oA4.keep hX5 id
    have oF5 := oF4.keep hX5 id
    have hO5 := own_ext hO4 hX5
    have hE5 := hE4.trans hX5
    clear oA4 oF4 hO4 hE4 hX5 hl5
    go_wp2_with fail
    refine (equal_any _ _ (zs (List.range i)) (zs (List.range i)) x5 (HRO.out _ _ _ hV5) (HRO.out _ _ _ hO5)).mono ?_
    rintro e _ ⟨he, m2, rfl⟩
    obtain rfl : e = .returned (.bool true) := by rw [he]; simp
    clear he hV5
    have hD : Ext x5 (x5.drewN m2) := (Turn.refl _ _).drewN _
    have oA6 := oA5.keep hD id
    have oF6 := oF5.keep hD id
    have hO6 := own_ext hO5 hD
    have hE6 := hE5.trans hD
    generalize x5.drewN m2 = x6 at oA6 oF6 hO6 hE6 ⊢
    clear hD oA5 oF5 hO5 hE5
    go_wp2_with fail
    refine (first_any _ i noR hm64 (Rel.empty i) x6 oF6).mono ?_
    rintro e x7 ⟨v7, rfl, hX7, hV7, hl7⟩
    rw [hl7, k4] at hV7
    have oA7 := oA6.keep hX7 id
    have oF7 := oF6.keep hX7 id
    have hO7 := own_ext hO6 hX7
    have hE7 := hE6.trans hX7
    clear oA6 oF6 hO6 hE6 hX7 hl7
    go_wp2_with fail
    refine (equal_any _ _ (zs (List.range i)) (zs (List.range i)) x7 (HRO.out _ _ _ hV7) (HRO.out _ _ _ hO7)).mono ?_
    rintro e _ ⟨he, m3, rfl⟩
    obtain rfl : e = .returned (.bool true) := by rw [he]; simp
    clear he hV7
    have hD : Ext x7 (x7.drewN m3) := (Turn.refl _ _).drewN _
    have oA8 := oA7.keep hD id
    have oF8 := oF7.keep hD id
    have hO8 := own_ext hO7 hD
    have hE8 := hE7.trans hD
    generalize x7.drewN m3 = x8 at oA8 oF8 hO8 hE8 ⊢
    clear hD oA7 oF7 hO7 hE7
    have hT8 := hT.keep hE8 id
    go_wp2_with fail
    refine (pairs_R _ i noR hm64 x8 oF8 hT8).mono ?_
    rintro e x9 ⟨v9, rfl, hX9, hV9⟩
    rw [k5] at hV9
    obtain ⟨a9, c9, rfl⟩ := own_slice hV9
    have oA9 := oA8.keep hX9 id
    have oF9 := oF8.keep hX9 id
    have hO9 := own_ext hO8 hX9
    have hE9 := hE8.trans hX9
    have hT9 := hT.keep hE9 id
    clear oA8 oF8 hO8 hE8 hT8 hX9 hV9
    go_wp2_with fail
    refine (pairs_R _ i (chR i) hm64 x9 oA9 hT9).mono ?_
    rintro e y0 ⟨va, rfl, hXa, hVa⟩
    obtain ⟨P, hP⟩ : ∃ P, i * (i - 1) = P := ⟨_, rfl⟩
    obtain ⟨D, hDD⟩ : ∃ D, P / 2 = D := ⟨_, rfl⟩
    rw [hP] at k6
    rw [hDD] at k6
    rw [k6] at hVa
    obtain ⟨aa, ca, rfl⟩ := own_slice hVa
    have oA := oA9.keep hXa id
    have oF := oF9.keep hXa id
    have hO := own_ext hO9 hXa
    have hE := hE9.trans hXa
    have hTa := hT.keep hE id
    have hPb : P ≤ 240 := by
      rw [← hP]
      exact Nat.le_trans (Nat.mul_le_mul hm16 (show i - 1 ≤ 15 by omega)) (by decide)
    obtain ⟨d, hd⟩ : ∃ d, i - 1 = d := ⟨_, rfl⟩
    have p5 : (i : Int) - 1 = (d : Int) := by omega
    rw [hd] at hP
    have p1 : (i : Int) * (d : Int) = (P : Int) := by rw [← hP, Int.natCast_mul]
    have p6 : IntKind.i64.wrap (d : Int) = (d : Int) := IntWalk.i64_in _ (by omega)
    have hDb : D ≤ 240 := by rw [← hDD]; omega
    have p9 : IntKind.i64.wrap (D : Int) = (D : Int) := IntWalk.i64_in _ (by omega)
    have p2 : (P : Int).tdiv 2 = (D : Int) := by rw [← hDD]; rfl
    have p3 : IntKind.i64.wrap (P : Int) = (P : Int) := IntWalk.i64_in _ (by omega)
    have K2 := Lib.hid k2; have K3 := Lib.hid k3; have K4 := Lib.hid k4; have K6 := Lib.hid k6; have HP := Lib.hid hP; have HD := Lib.hid hDD; have HDd := Lib.hid hd; have K1 := Lib.hid k1; have K5 := Lib.hid k5; have HCF := Lib.hid hcf
    clear k1 k2 k3 k4 k5 k6 hP hDD hcf hd oA9 oF9 hO9 hE9 hT9 hXa hVa
    by_cases hm1 : i = 1
    · have q1 : ((i : Int) == 1) = true := by rw [hm1]; rfl
      have HM1 := Lib.hid hm1
      clear hm1
      go_wp2_with fail
      refine (works_any y0 hTa).mono ?_
      rintro e wh ⟨rfl, hEh⟩
      go_wp2
      go_ret
      exact ⟨rfl, hE.trans hEh⟩
    · have q1 : ((i : Int) == 1) = false := by rw [beq_eq_false_iff_ne]; omega
      have p7 : ((d : Int) == 0) = false := by rw [beq_eq_false_iff_ne]; omega
      have hjd : wh % d < d := Nat.mod_lt _ (by omega)
      have p8 : ((wh : Int).tmod (d : Int)) = ((wh % d : Nat) : Int) := rfl
      obtain ⟨j, hj⟩ : ∃ j, wh % d = j := ⟨_, rfl⟩
      rw [hj] at hjd p8
      have hj1 : j + 1 < i := by omega
      have hsw := swap_all i j hm16 hj1
      simp only [swapOk, Bool.and_eq_true, decide_eq_true_eq] at hsw
      have HM1 := Lib.hid hm1; have HJ := Lib.hid hj; have HSW := Lib.hid hsw
      clear hm1 hj hsw
      obtain ⟨g, rfl⟩ : ∃ g, ao = some ⟨g, 0, none⟩ := by
        rcases hO.2 with ⟨e, h⟩ | ⟨g, cap, cur, e, _⟩
        · omega
        · cases e; exact ⟨g, rfl⟩
      have hgl := (hO.lt g rfl).1
      have r1 : (ints (zs (List.range i)))[j]? = some (.int .i64 j) := by simp [ints, zs, show j < i by omega]
      have r2 : (ints (zs (List.range i)))[j + 1]? = some (.int .i64 ((j : Int) + 1)) := by simp [ints, zs, hj1]
      have c1 := hO.cellAt j (by omega)
      have c2 := hO.cellAt (j + 1) (by omega)
      rw [r1] at c1
      rw [r2] at c2
      have f1 := hO.frozenAt j
      have f2 := hO.frozenAt (j + 1)
      have hO1 := own_store hO j (.int .i64 ((j : Int) + 1))
      have hO2 := own_store hO1 (j + 1) (.int .i64 (j : Int))
      have hsl : ((ints (zs (List.range i))).set j (.int .i64 ((j : Int) + 1))).set (j + 1) (.int .i64 (j : Int)) = ints (zs (swapL i j)) := by
        simp [swapL, ints, zs, List.map_set]
      rw [hsl] at hO2
      have fz := hO1.frozenAt (j + 1)
      have j1 : (j : Int) < (i : Int) := by omega
      have j2 : (j : Int) + 1 < (i : Int) := by omega
      have j3 : IntKind.i64.wrap ((j : Int) + 1) = (j : Int) + 1 := IntWalk.i64_in _ (by omega)
      have j4 : (0 : Int) ≤ (j : Int) + 1 := by omega
      have R1 := Lib.hid r1; have R2 := Lib.hid r2; have HSL := Lib.hid hsl
      clear r1 r2 hsl hO1 hO
      go_wp2
      clear p8
      go_region
      go_wp2_with fail
      have hTz : Turn (fun b => b = g) y0 (((y0.setCell ⟨g, j, none⟩ (.int .i64 ((j : Int) + 1))).setCell ⟨g, j + 1, none⟩ (.int .i64 (j : Int))).drew) := (((Turn.refl (fun b => b = g) y0).setCell (p := ⟨g, j, none⟩) (.inr rfl) _).setCell (p := ⟨g, j + 1, none⟩) (.inr rfl) _).drew
      have hEz : Ext w (((y0.setCell ⟨g, j, none⟩ (.int .i64 ((j : Int) + 1))).setCell ⟨g, j + 1, none⟩ (.int .i64 (j : Int))).drew) := hE.after hTz (fun b' h1 h2 => by omega)
      have oAz := oA.keep hTz (by omega)
      have oFz := oF.keep hTz (by omega)
      have hOz := own_ext hO2 ((Turn.refl (fun _ => False) _).drew)
      generalize (((y0.setCell ⟨g, j, none⟩ (.int .i64 ((j : Int) + 1))).setCell ⟨g, j + 1, none⟩ (.int .i64 (j : Int))).drew) = z at hTz hEz oAz oFz hOz ⊢
      have hRz : Rd z (.slice (some ⟨g, 0, none⟩) i cp) (zs (swapL i j)).length 1 (ints (zs (swapL i j))) := by
        have := Rd.of_own hOz
        simpa [zs_length, swapL] using this
      clear hTz hO2 oA oF hE hTa hOz
      refine (allows_any _ i (chR i) hm64 z oAz _ (zs (swapL i j)) (by simpa [zs_length, swapL] using hRz)).mono ?_
      rintro e _ ⟨rfl, rfl⟩
      rw [HSW.out.1]
      go_wp2_with fail
      refine (allows_any _ i noR hm64 z oFz _ (zs (swapL i j)) (by simpa [zs_length, swapL] using hRz)).mono ?_
      rintro e _ ⟨rfl, rfl⟩
      rw [HSW.out.2]
      go_wp2_with fail
      refine (works_any z (hT.keep hEz id)).mono ?_
      rintro e wh ⟨rfl, hEh⟩
      go_wp2
      go_ret
      exact ⟨rfl, hEz.trans hEh⟩

theorem chains_card (w : World) (hT : Tab w) (n : Int) (hn : (Lit.int .u8 n).wf = true) (x : Int) (hx : (Lit.int .u8 x).wf = true) :
    Calls Tryd.prog 6 #[.int .u8 n, .int .u8 x] w fun e w' => e = .returned (.bool true) ∧ Ext w w' := by
  have bn := bounds_u8 hn
  have bx := bounds_u8 hx
  obtain ⟨n, rfl⟩ := Int.eq_ofNat_of_zero_le bn.1
  obtain ⟨x, rfl⟩ := Int.eq_ofNat_of_zero_le bx.1
  exact chains_law w hT n (by omega) x (by omega)
end Go.Proofs.YtnnnbmkhgcpjoaaDoor
