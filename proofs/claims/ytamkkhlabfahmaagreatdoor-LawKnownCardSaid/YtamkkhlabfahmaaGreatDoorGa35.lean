/- PLAIN: a law that is applied again and again. law.Settle (printed by genlsettle.py). -/
import Derived.Test.YtamkkhlabfahmaaGreatDoorGa08
import Derived.Test.YtamkkhlabfahmaaGreatDoorGa20
set_option maxRecDepth 100000
set_option maxHeartbeats 16000000
namespace Go.Proofs.YtamkkhlabfahmaaGreatDoor
open Go.RowKit Go.Ab

/-- At most f steps more; n: those that were taken; u: the word now. -/
def setR (l : LawD) : Nat → Nat → Wd → Wd × Nat × Int
 | 0, n, u => (u, n, 0)
 | f + 1, n, u => if trE l u = 0 then (if appL l u = u then (u, n, 0) else setR l f (n + 1) (appL l u)) else ([], 0, trE l u)
/-- What Settle returns. -/
def setV (l : LawD) (ws : Wd) (z : Int) : Wd × Nat × Int :=
 if lawW l ws = 0 then (if z < 0 ∨ 100 < z then ([], 0, 3) else setR l z.toNat 0 ws) else ([], 0, lawW l ws)
theorem setR_bad (l : LawD) : ∀ (f n : Nat) (u : Wd), (setR l f n u).2.2 ≠ 0 → (setR l f n u).1 = [] ∧ (setR l f n u).2.1 = 0
 | 0, n, u, h => absurd rfl h
 | f + 1, n, u, h => by
  unfold setR at h ⊢
  by_cases h1 : trE l u = 0
  ·rw [if_pos h1] at h ⊢
   by_cases h2 : appL l u = u
   ·rw [if_pos h2] at h; exact absurd rfl h
   ·rw [if_neg h2] at h ⊢
    exact setR_bad l f (n + 1) _ h
  ·rw [if_neg h1]; exact ⟨rfl, rfl⟩
theorem setR_good (l : LawD) : ∀ (f n : Nat) (u : Wd), (setR l f n u).2.2 = 0 → (setR l f n u).2.1 ≤ n + f ∧ ((setR l f n u).2.1 < n + f → trE l (setR l f n u).1 = 0 ∧ appL l (setR l f n u).1 = (setR l f n u).1)
 | 0, n, u, h => ⟨by simp [setR], fun h => by simp [setR] at h⟩
 | f + 1, n, u, h => by
  unfold setR at h ⊢
  by_cases h1 : trE l u = 0
  ·rw [if_pos h1] at h ⊢
   by_cases h2 : appL l u = u
   ·rw [if_pos h2]; exact ⟨by show n ≤ n + (f + 1); omega, fun _ => ⟨h1, h2⟩⟩
   ·rw [if_neg h2] at h ⊢
    have := setR_good l f (n + 1) _ h
    rw [show n + (f + 1) = n + 1 + f by omega]
    exact this
  ·rw [if_neg h1] at h; exact absurd h h1
theorem setV_bad {l : LawD} {ws : Wd} {z : Int} (h : (setV l ws z).2.2 ≠ 0) : (setV l ws z).1 = [] ∧ (setV l ws z).2.1 = 0 := by
 unfold setV at h ⊢
 split at h
 ·rename_i h0
  rw [if_pos h0]
  split at h
  ·rename_i h1; rw [if_pos h1]; exact ⟨rfl, rfl⟩
  ·rename_i h1; rw [if_neg h1]; exact setR_bad l _ _ _ h
 ·rename_i h0; rw [if_neg h0]; exact ⟨rfl, rfl⟩
theorem setV_good {l : LawD} {ws : Wd} {z : Int} (h : (setV l ws z).2.2 = 0) : ((setV l ws z).2.1 : Int) ≤ z ∧ (((setV l ws z).2.1 : Int) < z → trE l (setV l ws z).1 = 0 ∧ appL l (setV l ws z).1 = (setV l ws z).1) := by
 unfold setV at h ⊢
 split at h
 ·rename_i h0
  rw [if_pos h0]
  split at h
  ·exact absurd h (by decide)
  ·rename_i h1
   rw [if_neg h1]
   have := setR_good l z.toNat 0 ws h
   exact ⟨by omega, fun h3 => this.2 (by omega)⟩
 ·rename_i h0; exact absurd h h0
end Go.Proofs.YtamkkhlabfahmaaGreatDoor

namespace Go.Proofs.YtamkkhlabfahmaaGreatDoor
open Go.RowKit Go.Ab
attribute [local go_sem] Oper.semAt_some wide_fn wide_depth

theorem results_t3 {fn : Func} {t u v : Tmp} (h : fn.results = #[.tmp t, .tmp u, .tmp v]) (tmps : Array Value) (P : Program) (w : World) :
  (results fn tmps).run P w = .ok (.tuple #[tmps.getD t undef, tmps.getD u undef, tmps.getD v undef]) w := by
 simp [results, h]
theorem setV_parts (l : LawD) (ws : Wd) (z : Int) : setV l ws z = if lawW l ws = 0 then (if z < 0 ∨ 100 < z then ([], 0, 3) else setR l z.toNat 0 ws) else ([], 0, lawW l ws) := rfl
theorem setR_step (l : LawD) (f n : Nat) (u : Wd) : setR l (f + 1) n u = if trE l u = 0 then (if appL l u = u then (u, n, 0) else setR l f (n + 1) (appL l u)) else ([], 0, trE l u) := rfl

theorem lsettle_any {w : World} {l : LawD} {cs : List Value} {vo : Option Addr} {vc : Nat} {ws : Wd} (hl : LawAt w l cs) (hv : WordAt w (.slice vo ws.length vc) ws) (hT : Tab w) (z : Int) :
  Calls Tryz.prog 17 #[.agg cs.toArray, .slice vo ws.length vc, .int .i64 z] w fun e w' => ∃ u, e = .returned (.tuple #[u, .int .i64 ((setV l ws z).2.1 : Int), .int .i64 (setV l ws z).2.2]) ∧ OneW w' u (setV l ws z).1 ∧ Ext w w' := by
 have hck := fun (V : World) (hE : Ext w V) => lwcheck_any (hl.ext hE) (hv.ext hE) (hT.keep hE id)
 have hcl := fun (V : World) (hE : Ext w V) (hn : ws.length ≤ 32) => clone_snd (hv.ext hE) (Nat.le_trans hn (by decide))
 have hap := fun (V : World) (hE : Ext w V) (u : Wd) (ao : Option Addr) (c : Nat) (hu : WordAt V (.slice ao u.length c) u) (hc : u.length ≤ c) => lapply_any (hl.ext hE) hu hc (hT.keep hE id)
 have hok := hv.2
 have hsh : lawW l ws = 0 → ws.length ≤ 32 := fun h0 => wE_le (lawW_zero h0).2
 have hset := setV_parts l ws z
 obtain ⟨wn, hwn⟩ : ∃ n, ws.length = n := ⟨_, rfl⟩
 rw [hwn] at hck hcl hsh ⊢
 obtain ⟨nm, k1, p1, m1, n1, a1, b1, o1, N1, c1, k2, p2, m2, n2, a2, b2, o2, N2, c2, io, N3, ic, oo, N4, oc, md, rfl, HLA, HPL, HPR, HIF, HOU, HNM, HN1, HN2, HN3, HN4, HMD, q0, q1, q2, q3, q4⟩ := law_gen hl
 obtain ⟨R, hR⟩ : ∃ R, lawW l ws = R := ⟨_, rfl⟩
 obtain ⟨S, hS⟩ : ∃ R, setV l ws z = R := ⟨_, rfl⟩
 rw [hR] at hck hsh hset
 rw [hS] at hset ⊢
 have HCK := Lib.hid hck; have HCL := Lib.hid hcl; have HAP := Lib.hid hap; have HSH := Lib.hid hsh; have HOK := Lib.hid hok; have HSET := Lib.hid hset; have HWN := Lib.hid hwn
 clear hl hv hT hck hcl hap hsh hok hset hR hS hwn
 go_enter Tryz.func17, Tryz.ntmps17
 go_upto_region 1 with (fail)
 obtain ⟨w1, hw1⟩ : ∃ D, w.alloc (.cells #[.string nm, .int .i64 k1, .int .u32 (p1 : Int), .int .u32 (m1 : Int), .bool n1, .int .i64 a1, .int .i64 b1, .slice o1 N1 c1, .int .i64 k2, .int .u32 (p2 : Int), .int .u32 (m2 : Int), .bool n2, .int .i64 a2, .int .i64 b2, .slice o2 N2 c2, .slice io N3 ic, .slice oo N4 oc, .int .i64 md] 34) = D := ⟨_, rfl⟩
 have hE1 : Ext w w1 := by rw [← hw1]; exact (Turn.refl _ w).alloc _
 have hl1 : w1.heap[w.heap.size]? = some (.cells #[.string nm, .int .i64 k1, .int .u32 (p1 : Int), .int .u32 (m1 : Int), .bool n1, .int .i64 a1, .int .i64 b1, .slice o1 N1 c1, .int .i64 k2, .int .u32 (p2 : Int), .int .u32 (m2 : Int), .bool n2, .int .i64 a2, .int .i64 b2, .slice o2 N2 c2, .slice io N3 ic, .slice oo N4 oc, .int .i64 md] 34 (0, 0)) := by rw [← hw1]; exact new_at rfl
 rw [hw1]
 obtain ⟨B, hB⟩ : ∃ b, w.heap.size = b := ⟨_, rfl⟩
 rw [hB] at hl1 ⊢
 have HL1 := Lib.hid hl1; have HB := Lib.hid hB
 clear hw1 hl1 hB
 go_wp2_with (refine wpList_load_row rfl 34 (.tmp 3) rfl B rfl _ _ _ _ HL1.out Tryz.underlying34 rfl Tryz.lawInfo ?_)
 refine (HCK.out _ hE1).mono ?_
 rintro e w2 ⟨rfl, hN⟩
 have hE2 := hE1.trans hN
 have HL2 := Lib.hid (hN.keep HL1.out)
 clear hN hE1 HL1 HCK
 by_cases h0 : R = 0
 case neg =>
  have h9 : (R != 0) = true := by rw [bne_iff_ne]; exact h0
  have hs := HSET.out
  rw [if_neg h0] at hs
  subst hs
  go_wp2
  exact bodyPost_ret (results_t3 rfl _ _ _) rfl ⟨_, rfl, OneW.nil _, hE2⟩
 subst h0
 have hw32 := HSH.out rfl
 have HSET1 : Hid (S = if z < 0 ∨ 100 < z then ([], 0, 3) else setR l z.toNat 0 ws) := Lib.hid (by rw [HSET.out, if_pos rfl])
 clear HSET HSH
 by_cases hz0 : z < 0
 ·have hs := HSET1.out
  rw [if_pos (.inl hz0)] at hs
  subst hs
  go_wp2
  exact bodyPost_ret (results_t3 rfl _ _ _) rfl ⟨_, rfl, OneW.nil _, hE2⟩
 by_cases hz1 : 100 < z
 ·have hs := HSET1.out
  rw [if_pos (.inr hz1)] at hs
  subst hs
  go_wp2
  exact bodyPost_ret (results_t3 rfl _ _ _) rfl ⟨_, rfl, OneW.nil _, hE2⟩
 obtain ⟨M, rfl⟩ := Int.eq_ofNat_of_zero_le (show 0 ≤ z by omega)
 have HSET2 : Hid (S = setR l M 0 ws) := Lib.hid (by rw [HSET1.out, if_neg (by omega)]; rfl)
 have hM : M ≤ 100 := by omega
 have HC := Lib.hid (HCL.out w2 hE2 hw32)
 clear HSET1 HCL hz0 hz1
 have hz0 : ¬ ((M : Int) < 0) := by omega
 have hz1 : ¬ ((100 : Int) < (M : Int)) := by omega
 go_wp2_with fail
 refine HC.out.mono ?_
 rintro e w3 ⟨ao, cap, rfl, hO3, hN⟩
 have hE3 := hE2.trans hN
 have HL3 := Lib.hid (hN.keep HL2.out)
 have hW3 : WordAt w3 (.slice ao ws.length cap) ws := by
  have h3 := hO3
  rw [← HWN.out] at h3
  exact own_word h3 HOK.out
 have hc3 := (own_len hO3).1
 rw [← HWN.out] at hc3
 have HW3 := Lib.hid hW3
 rw [show wn = ws.length from HWN.out.symm] at *
 clear hO3 hN hE2 HL2 HC hz0 hz1 hW3
 go_wp2
 refine wp_loop (fun a W => ∃ (k : Nat) (u : Wd) (un : Nat) (ao : Option Addr) (c : Nat), k ≤ M ∧ a.defers = [] ∧ (a.tmps.size = 50 ∧ a.tmps.getD 2 undef = .int .i64 M ∧ a.tmps.getD 3 undef = .pointer (some ⟨B, 0, none⟩) ∧ a.tmps.getD 10 undef = .slice ao un c ∧ a.tmps.getD 28 undef = .int .i64 M ∧ a.tmps.getD 29 undef = .int .i64 k) ∧ u.length = un ∧ WordAt W (.slice ao un c) u ∧ un ≤ c ∧ setR l (M - k) k u = S ∧ Ext w3 W)
  (fun a _ => M - (intOf (a.tmps.getD 29 undef)).toNat) ?_ ?_
 ·exact ⟨0, ws, _, ao, cap, by omega, rfl, ⟨rfl, rfl, rfl, rfl, rfl, rfl⟩, rfl, HW3.out, hc3, by rw [HSET2.out]; rfl, Turn.refl _ _⟩
 clear HW3 HSET2 hc3 ao cap
 rintro ⟨t, _⟩ W ⟨k, xw, un, ao, c, hk, hds, ⟨hsz, f2, f3, f10, f28, f29⟩, hun, hw, hc, hset, hE⟩
 subst hds
 obtain ⟨u', hu⟩ := frame_fun hsz
 obtain ⟨u, rfl⟩ : ∃ x, x = u' := ⟨_, rfl⟩
 have hu' : t = #[u 0, u 1, u 2, u 3, u 4, u 5, u 6, u 7, u 8, u 9, u 10, u 11, u 12, u 13, u 14, u 15, u 16, u 17, u 18, u 19, u 20, u 21, u 22, u 23, u 24, u 25, u 26, u 27, u 28, u 29, u 30, u 31, u 32, u 33, u 34, u 35, u 36, u 37, u 38, u 39, u 40, u 41, u 42, u 43, u 44, u 45, u 46, u 47, u 48, u 49] := hu
 clear hu
 subst hu'
 change u 2 = _ at f2
 change u 3 = _ at f3
 change u 10 = _ at f10
 change u 28 = _ at f28
 change u 29 = _ at f29
 rw [f2, f3, f10, f28, f29]
 clear f2 f3 f10 f28 f29 hsz
 have hLW := hE.keep HL3.out
 have hE4 := hE3.trans hE
 have HLW := Lib.hid hLW; have HSET := Lib.hid hset; have HUN := Lib.hid hun; have HW := Lib.hid hw
 clear hLW hset hun hw
 by_cases hkM : k < M
 case neg =>
  obtain rfl : k = M := by omega
  have h1 : ¬ ((k : Int) < (k : Int)) := by omega
  have hs := HSET.out
  rw [Nat.sub_self] at hs
  have hs : (xw, k, (0 : Int)) = S := hs
  subst hs
  have HONE : Hid (OneW W (.slice ao un c) xw) := Lib.hid (by subst un; exact ⟨ao, c, rfl, HW.out, hc⟩) 
  clear HW HSET HUN
  go_wp2
  exact bodyPost_ret (results_t3 rfl _ _ _) rfl ⟨_, rfl, HONE.out, hE4⟩
 have h1 : (k : Int) < (M : Int) := by omega
 have hstep := setR_step l (M - (k + 1)) k xw
 rw [show M - (k + 1) + 1 = M - k by omega, HSET.out] at hstep
 have hac := HAP.out W hE4 xw ao c (by rw [HUN.out]; exact HW.out) (by rw [HUN.out]; exact hc)
 rw [HUN.out] at hac
 obtain ⟨E, hEE⟩ : ∃ R, trE l xw = R := ⟨_, rfl⟩
 obtain ⟨A, hA⟩ : ∃ R, appL l xw = R := ⟨_, rfl⟩
 rw [hEE, hA] at hstep hac
 have HST := Lib.hid hstep; have HAC := Lib.hid hac
 clear hstep hac hEE hA HSET
 go_wp2_with (refine wpList_load_row rfl 34 (.tmp 3) rfl B rfl _ _ _ _ HLW.out Tryz.underlying34 rfl Tryz.lawInfo ?_)
 refine HAC.out.mono ?_
 rintro e w4 ⟨u4, rfl, ⟨bo, bc, rfl, hw4, hbc⟩, hN⟩
 have hE5 := hE4.trans hN
 have hE35 := hE.trans hN
 have HLW4 := Lib.hid (hN.keep HLW.out)
 have HW4 := Lib.hid hw4
 have heq := eqW hw4 (HW.out.ext hN)
 have HONE : Hid (OneW w4 (.slice ao un c) xw) := Lib.hid (by rw [← HUN.out] at hc ⊢; exact ⟨ao, c, rfl, by rw [HUN.out]; exact HW.out.ext hN, hc⟩)
 obtain ⟨an, han⟩ : ∃ n, A.length = n := ⟨_, rfl⟩
 rw [han] at heq hbc HW4 ⊢
 obtain ⟨q, hq⟩ : ∃ q, decide (A = xw) = q := ⟨_, rfl⟩
 rw [hq] at heq
 have HEQ := Lib.hid heq; have HAN := Lib.hid han; have HQ := Lib.hid hq
 clear hN hw4 heq han hq hE4 HAC HLW HW
 by_cases h0 : E = 0
 case neg =>
  have h9 : (E != 0) = true := by rw [bne_iff_ne]; exact h0
  have hs := HST.out
  rw [if_neg h0] at hs
  subst hs
  go_wp2
  exact bodyPost_ret (results_t3 rfl _ _ _) rfl ⟨_, rfl, OneW.nil _, hE5⟩
 subst h0
 go_wp2_with fail
 refine HEQ.out.mono ?_
 rintro e w5 ⟨rfl, hN⟩
 have hE6 := hE5.trans hN
 have hE36 := hE35.trans hN
 cases q
 ·have hs := HST.out
  rw [if_pos (by first | rfl | trivial), if_neg (of_decide_eq_false HQ.out)] at hs
  have HS := Lib.hid hs
  have HW5 := Lib.hid (HW4.out.ext hN)
  clear hs hN HEQ HST HQ
  go_wp2
  exact ⟨⟨k + 1, A, an, bo, bc, by omega, by first | rfl | trivial, ⟨rfl, rfl, rfl, rfl, rfl, rfl⟩, HAN.out, HW5.out, hbc, HS.out.symm, hE36⟩, by simp [intOf]; omega⟩
 ·have hs := HST.out
  rw [if_pos (by first | rfl | trivial), if_pos (of_decide_eq_true HQ.out)] at hs
  subst hs
  have HO5 : Hid (OneW w5 (.slice ao un c) xw) := Lib.hid (HONE.out.ext hN)
  clear hN HEQ HST HQ
  go_wp2
  exact bodyPost_ret (results_t3 rfl _ _ _) rfl ⟨_, rfl, HO5.out, hE6⟩
end Go.Proofs.YtamkkhlabfahmaaGreatDoor
