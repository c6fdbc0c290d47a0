/- ablautlaw08.LawRests: the walk (printed by genlrestsw.py). -/
import Derived.Test.YtedhogbocifipaaGreatDoorGa22
import Derived.Test.YtedhogbocifipaaGreatDoorGa35
set_option maxRecDepth 100000
set_option maxHeartbeats 16000000
namespace Go.Proofs.YtedhogbocifipaaGreatDoor
open Go.RowKit Go.Ab
attribute [local go_sem] Oper.semAt_some wide_fn wide_depth

theorem rests_law {w : World} {l : LawD} {cs : List Value} {vo : Option Addr} {vc : Nat} {ws : Wd} (hl : LawAt w l cs) (hv : WordAt w (.slice vo ws.length vc) ws) (_hcap : ws.length ≤ vc) (hT : Tab w) (b : Nat) (hb : b < 256) :
  Calls Tryz.prog 14 #[.agg cs.toArray, .slice vo ws.length vc, .int .u8 b] w fun e w' => e = .returned (.bool true) ∧ Ext w w' := by
 have hr101 : Int.tmod (b : Int) 101 = ((b % 101 : Nat) : Int) := by rw [Int.tmod_eq_emod_of_nonneg (by omega)]; omega
 obtain ⟨r, hr⟩ : ∃ r, b % 101 = r := ⟨_, rfl⟩
 rw [hr] at hr101
 have hrb : r ≤ 100 := by omega
 have hp := fun (V : World) (hE : Ext w V) => lsettle_any (hl.ext hE) (hv.ext hE) (hT.keep hE id) (r : Int)
 have hbad := setV_bad (l := l) (ws := ws) (z := (r : Int))
 have hgood := setV_good (l := l) (ws := ws) (z := (r : Int))
 have hap := fun (V : World) (hE : Ext w V) (u : Wd) (ao : Option Addr) (c : Nat) (h1 : trE l u = 0) (h2 : appL l u = u) (hu : WordAt V (.slice ao u.length c) u) (hc : u.length ≤ c) => by
  have h := lapply_any (hl.ext hE) hu hc (hT.keep hE id)
  rw [h1, h2] at h
  exact h
 have hwo := fun (V : World) (hE : Ext w V) => lworks_any V (hT.keep hE id)
 obtain ⟨wn, hwn⟩ : ∃ n, ws.length = n := ⟨_, rfl⟩
 simp only [hwn] at hp ⊢
 obtain ⟨nm, k1, p1, m1, n1, a1, b1, o1, N1, c1, k2, p2, m2, n2, a2, b2, o2, N2, c2, io, N3, ic, oo, N4, oc, md, rfl, HLA, HPL, HPR, HIF, HOU, HNM, HN1, HN2, HN3, HN4, HMD, q0, q1, q2, q3, q4⟩ := law_gen hl
 obtain ⟨S, hq⟩ : ∃ R, setV l ws (r : Int) = R := ⟨_, rfl⟩
 simp only [hq] at hp hbad hgood
 clear hq
 obtain ⟨U, M, E⟩ := S
 dsimp only at hp hbad hgood
 have HP := Lib.hid hp; have HWO := Lib.hid hwo; have HBAD := Lib.hid hbad; have HGOOD := Lib.hid hgood; have HAP := Lib.hid hap
 clear hl hv hT hwn hp hwo hr hbad hgood hap
 go_enter Tryz.func14, Tryz.ntmps14
 go_upto_region 1 with (fail)
 obtain ⟨w1, hw1⟩ : ∃ D, w.alloc (.cells #[.string nm, .int .i64 k1, .int .u32 (p1 : Int), .int .u32 (m1 : Int), .bool n1, .int .i64 a1, .int .i64 b1, .slice o1 N1 c1, .int .i64 k2, .int .u32 (p2 : Int), .int .u32 (m2 : Int), .bool n2, .int .i64 a2, .int .i64 b2, .slice o2 N2 c2, .slice io N3 ic, .slice oo N4 oc, .int .i64 md] 31) = D := ⟨_, rfl⟩
 have hE1 : Ext w w1 := by rw [← hw1]; exact (Turn.refl _ w).alloc _
 have hl1 : w1.heap[w.heap.size]? = some (.cells #[.string nm, .int .i64 k1, .int .u32 (p1 : Int), .int .u32 (m1 : Int), .bool n1, .int .i64 a1, .int .i64 b1, .slice o1 N1 c1, .int .i64 k2, .int .u32 (p2 : Int), .int .u32 (m2 : Int), .bool n2, .int .i64 a2, .int .i64 b2, .slice o2 N2 c2, .slice io N3 ic, .slice oo N4 oc, .int .i64 md] 31 (0, 0)) := by rw [← hw1]; exact new_at rfl
 rw [hw1]
 obtain ⟨B, hB⟩ : ∃ b, w.heap.size = b := ⟨_, rfl⟩
 rw [hB] at hl1 ⊢
 have HL1 := Lib.hid hl1
 clear hw1 hl1 hB
 go_upto_region 2 with (fail)
 go_wp2_with (refine wpList_load_row rfl 31 (.tmp 3) rfl B rfl _ _ _ _ HL1.out Tryz.underlying31 rfl Tryz.lawInfo ?_)
 refine (HP.out _ hE1).mono ?_
 rintro e w2 ⟨_, rfl, ⟨xo, xc, rfl, hq, hcx⟩, hN⟩
 have hN1 : Ext w1 w2 := hN
 have hE2 : Ext w w2 := hE1.trans hN
 have HL2 := Lib.hid (Ext.keep hN HL1.out)
 clear hN HP HL1
 have Hx : Hid (∀ D, Ext w2 D → WordAt D (.slice xo U.length xc) U) := Lib.hid (fun D hD => hq.ext hD)
 clear hq
 by_cases h0 : E = 0
 case neg =>
  obtain ⟨rfl, rfl⟩ := HBAD.out h0
  have h9 : (E != 0) = true := by rw [bne_iff_ne]; exact h0
  clear HBAD HGOOD HAP
  go_wp2_with fail
  refine (HWO.out _ hE2).mono ?_
  rintro e w3 ⟨rfl, hN⟩
  have hN2 : Ext w2 w3 := hN
  have hE3 : Ext w w3 := hE2.trans hN
  clear hN
  have HEND := Lib.hid hE3
  clear hE1 hE2 hE3
  go_wp2
  go_ret
  exact ⟨rfl, HEND.out⟩
 subst h0
 obtain ⟨hm1, hm2⟩ := HGOOD.out rfl
 have HM2 := Lib.hid hm2
 have hm0 : ¬ (r : Int) < (M : Int) := by omega
 have hm3 : ¬ (M : Int) < 0 := by omega
 clear hm2 HBAD HGOOD
 by_cases hmr : M = r
 case pos =>
  subst hmr
  have hbeq : ((M : Int) == (M : Int)) = true := by simp
  clear HAP
  go_wp2_with fail
  refine (HWO.out _ hE2).mono ?_
  rintro e w3 ⟨rfl, hN⟩
  have hN2 : Ext w2 w3 := hN
  have hE3 : Ext w w3 := hE2.trans hN
  clear hN
  have HEND := Lib.hid hE3
  clear hE1 hE2 hE3
  go_wp2
  go_ret
  exact ⟨rfl, HEND.out⟩
 obtain ⟨t1, t2⟩ := HM2.out (by omega)
 have hne : ¬ (M : Int) = (r : Int) := by omega
 have hnb : ((M : Int) == (r : Int)) = false := by simp; omega
 have HAP2 := Lib.hid (fun (V : World) (hE : Ext w V) => HAP.out V hE U xo xc t1 t2)
 clear HM2 HAP t1 t2 hmr
 go_wp2_with (refine wpList_load_row rfl 31 (.tmp 3) rfl B rfl _ _ _ _ HL2.out Tryz.underlying31 rfl Tryz.lawInfo ?_)
 refine (HAP2.out _ hE2 (Hx.out _ (Turn.refl _ _)) hcx).mono ?_
 rintro e w3 ⟨_, rfl, ⟨yo, yc, rfl, hq, _⟩, hN⟩
 have hN2 : Ext w2 w3 := hN
 have hE3 : Ext w w3 := hE2.trans hN
 have Hy : Hid (∀ D, Ext w3 D → WordAt D (.slice yo U.length yc) U) := Lib.hid (fun D hD => hq.ext hD)
 clear hN hq HL2 HAP2
 go_wp2_with fail
 refine (same_self (Hx.out _ hN2) (Hy.out _ (Turn.refl _ _))).mono ?_
 rintro e w4 ⟨rfl, hN⟩
 have hN3 : Ext w3 w4 := hN
 have hE4 : Ext w w4 := hE3.trans hN
 clear hN
 go_wp2_with fail
 refine (HWO.out _ hE4).mono ?_
 rintro e w5 ⟨rfl, hN⟩
 have hN4 : Ext w4 w5 := hN
 have hE5 : Ext w w5 := hE4.trans hN
 clear hN
 have HEND := Lib.hid hE5
 clear hE1 hE2 hE3 hE4 hE5
 go_wp2
 go_ret
 exact ⟨rfl, HEND.out⟩
theorem rests_card {w : World} {l : LawD} {cs : List Value} {vo : Option Addr} {vc : Nat} {ws : Wd} (hl : LawAt w l cs) (hv : WordAt w (.slice vo ws.length vc) ws) (hcap : ws.length ≤ vc) (hT : Tab w) (n : Int) (hn : (Lit.int .u8 n).wf = true) :
  Calls Tryz.prog 14 #[.agg cs.toArray, .slice vo ws.length vc, .int .u8 n] w fun e w' => e = .returned (.bool true) ∧ Ext w w' := by
 have bn := bounds_u8 hn
 obtain ⟨n, rfl⟩ := Int.eq_ofNat_of_zero_le bn.1
 exact rests_law hl hv hcap hT n (by omega)
end Go.Proofs.YtedhogbocifipaaGreatDoor
