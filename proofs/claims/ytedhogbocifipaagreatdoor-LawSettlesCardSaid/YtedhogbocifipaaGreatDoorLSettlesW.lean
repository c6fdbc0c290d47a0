/- ablautlaw08.LawSettles: the walk (printed by genlawrows.py). -/
import Derived.Test.YtedhogbocifipaaGreatDoorGa22
import Derived.Test.YtedhogbocifipaaGreatDoorRefSettle
import Derived.Test.YtedhogbocifipaaGreatDoorGa35
set_option maxRecDepth 100000
set_option maxHeartbeats 16000000
namespace Go.Proofs.YtedhogbocifipaaGreatDoor
open Go.RowKit Go.Ab
attribute [local go_sem] Oper.semAt_some wide_fn wide_depth

theorem settles_law {w : World} {l : LawD} {cs : List Value} {vo : Option Addr} {vc : Nat} {ws : Wd} (hl : LawAt w l cs) (hv : WordAt w (.slice vo ws.length vc) ws) (_hcap : ws.length ≤ vc) (hT : Tab w) (z : Int) :
  Calls Tryz.prog 13 #[.agg cs.toArray, .slice vo ws.length vc, .int .i64 z] w fun e w' => e = .returned (.bool true) ∧ Ext w w' := by
 have hp := fun (V : World) (hE : Ext w V) => lsettle_any (hl.ext hE) (hv.ext hE) (hT.keep hE id) z
 have hr := fun (V : World) (hE : Ext w V) => rlsettle_any (hl.ext hE) (hv.ext hE) z
 have hwo := fun (V : World) (hE : Ext w V) => lworks_any V (hT.keep hE id)
 obtain ⟨wn, hwn⟩ : ∃ n, ws.length = n := ⟨_, rfl⟩
 simp only [hwn] at hp hr hwo ⊢
 obtain ⟨nm, k1, p1, m1, n1, a1, b1, o1, N1, c1, k2, p2, m2, n2, a2, b2, o2, N2, c2, io, N3, ic, oo, N4, oc, md, rfl, HLA, HPL, HPR, HIF, HOU, HNM, HN1, HN2, HN3, HN4, HMD, q0, q1, q2, q3, q4⟩ := law_gen hl
 obtain ⟨S, hq⟩ : ∃ R, setV l ws z = R := ⟨_, rfl⟩
 simp only [hq] at hp hr
 clear hq
 have HP := Lib.hid hp
 have HR := Lib.hid hr
 have HWO := Lib.hid hwo
 clear hl hv hT hwn hp hr hwo
 go_enter Tryz.func13, Tryz.ntmps13
 go_upto_region 1 with (fail)
 obtain ⟨w1, hw1⟩ : ∃ D, w.alloc (.cells #[.string nm, .int .i64 k1, .int .u32 (p1 : Int), .int .u32 (m1 : Int), .bool n1, .int .i64 a1, .int .i64 b1, .slice o1 N1 c1, .int .i64 k2, .int .u32 (p2 : Int), .int .u32 (m2 : Int), .bool n2, .int .i64 a2, .int .i64 b2, .slice o2 N2 c2, .slice io N3 ic, .slice oo N4 oc, .int .i64 md] 31) = D := ⟨_, rfl⟩
 have hE1 : Ext w w1 := by rw [← hw1]; exact (Turn.refl _ w).alloc _
 have hl1 : w1.heap[w.heap.size]? = some (.cells #[.string nm, .int .i64 k1, .int .u32 (p1 : Int), .int .u32 (m1 : Int), .bool n1, .int .i64 a1, .int .i64 b1, .slice o1 N1 c1, .int .i64 k2, .int .u32 (p2 : Int), .int .u32 (m2 : Int), .bool n2, .int .i64 a2, .int .i64 b2, .slice o2 N2 c2, .slice io N3 ic, .slice oo N4 oc, .int .i64 md] 31 (0, 0)) := by rw [← hw1]; exact new_at rfl
 rw [hw1]
 obtain ⟨B, hB⟩ : ∃ b, w.heap.size = b := ⟨_, rfl⟩
 rw [hB] at hl1 ⊢
 have HL1 := Lib.hid hl1
 clear hw1 hl1 hB
 obtain ⟨U, N, E⟩ := S
 dsimp only at HP HR
 go_wp2_with (refine wpList_load_row rfl 31 (.tmp 3) rfl B rfl _ _ _ _ HL1.out Tryz.underlying31 rfl Tryz.lawInfo ?_)
 refine (HP.out _ hE1).mono ?_
 rintro e w2 ⟨_, rfl, hO, hN⟩
 have hN1 : Ext w1 w2 := hN
 have hE2 : Ext w w2 := hE1.trans hN
 have HL2 := Lib.hid (Ext.keep hN HL1.out)
 clear hN HP HL1
 obtain ⟨xo, xc, rfl, hq, _⟩ := hO
 have Hx : Hid (∀ D, Ext w2 D → WordAt D (.slice xo U.length xc) U) := Lib.hid (fun D hD => hq.ext hD)
 clear hq
 go_wp2_with (refine wpList_load_row rfl 31 (.tmp 3) rfl B rfl _ _ _ _ HL2.out Tryz.underlying31 rfl Tryz.lawInfo ?_)
 refine (HR.out _ hE2).mono ?_
 rintro e w3 ⟨_, rfl, hO, hN⟩
 have hN2 : Ext w2 w3 := hN
 have hE3 : Ext w w3 := hE2.trans hN
 have HL3 := Lib.hid (Ext.keep hN HL2.out)
 clear hN HR HL2
 obtain ⟨yo, yc, rfl, hq, _⟩ := hO
 have Hy : Hid (∀ D, Ext w3 D → WordAt D (.slice yo U.length yc) U) := Lib.hid (fun D hD => hq.ext hD)
 clear hq
 go_wp2_with fail
 refine (same_self (Hx.out _ hN2) (Hy.out _ (Turn.refl _ _))).mono ?_
 rintro e w4 ⟨rfl, hN⟩
 have hN3 : Ext w3 w4 := hN
 have hE4 : Ext w w4 := hE3.trans hN
 clear hN
 go_wp2_with fail
 refine (HWO.out _ hE4).mono ?_
 rintro e w5 ⟨rfl, hN⟩
 have hN4 : Ext w4 w5 := hN
 have hE5 : Ext w w5 := hE4.trans hN
 clear hN
 have HEND := Lib.hid hE5
 clear hE1 hE2 hE3 hE4 hE5
 go_wp2
 go_ret
 exact ⟨rfl, HEND.out⟩
end Go.Proofs.YtedhogbocifipaaGreatDoor
