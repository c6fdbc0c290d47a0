/- ablautlaw08.LawMisses: the walk (printed by genlmissesw.py). -/
import Derived.Test.YtedhogbocifipaaGreatDoorRowT
import Derived.Test.YtedhogbocifipaaGreatDoorGa31
import Derived.Test.YtedhogbocifipaaGreatDoorMissP
import Derived.Test.YtedhogbocifipaaGreatDoorLLengthsW
set_option maxRecDepth 100000
set_option maxHeartbeats 16000000
namespace Go.Proofs.YtedhogbocifipaaGreatDoor
open Go.RowKit Go.Ab
attribute [local go_sem] Oper.semAt_some wide_fn wide_depth

theorem misses_law {w : World} {l : LawD} {cs : List Value} {vo : Option Addr} {vc : Nat} {ws : Wd} (hl : LawAt w l cs) (hv : WordAt w (.slice vo ws.length vc) ws) (hcap : ws.length ≤ vc) (hT : Tab w) :
  Calls Tryz.prog 10 #[.agg cs.toArray, .slice vo ws.length vc] w fun e w' => e = .returned (.bool true) ∧ Ext w w' := by
 have hp := fun (V : World) (hE : Ext w V) => hits_one (hl.ext hE) (hv.ext hE) (hT.keep hE id)
 have ht := fun (V : World) (hE : Ext w V) => trace_one (hl.ext hE) (hv.ext hE) hcap (hT.keep hE id)
 have hr := fun (V : World) (hE : Ext w V) => word_one (hl.ext hE) (hv.ext hE) hcap (hT.keep hE id)
 have ho := fun (V : World) (hE : Ext w V) (z : Int) => once_one (hl.ext hE) (hv.ext hE) hcap (hT.keep hE id) z
 have hwo := fun (V : World) (hE : Ext w V) => lworks_any V (hT.keep hE id)
 have hwx := fun (V : World) (hE : Ext w V) => hv.ext hE
 have hbad := fun (h : lawW l ws ≠ 0) => hitsV_bad h
 have hnone := fun (h : lawW l ws = 0) => miss_none h
 have htc := fun (h : lawW l ws = 0) => trE_cases h
 have hfst := fun (h : trE l ws = 0) => miss_first h
 have hbt := fun (h : trE l ws ≠ 0) => trT_bad h
 obtain ⟨_, _, hq, hwm⟩ := hv.slice
 clear hq
 obtain ⟨wn, hwn⟩ : ∃ n, ws.length = n := ⟨_, rfl⟩
 simp only [hwn] at hp ht hr ho hwx hwm ⊢
 unfold maxLen at hwm
 obtain ⟨nm, k1, p1, m1, n1, a1, b1, o1, N1, c1, k2, p2, m2, n2, a2, b2, o2, N2, c2, io, N3, ic, oo, N4, oc, md, rfl, HLA, HPL, HPR, HIF, HOU, HNM, HN1, HN2, HN3, HN4, HMD, q0, q1, q2, q3, q4⟩ := law_gen hl
 simp only [HMD.out] at hfst
 obtain ⟨R, hq⟩ : ∃ R, lawW l ws = R := ⟨_, rfl⟩
 simp only [hq] at hp hbad hnone htc
 clear hq
 obtain ⟨H, hq⟩ : ∃ R, hitsV l ws = R := ⟨_, rfl⟩
 simp only [hq] at hp hbad hnone hfst
 clear hq
 obtain ⟨E, hq⟩ : ∃ R, trE l ws = R := ⟨_, rfl⟩
 simp only [hq] at ht hr hnone htc hfst hbt
 clear hq
 obtain ⟨T, hq⟩ : ∃ R, trT l ws = R := ⟨_, rfl⟩
 simp only [hq] at ht hnone hfst hbt
 clear hq
 obtain ⟨U, hq⟩ : ∃ R, appL l ws = R := ⟨_, rfl⟩
 simp only [hq] at hr hnone
 clear hq
 obtain ⟨M, hM⟩ : ∃ n, H.length = n := ⟨_, rfl⟩
 simp only [hM] at hp hnone hfst
 obtain ⟨N, hN⟩ : ∃ n, T.length = n := ⟨_, rfl⟩
 simp only [hN] at ht hnone hfst
 obtain ⟨un, hun⟩ : ∃ n, U.length = n := ⟨_, rfl⟩
 simp only [hun] at hr
 have HM := Lib.hid hM; have HN := Lib.hid hN; have HUN := Lib.hid hun; have HP := Lib.hid hp; have HT := Lib.hid ht; have HR := Lib.hid hr; have HO := Lib.hid ho; have HWO := Lib.hid hwo; have HWX := Lib.hid hwx; have HBAD := Lib.hid hbad; have HNONE := Lib.hid hnone; have HTC := Lib.hid htc; have HFST := Lib.hid hfst; have HBT := Lib.hid hbt
 clear hl hv hT hwn hp ht hr ho hwo hwx hM hN hun hbad hnone htc hfst hbt hcap
 go_enter Tryz.func10, Tryz.ntmps10
 go_upto_region 1 with (fail)
 obtain ⟨w1, hw1⟩ : ∃ D, w.alloc (.cells #[.string nm, .int .i64 k1, .int .u32 (p1 : Int), .int .u32 (m1 : Int), .bool n1, .int .i64 a1, .int .i64 b1, .slice o1 N1 c1, .int .i64 k2, .int .u32 (p2 : Int), .int .u32 (m2 : Int), .bool n2, .int .i64 a2, .int .i64 b2, .slice o2 N2 c2, .slice io N3 ic, .slice oo N4 oc, .int .i64 md] 31) = D := ⟨_, rfl⟩
 have hE1 : Ext w w1 := by rw [← hw1]; exact (Turn.refl _ w).alloc _
 have hl1 : w1.heap[w.heap.size]? = some (.cells #[.string nm, .int .i64 k1, .int .u32 (p1 : Int), .int .u32 (m1 : Int), .bool n1, .int .i64 a1, .int .i64 b1, .slice o1 N1 c1, .int .i64 k2, .int .u32 (p2 : Int), .int .u32 (m2 : Int), .bool n2, .int .i64 a2, .int .i64 b2, .slice o2 N2 c2, .slice io N3 ic, .slice oo N4 oc, .int .i64 md] 31 (0, 0)) := by rw [← hw1]; exact new_at rfl
 rw [hw1]
 obtain ⟨B, hB⟩ : ∃ b, w.heap.size = b := ⟨_, rfl⟩
 rw [hB] at hl1 ⊢
 have HL1 := Lib.hid hl1
 clear hw1 hl1 hB
 go_wp2_with (refine wpList_load_row rfl 31 (.tmp 2) rfl B rfl _ _ _ _ HL1.out Tryz.underlying31 rfl Tryz.lawInfo ?_)
 refine (HP.out _ hE1).mono ?_
 rintro e w2 ⟨xo, xc, rfl, hO, hN⟩
 have hN1 : Ext w1 w2 := hN
 have hE2 : Ext w w2 := hE1.trans hN
 have HL2 := Lib.hid (Ext.keep hN HL1.out)
 clear hN HP HL1
 have hmM := hO.2.1
 rw [HM.out] at hmM
 unfold maxLen at hmM
 have Hx : Hid (∀ D, Ext w2 D → NatsAt D (.slice xo M xc) H) := Lib.hid (fun D hD => hO.ext hD)
 clear hO
 by_cases h0 : R = 0
 case neg =>
  have h9 : (R != 0) = true := by rw [bne_iff_ne]; exact h0
  have hz := HBAD.out h0
  have hM0 : M = 0 := by rw [← HM.out, hz]; rfl
  subst hM0
  clear hz HM HNONE HFST HTC HBT HBAD Hx HT HR HO HWX
  go_wp2_with fail
  refine (HWO.out _ hE2).mono ?_
  rintro e w3 ⟨rfl, hN⟩
  have hN2 : Ext w2 w3 := hN
  have hE3 : Ext w w3 := hE2.trans hN
  clear hN
  have HEND := Lib.hid hE3
  clear hE1 hE2 hE3
  go_wp2
  go_ret
  exact ⟨rfl, HEND.out⟩
 subst h0
 have HNONE2 := Lib.hid (HNONE.out rfl)
 have htc := HTC.out rfl
 clear HNONE HTC HBAD
 go_wp2_with (refine wpList_load_row rfl 31 (.tmp 2) rfl B rfl _ _ _ _ HL2.out Tryz.underlying31 rfl Tryz.lawInfo ?_)
 refine (HT.out _ hE2).mono ?_
 rintro e w3 ⟨xp, xq, yo, yc, rfl, hO, hN⟩
 have hN2 : Ext w2 w3 := hN
 have hE3 : Ext w w3 := hE2.trans hN
 have HL3 := Lib.hid (Ext.keep hN HL2.out)
 clear hN HT HL2
 have hmN := hO.len
 rw [HN.out] at hmN
 unfold maxLen at hmN
 have Hy : Hid (∀ D, Ext w3 D → TrOut w2.heap.size D (.slice xp N xq) (.slice yo N yc) T) := Lib.hid (fun D hD => hO.ext hD)
 clear hO
 by_cases hM0 : M = 0
 case pos =>
  obtain ⟨rfl, rfl, hU⟩ := HNONE2.out hM0
  subst hU
  subst hM0
  clear HNONE2 htc HFST HBT HO Hx Hy HN HM
  go_wp2_with (refine wpList_load_row rfl 31 (.tmp 2) rfl B rfl _ _ _ _ HL3.out Tryz.underlying31 rfl Tryz.lawInfo ?_)
  refine (HR.out _ hE3).mono ?_
  rintro e w4 ⟨zo, zc, rfl, hO, hN⟩
  have hN3 : Ext w3 w4 := hN
  have hE4 : Ext w w4 := hE3.trans hN
  have HL4 := Lib.hid (Ext.keep hN HL3.out)
  clear hN HR HL3
  have Hz : Hid (∀ D, Ext w4 D → WordAt D (.slice zo un zc) U) := Lib.hid (fun D hD => hO.ext hD)
  clear hO
  go_wp2_with fail
  refine (same_self (Hz.out _ (Turn.refl _ _)) (HWX.out _ hE4)).mono ?_
  rintro e w5 ⟨rfl, hN⟩
  have hN4 : Ext w4 w5 := hN
  have hE5 : Ext w w5 := hE4.trans hN
  clear hN
  go_wp2_with fail
  refine (HWO.out _ hE5).mono ?_
  rintro e w6 ⟨rfl, hN⟩
  have hN5 : Ext w5 w6 := hN
  have hE6 : Ext w w6 := hE5.trans hN
  clear hN
  have HEND := Lib.hid hE6
  clear hE1 hE2 hE3 hE4 hE5 hE6
  go_wp2
  go_ret
  exact ⟨rfl, HEND.out⟩
 have hMb : ((M : Int) == 0) = false := by simp; omega
 have hMi : ¬ (M : Int) = 0 := by omega
 clear HNONE2 HR HWX
 by_cases h0 : E = 0
 case neg =>
  obtain rfl : E = 11 := htc.resolve_left h0
  clear htc h0 HFST HBT Hx Hy HO hM0
  go_wp2_with fail
  refine (HWO.out _ hE3).mono ?_
  rintro e w4 ⟨rfl, hN⟩
  have hN3 : Ext w3 w4 := hN
  have hE4 : Ext w w4 := hE3.trans hN
  clear hN
  have HEND := Lib.hid hE4
  clear hE1 hE2 hE3 hE4
  go_wp2
  go_ret
  exact ⟨rfl, HEND.out⟩
 subst h0
 clear htc HBT
 obtain ⟨a, hN0, f1, f2, f3, f4, f5⟩ := HFST.out rfl hM0
 clear HFST
 have hNb : ((N : Int) == 0) = false := by simp; omega
 have hNi : ¬ (N : Int) = 0 := by omega
 have hNN : ((N : Int) != (N : Int)) = false := by simp
 have Hh : Hid (∀ (j : Nat), j < M → ∃ g off, xo = some ⟨g, off, none⟩ ∧ ∀ D, Ext w2 D → D.cell? ⟨g, off + j, none⟩ = some (.int .i64 ((H.getD j 0 : Nat) : Int))) := Lib.hid (fun j hj => by
  obtain ⟨ao, cap, hq, _, hc⟩ := Rd.int (Hx.out w2 (Turn.refl _ _) |> fun h => (by unfold NatsAt at h; exact h : Rd w2 (.slice xo M xc) H.length 1 (natV H)))
  simp only [Value.slice.injEq] at hq
  obtain ⟨g, off, ha, hc⟩ := hc j (by rw [HM.out]; exact hj)
  refine ⟨g, off, hq.1.trans ha, fun D hD => ?_⟩
  rw [List.getD_eq_getElem?_getD, List.getElem?_eq_getElem (by rw [HM.out]; exact hj)]
  exact hD.cell_some hc id)
 have Ht : Hid (∀ D, Ext w3 D → ∃ g off, xp = some ⟨g, off, none⟩ ∧ D.cell? ⟨g, off + 0, none⟩ = some (.int .i64 (a : Int))) := Lib.hid (fun D hD => by
  have h := (Hy.out D hD).nats
  unfold NatsAt at h
  obtain ⟨ao, cap, hq, _, hc⟩ := Rd.int h
  simp only [Value.slice.injEq] at hq
  have hlen : 0 < (T.map (·.1)).length := by rw [List.length_map, HN.out]; omega
  obtain ⟨g, off, ha, hc⟩ := hc 0 hlen
  refine ⟨g, off, hq.1.trans ha, ?_⟩
  rw [hc, ← f1, List.getD_eq_getElem?_getD, List.getElem?_eq_getElem hlen]; rfl)
 have HO2 := Lib.hid (fun (V : World) (hE : Ext w V) => by have h := HO.out V hE (a : Int); rw [f2, f3] at h; exact h)
 clear HO f2
 obtain ⟨W0, hW0⟩ : ∃ u, (T.map (·.2)).getD 0 [] = u := ⟨_, rfl⟩
 rw [hW0] at HO2 f3
 have HW0 := Lib.hid hW0
 have HF1 := Lib.hid f1
 clear f1 f3 hW0
 obtain ⟨gh, oh, rfl, hc0⟩ := Hh.out 0 (by omega)
 have hb0 := hc0 w3 hN2
 rw [show oh + 0 = oh by omega] at hb0
 have cM := cell_of_row _ _ 17 _ _ _ HL3.out
 by_cases hm : md = 3
 ·have hml : IntKind.i64.wrap ((M : Int) - 1) = ((M - 1 : Nat) : Int) := by rw [IntWalk.i64_in _ (by omega)]; omega
  have hml2 : ((M - 1 : Nat) : Int) < (M : Int) := by omega
  obtain ⟨gh2, oh2, hq, hc2⟩ := Hh.out (M - 1) (by omega)
  simp only [Option.some.injEq, Addr.mk.injEq, and_true] at hq
  obtain ⟨rfl, rfl⟩ := hq
  have hb2 := hc2 w3 hN2
  rw [f5 hm] at hb2
  clear hc0 hc2 f4 f5 Hh
  subst hm
  obtain ⟨M1, hM1⟩ : ∃ m, M - 1 = m := ⟨_, rfl⟩
  rw [hM1] at hml hml2 hb2
  go_wp2_with (refine wpList_load_row rfl 31 (.tmp 2) rfl B rfl _ _ _ _ HL3.out Tryz.underlying31 rfl Tryz.lawInfo ?_)
  refine (HO2.out _ hE3).mono ?_
  rintro e w4 ⟨u, rfl, ⟨zo, zc, rfl, hq, _⟩, hN⟩
  have hN3 : Ext w3 w4 := hN
  have hE4 : Ext w w4 := hE3.trans hN
  have HL4 := Lib.hid (Ext.keep hN HL3.out)
  clear hN HO2 HL3
  have Hz : Hid (∀ D, Ext w4 D → WordAt D (.slice zo W0.length zc) W0) := Lib.hid (fun D hD => hq.ext hD)
  clear hq
  clear cM
  obtain ⟨g1, of1, rfl, hc1⟩ := Ht.out _ hN3
  rw [show of1 + 0 = of1 by omega] at hc1
  obtain ⟨g2, bo, bc, n2, us, hq1, hus, hn2, d1, hwd, _⟩ := (Hy.out _ hN3).word HN.out (show 0 < N by omega)
  obtain rfl : us = W0 := hus.trans HW0.out
  subst hq1
  have HD := Lib.hid hwd
  clear hus hn2 hwd
  go_wp2_with fail
  refine (same_self (Hz.out _ (Turn.refl _ _)) HD.out).mono ?_
  rintro e w5 ⟨rfl, hN⟩
  have hN4 : Ext w4 w5 := hN
  have hE5 : Ext w w5 := hE4.trans hN
  clear hN
  go_wp2_with fail
  refine (HWO.out _ hE5).mono ?_
  rintro e w6 ⟨rfl, hN⟩
  have hN5 : Ext w5 w6 := hN
  have hE6 : Ext w w6 := hE5.trans hN
  clear hN
  have HEND := Lib.hid hE6
  clear hE1 hE2 hE3 hE4 hE5 hE6
  go_wp2
  go_ret
  exact ⟨rfl, HEND.out⟩
 ·have hmb : (md == 3) = false := by simp; exact hm
  rw [f4 hm] at hb0
  clear hc0 f4 f5 Hh
  go_wp2_with (refine wpList_load_row rfl 31 (.tmp 2) rfl B rfl _ _ _ _ HL3.out Tryz.underlying31 rfl Tryz.lawInfo ?_)
  refine (HO2.out _ hE3).mono ?_
  rintro e w4 ⟨u, rfl, ⟨zo, zc, rfl, hq, _⟩, hN⟩
  have hN3 : Ext w3 w4 := hN
  have hE4 : Ext w w4 := hE3.trans hN
  have HL4 := Lib.hid (Ext.keep hN HL3.out)
  clear hN HO2 HL3
  have Hz : Hid (∀ D, Ext w4 D → WordAt D (.slice zo W0.length zc) W0) := Lib.hid (fun D hD => hq.ext hD)
  clear hq
  clear cM
  obtain ⟨g1, of1, rfl, hc1⟩ := Ht.out _ hN3
  rw [show of1 + 0 = of1 by omega] at hc1
  obtain ⟨g2, bo, bc, n2, us, hq1, hus, hn2, d1, hwd, _⟩ := (Hy.out _ hN3).word HN.out (show 0 < N by omega)
  obtain rfl : us = W0 := hus.trans HW0.out
  subst hq1
  have HD := Lib.hid hwd
  clear hus hn2 hwd
  go_wp2_with fail
  refine (same_self (Hz.out _ (Turn.refl _ _)) HD.out).mono ?_
  rintro e w5 ⟨rfl, hN⟩
  have hN4 : Ext w4 w5 := hN
  have hE5 : Ext w w5 := hE4.trans hN
  clear hN
  go_wp2_with fail
  refine (HWO.out _ hE5).mono ?_
  rintro e w6 ⟨rfl, hN⟩
  have hN5 : Ext w5 w6 := hN
  have hE6 : Ext w w6 := hE5.trans hN
  clear hN
  have HEND := Lib.hid hE6
  clear hE1 hE2 hE3 hE4 hE5 hE6
  go_wp2
  go_ret
  exact ⟨rfl, HEND.out⟩
end Go.Proofs.YtedhogbocifipaaGreatDoor
