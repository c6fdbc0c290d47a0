/- ablautlaw08.LawChecks: the walk (printed by genlchecksw.py). -/
import Derived.Test.YtedhogbocifipaaGreatDoorGa22
import Derived.Test.YtedhogbocifipaaGreatDoorRefKind
import Derived.Test.YtedhogbocifipaaGreatDoorGa12
set_option maxRecDepth 100000
set_option maxHeartbeats 16000000
namespace Go.Proofs.YtedhogbocifipaaGreatDoor
open Go.RowKit Go.Ab
attribute [local go_sem] Oper.semAt_some wide_fn wide_depth

theorem checks_law {w : World} {l : LawD} {cs : List Value} (hl : LawAt w l cs) (hT : Tab w) :
  Calls Tryz.prog 3 #[.agg cs.toArray] w fun e w' => e = .returned (.bool true) ∧ Ext w w' := by
 have hp := fun (V : World) (hE : Ext w V) => lkind_any (hl.ext hE) (hT.keep hE id)
 have hr := fun (V : World) (hE : Ext w V) => rlkind_any (hl.ext hE)
 have hc := fun (V : World) (hE : Ext w V) => lcheck_any (hl.ext hE) (hT.keep hE id)
 have hd := fun (V : World) (hE : Ext w V) => rlcheck_any (hl.ext hE)
 have hwo := fun (V : World) (hE : Ext w V) => lworks_any V (hT.keep hE id)
 obtain ⟨nm, k1, p1, m1, n1, a1, b1, o1, N1, c1, k2, p2, m2, n2, a2, b2, o2, N2, c2, io, N3, ic, oo, N4, oc, md, rfl, HLA, HPL, HPR, HIF, HOU, HNM, HN1, HN2, HN3, HN4, HMD, q0, q1, q2, q3, q4⟩ := law_gen hl
 obtain ⟨E, hq⟩ : ∃ R, lawE l = R := ⟨_, rfl⟩
 simp only [hq] at hp hr hc hd
 clear hq
 obtain ⟨Kv, hq⟩ : ∃ R, kindV l = R := ⟨_, rfl⟩
 simp only [hq] at hp hr
 clear hq
 have HP := Lib.hid hp; have HR := Lib.hid hr; have HC := Lib.hid hc; have HD := Lib.hid hd; have HWO := Lib.hid hwo
 clear hl hT hp hr hc hd hwo
 go_enter Tryz.func3, Tryz.ntmps3
 go_upto_region 1 with (fail)
 obtain ⟨w1, hw1⟩ : ∃ D, w.alloc (.cells #[.string nm, .int .i64 k1, .int .u32 (p1 : Int), .int .u32 (m1 : Int), .bool n1, .int .i64 a1, .int .i64 b1, .slice o1 N1 c1, .int .i64 k2, .int .u32 (p2 : Int), .int .u32 (m2 : Int), .bool n2, .int .i64 a2, .int .i64 b2, .slice o2 N2 c2, .slice io N3 ic, .slice oo N4 oc, .int .i64 md] 31) = D := ⟨_, rfl⟩
 have hE1 : Ext w w1 := by rw [← hw1]; exact (Turn.refl _ w).alloc _
 have hl1 : w1.heap[w.heap.size]? = some (.cells #[.string nm, .int .i64 k1, .int .u32 (p1 : Int), .int .u32 (m1 : Int), .bool n1, .int .i64 a1, .int .i64 b1, .slice o1 N1 c1, .int .i64 k2, .int .u32 (p2 : Int), .int .u32 (m2 : Int), .bool n2, .int .i64 a2, .int .i64 b2, .slice o2 N2 c2, .slice io N3 ic, .slice oo N4 oc, .int .i64 md] 31 (0, 0)) := by rw [← hw1]; exact new_at rfl
 rw [hw1]
 obtain ⟨B, hB⟩ : ∃ b, w.heap.size = b := ⟨_, rfl⟩
 rw [hB] at hl1 ⊢
 have HL1 := Lib.hid hl1
 clear hw1 hl1 hB
 go_wp2_with (refine wpList_load_row rfl 31 (.tmp 1) rfl B rfl _ _ _ _ HL1.out Tryz.underlying31 rfl Tryz.lawInfo ?_)
 refine (HP.out _ hE1).mono ?_
 rintro e w2 ⟨rfl, hN⟩
 have hN1 : Ext w1 w2 := hN
 have hE2 : Ext w w2 := hE1.trans hN
 have HL2 := Lib.hid (Ext.keep hN HL1.out)
 clear hN HP HL1
 go_wp2_with (refine wpList_load_row rfl 31 (.tmp 1) rfl B rfl _ _ _ _ HL2.out Tryz.underlying31 rfl Tryz.lawInfo ?_)
 refine (HR.out _ hE2).mono ?_
 rintro e w3 ⟨rfl, hN⟩
 have hN2 : Ext w2 w3 := hN
 have hE3 : Ext w w3 := hE2.trans hN
 have HL3 := Lib.hid (Ext.keep hN HL2.out)
 clear hN HR HL2
 go_upto_region 3 with (fail)
 obtain ⟨V4, hV⟩ : ∃ D, w3.drew = D := ⟨_, rfl⟩
 have e4 : Ext w3 V4 := by rw [← hV]; exact (Turn.refl _ w3).drew
 have HSS : Hid (∀ D : World, Ext w3 D → D.heap[B]? = some (.cells #[.string nm, .int .i64 k1, .int .u32 (p1 : Int), .int .u32 (m1 : Int), .bool n1, .int .i64 a1, .int .i64 b1, .slice o1 N1 c1, .int .i64 k2, .int .u32 (p2 : Int), .int .u32 (m2 : Int), .bool n2, .int .i64 a2, .int .i64 b2, .slice o2 N2 c2, .slice io N3 ic, .slice oo N4 oc, .int .i64 md] 31 (0, 0))) := Lib.hid (fun D hD => Ext.keep hD HL3.out)
 refine wp_region_late (S := fun D => D.heap[B]? = some (.cells #[.string nm, .int .i64 k1, .int .u32 (p1 : Int), .int .u32 (m1 : Int), .bool n1, .int .i64 a1, .int .i64 b1, .slice o1 N1 c1, .int .i64 k2, .int .u32 (p2 : Int), .int .u32 (m2 : Int), .bool n2, .int .i64 a2, .int .i64 b2, .slice o2 N2 c2, .slice io N3 ic, .slice oo N4 oc, .int .i64 md] 31 (0, 0))) [] (by kernel_rfl) (by rw [hV]; exact HSS.out _ e4) ?_
 intro _
 have hS4 := HSS.out _ e4
 rw [hV]
 clear hV
 refine tkE (i := 0) (d := 17) (v := ?_) rfl (Or.inl ⟨by rfl, ?_⟩) hS4 ?_
 rotate_left
 ·intro w hSw; (try dsimp only at hSw); have hrow := hSw; refine exec_load_row (x := .tmp 1) ?_ B ?_ _ _ _ hrow Tryz.underlying31 Tryz.lawInfo <;> rfl
 try simp only [Act.put, pq]
 refine tkE (i := 2) (d := 19) (v := ?_) rfl (Or.inl ⟨by rfl, ?_⟩) hS4 ?_
 rotate_left
 ·intro w hSw; (try dsimp only at hSw); have hrow := hSw; refine exec_load_row (x := .tmp 1) ?_ B ?_ _ _ _ hrow Tryz.underlying31 Tryz.lawInfo <;> rfl
 try simp only [Act.put, pq]
 refine wpAnyE_ready (rs := [1]) (by kernel_rfl) (by simp) ?_
 refine AllReadyE.cons rfl (fun K hK => ?_) AllReadyE.nil
 (try rw [if_pos (show Region.wanted _ _ = true from rfl)])
 go_simp
 refine (HC.out _ (hE3.trans e4)).mono ?_
 rintro e V5 ⟨rfl, hN⟩
 have e5 : Ext w3 V5 := e4.trans hN
 refine hK.out _ _ (HSS.out _ e5) (fun hS5 => ?_)
 clear hK K hN
 try simp only [Act.put, pq]
 refine wpAnyE_ready (rs := [3]) (by kernel_rfl) (by simp) ?_
 refine AllReadyE.cons rfl (fun K hK => ?_) AllReadyE.nil
 (try rw [if_pos (show Region.wanted _ _ = true from rfl)])
 go_simp
 refine (HD.out _ (hE3.trans e5)).mono ?_
 rintro e V6 ⟨rfl, hN⟩
 have e6 : Ext w3 V6 := e5.trans hN
 refine hK.out _ _ (HSS.out _ e6) (fun hS6 => ?_)
 clear hK K hN
 try simp only [Act.put, pq]
 refine tkE (i := 4) (d := 21) (v := ?_) rfl (Or.inl ⟨by rfl, ?_⟩) hS6 ?_
 rotate_left
 ·intro w hSw; (try dsimp only at hSw); go_simp; try with_reducible rfl
 try simp only [Act.put, pq]
 refine tkE (i := 5) (d := 22) (v := ?_) rfl (Or.inl ⟨by rfl, ?_⟩) hS6 ?_
 rotate_left
 ·intro w hSw; (try dsimp only at hSw); go_simp; try with_reducible rfl
 try simp only [Act.put, pq]
 refine tkE (i := 6) (d := 23) (v := ?_) rfl (Or.inl ⟨by rfl, ?_⟩) hS6 ?_
 rotate_left
 ·intro w hSw; (try dsimp only at hSw); go_simp; try with_reducible rfl
 try simp only [Act.put, pq]
 refine tkE (i := 7) (d := 24) (v := ?_) rfl (Or.inl ⟨by rfl, ?_⟩) hS6 ?_
 rotate_left
 ·intro w hSw; (try dsimp only at hSw); go_simp; try with_reducible rfl
 try simp only [Act.put, pq]
 refine tkE (i := 8) (d := 25) (v := ?_) rfl (Or.inl ⟨by rfl, ?_⟩) hS6 ?_
 rotate_left
 ·intro w hSw; (try dsimp only at hSw); go_simp; try with_reducible rfl
 try simp only [Act.put, pq]
 refine tkE (i := 9) (d := 26) (v := ?_) rfl (Or.inl ⟨by rfl, ?_⟩) hS6 ?_
 rotate_left
 ·intro w hSw; (try dsimp only at hSw); go_simp; try with_reducible rfl
 try simp only [Act.put, pq]
 refine tkE (i := 10) (d := 27) (v := ?_) rfl (Or.inl ⟨by rfl, ?_⟩) hS6 ?_
 rotate_left
 ·intro w hSw; (try dsimp only at hSw); go_simp; try with_reducible rfl
 try simp only [Act.put, pq]
 refine tkE (i := 11) (d := 28) (v := ?_) rfl (Or.inl ⟨by rfl, ?_⟩) hS6 ?_
 rotate_left
 ·intro w hSw; (try dsimp only at hSw); go_simp; try with_reducible rfl
 try simp only [Act.put, pq]
 refine tkE (i := 12) (d := 29) (v := ?_) rfl (Or.inl ⟨by rfl, ?_⟩) hS6 ?_
 rotate_left
 ·intro w hSw; (try dsimp only at hSw); go_simp; try with_reducible rfl
 try simp only [Act.put, pq]
 refine tkE (i := 13) (d := 30) (v := ?_) rfl (Or.inl ⟨by rfl, ?_⟩) hS6 ?_
 rotate_left
 ·intro w hSw; (try dsimp only at hSw); go_simp; try with_reducible rfl
 try simp only [Act.put, pq]
 refine tkE (i := 14) (d := 31) (v := ?_) rfl (Or.inl ⟨by rfl, ?_⟩) hS6 ?_
 rotate_left
 ·intro w hSw; (try dsimp only at hSw); go_simp; try with_reducible rfl
 try simp only [Act.put, pq]
 refine tkE (i := 15) (d := 32) (v := ?_) rfl (Or.inl ⟨by rfl, ?_⟩) hS6 ?_
 rotate_left
 ·intro w hSw; (try dsimp only at hSw); go_simp; try with_reducible rfl
 try simp only [Act.put, pq]
 refine wpAnyE_ready (rs := [16]) (by kernel_rfl) (by simp) ?_
 refine AllReadyE.cons rfl (fun K hK => ?_) AllReadyE.nil
 (try rw [if_pos (show Region.wanted _ _ = true from rfl)])
 go_simp
 refine (HWO.out _ (hE3.trans e6)).mono ?_
 rintro e V7 ⟨rfl, hN⟩
 have e7 : Ext w3 V7 := e6.trans hN
 refine hK.out _ _ (HSS.out _ e7) (fun hS7 => ?_)
 clear hK K hN
 try simp only [Act.put, pq]
 refine tkE (i := 17) (d := 34) (v := ?_) rfl (Or.inl ⟨by rfl, ?_⟩) hS7 ?_
 rotate_left
 ·intro w hSw; (try dsimp only at hSw); go_simp; try with_reducible rfl
 try simp only [Act.put, pq]
 refine tkE (i := 18) (d := 2) (v := ?_) rfl (Or.inl ⟨by rfl, ?_⟩) hS7 ?_
 rotate_left
 ·intro w hSw; (try dsimp only at hSw); go_simp; try with_reducible rfl
 try simp only [Act.put, pq]
 refine wpAnyE_done (by kernel_rfl) ?_ _
 have HEND := Lib.hid (hE3.trans e7)
 clear hE1 hE2 hE3 e4 e5 e6 e7
 go_wp2
 go_ret
 exact ⟨rfl, HEND.out⟩
end Go.Proofs.YtedhogbocifipaaGreatDoor
