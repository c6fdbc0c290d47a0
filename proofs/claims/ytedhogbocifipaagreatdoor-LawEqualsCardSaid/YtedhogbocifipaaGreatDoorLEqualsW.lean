/- ablautlaw08.LawEquals: the walk (printed by genlequalsw.py). -/
import Derived.Test.YtedhogbocifipaaGreatDoorGa22
import Derived.Test.YtedhogbocifipaaGreatDoorLEqual
import Derived.Test.YtedhogbocifipaaGreatDoorREqual
import Derived.Test.YtedhogbocifipaaGreatDoorGa12
import Derived.Test.YtedhogbocifipaaGreatDoorRunA
set_option maxRecDepth 100000
set_option maxHeartbeats 16000000
namespace Go.Proofs.YtedhogbocifipaaGreatDoor
open Go.RowKit Go.Ab
attribute [local go_sem] Oper.semAt_some wide_fn wide_depth

theorem equals_law {w : World} {a b : LawD} {cs ds : List Value} (ha : LawAt w a cs) (hb : LawAt w b ds) (hT : Tab w) :
  Calls Tryz.prog 12 #[.agg cs.toArray, .agg ds.toArray] w fun e w' => e = .returned (.bool true) ∧ Ext w w' := by
 have hp := fun (V : World) (hE : Ext w V) => lequal_any (ha.ext hE) (hb.ext hE) (hT.keep hE id)
 have hr := fun (V : World) (hE : Ext w V) => rlequal_any (ha.ext hE) (hb.ext hE)
 have hq := fun (V : World) (hE : Ext w V) => lequal_any (hb.ext hE) (ha.ext hE) (hT.keep hE id)
 have hs := fun (V : World) (hE : Ext w V) => lequal_any (ha.ext hE) (ha.ext hE) (hT.keep hE id)
 have hwo := fun (V : World) (hE : Ext w V) => lworks_any V (hT.keep hE id)
 simp only [eqL_comm b a] at hq
 simp only [eqL_refl] at hs
 obtain ⟨nm, k1, p1, m1, n1, a1, b1, o1, N1, c1, k2, p2, m2, n2, a2, b2, o2, N2, c2, io, N3, ic, oo, N4, oc, md, rfl, HLA, HPL, HPR, HIF, HOU, HNM, HN1, HN2, HN3, HN4, HMD, q0, q1, q2, q3, q4⟩ := law_gen ha
 obtain ⟨nm', k1', p1', m1', n1', a1', b1', o1', N1', c1', k2', p2', m2', n2', a2', b2', o2', N2', c2', io', N3', ic', oo', N4', oc', md', rfl, HLA', HPL', HPR', HIF', HOU', HNM', HN1', HN2', HN3', HN4', HMD', q0', q1', q2', q3', q4'⟩ := law_gen hb
 have hx := fun (V : World) (hE : Ext w V) => refcheck_any (HPL.out.ext hE)
 have hy := fun (V : World) (hE : Ext w V) => refcheck_any (HPR.out.ext hE)
 obtain ⟨E, hz⟩ : ∃ R, eqL a b = R := ⟨_, rfl⟩
 simp only [hz] at hp hr hq
 clear hz
 obtain ⟨x1, hz⟩ : ∃ R, chkP a.left = R := ⟨_, rfl⟩
 simp only [hz] at hs hx
 clear hz
 obtain ⟨x2, hz⟩ : ∃ R, chkP a.right = R := ⟨_, rfl⟩
 simp only [hz] at hs hy
 clear hz
 have HP := Lib.hid hp; have HR := Lib.hid hr; have HQ := Lib.hid hq; have HS := Lib.hid hs; have HWO := Lib.hid hwo; have HX := Lib.hid hx; have HY := Lib.hid hy
 clear ha hb hT hp hr hq hs hwo hx hy HLA HPL HPR HIF HOU HNM HN1 HN2 HN3 HN4 HMD HLA' HPL' HPR' HIF' HOU' HNM' HN1' HN2' HN3' HN4' HMD'
 obtain ⟨w1, hw1⟩ : ∃ D, (w.alloc (.cells #[.string nm, .int .i64 k1, .int .u32 (p1 : Int), .int .u32 (m1 : Int), .bool n1, .int .i64 a1, .int .i64 b1, .slice o1 N1 c1, .int .i64 k2, .int .u32 (p2 : Int), .int .u32 (m2 : Int), .bool n2, .int .i64 a2, .int .i64 b2, .slice o2 N2 c2, .slice io N3 ic, .slice oo N4 oc, .int .i64 md] 31)).alloc (.cells #[.string nm', .int .i64 k1', .int .u32 (p1' : Int), .int .u32 (m1' : Int), .bool n1', .int .i64 a1', .int .i64 b1', .slice o1' N1' c1', .int .i64 k2', .int .u32 (p2' : Int), .int .u32 (m2' : Int), .bool n2', .int .i64 a2', .int .i64 b2', .slice o2' N2' c2', .slice io' N3' ic', .slice oo' N4' oc', .int .i64 md'] 31) = D := ⟨_, rfl⟩
 have hE1 : Ext w w1 := by rw [← hw1]; exact ((Turn.refl _ w).alloc _).alloc _
 have hl1 : w1.heap[w.heap.size]? = some (.cells #[.string nm, .int .i64 k1, .int .u32 (p1 : Int), .int .u32 (m1 : Int), .bool n1, .int .i64 a1, .int .i64 b1, .slice o1 N1 c1, .int .i64 k2, .int .u32 (p2 : Int), .int .u32 (m2 : Int), .bool n2, .int .i64 a2, .int .i64 b2, .slice o2 N2 c2, .slice io N3 ic, .slice oo N4 oc, .int .i64 md] 31 (0, 0)) := by rw [← hw1]; exact new_keep (new_at rfl)
 have hm1 : w1.heap[w.heap.size + 1]? = some (.cells #[.string nm', .int .i64 k1', .int .u32 (p1' : Int), .int .u32 (m1' : Int), .bool n1', .int .i64 a1', .int .i64 b1', .slice o1' N1' c1', .int .i64 k2', .int .u32 (p2' : Int), .int .u32 (m2' : Int), .bool n2', .int .i64 a2', .int .i64 b2', .slice o2' N2' c2', .slice io' N3' ic', .slice oo' N4' oc', .int .i64 md'] 31 (0, 0)) := by rw [← hw1]; exact new_at (by simp)
 go_enter Tryz.func12, Tryz.ntmps12
 go_upto_region 1 with (fail)
 try rw [hw1]
 obtain ⟨B, hB⟩ : ∃ b, w.heap.size = b := ⟨_, rfl⟩
 rw [hB] at hl1 hm1 ⊢
 have HL1 := Lib.hid hl1; have HM1 := Lib.hid hm1
 clear hw1 hl1 hm1 hB
 obtain ⟨V4, hV⟩ : ∃ D, w1.drew = D := ⟨_, rfl⟩
 have e4 : Ext w1 V4 := by rw [← hV]; exact (Turn.refl _ w1).drew
 have HSS : Hid (∀ D : World, Ext w1 D → D.heap[B]? = some (.cells #[.string nm, .int .i64 k1, .int .u32 (p1 : Int), .int .u32 (m1 : Int), .bool n1, .int .i64 a1, .int .i64 b1, .slice o1 N1 c1, .int .i64 k2, .int .u32 (p2 : Int), .int .u32 (m2 : Int), .bool n2, .int .i64 a2, .int .i64 b2, .slice o2 N2 c2, .slice io N3 ic, .slice oo N4 oc, .int .i64 md] 31 (0, 0)) ∧ D.heap[B + 1]? = some (.cells #[.string nm', .int .i64 k1', .int .u32 (p1' : Int), .int .u32 (m1' : Int), .bool n1', .int .i64 a1', .int .i64 b1', .slice o1' N1' c1', .int .i64 k2', .int .u32 (p2' : Int), .int .u32 (m2' : Int), .bool n2', .int .i64 a2', .int .i64 b2', .slice o2' N2' c2', .slice io' N3' ic', .slice oo' N4' oc', .int .i64 md'] 31 (0, 0))) := Lib.hid (fun D hD => ⟨Ext.keep hD HL1.out, Ext.keep hD HM1.out⟩)
 refine wp_region_late (S := fun D => D.heap[B]? = some (.cells #[.string nm, .int .i64 k1, .int .u32 (p1 : Int), .int .u32 (m1 : Int), .bool n1, .int .i64 a1, .int .i64 b1, .slice o1 N1 c1, .int .i64 k2, .int .u32 (p2 : Int), .int .u32 (m2 : Int), .bool n2, .int .i64 a2, .int .i64 b2, .slice o2 N2 c2, .slice io N3 ic, .slice oo N4 oc, .int .i64 md] 31 (0, 0)) ∧ D.heap[B + 1]? = some (.cells #[.string nm', .int .i64 k1', .int .u32 (p1' : Int), .int .u32 (m1' : Int), .bool n1', .int .i64 a1', .int .i64 b1', .slice o1' N1' c1', .int .i64 k2', .int .u32 (p2' : Int), .int .u32 (m2' : Int), .bool n2', .int .i64 a2', .int .i64 b2', .slice o2' N2' c2', .slice io' N3' ic', .slice oo' N4' oc', .int .i64 md'] 31 (0, 0))) [] (by kernel_rfl) (by rw [hV]; exact HSS.out _ e4) ?_
 intro _
 have hS4 := HSS.out _ e4
 rw [hV]
 clear hV
 by_cases hx1 : x1 = 0
 case neg =>
  have hb1 : (x1 == 0) = false := by rw [beq_eq_false_iff_ne]; exact hx1
  simp only [decide_eq_false hx1, Bool.false_and] at HS
  refine tkE (i := 0) (d := 5) (v := ?_) rfl (Or.inl ⟨by rfl, ?_⟩) hS4 ?_
  rotate_left
  ·intro w hSw; (try dsimp only at hSw); have hrow := hSw.1; refine exec_load_row (x := .tmp 2) ?_ B ?_ _ _ _ hrow Tryz.underlying31 Tryz.lawInfo <;> rfl
  try simp only [Act.put, pq]
  refine tkE (i := 1) (d := 6) (v := ?_) rfl (Or.inl ⟨by rfl, ?_⟩) hS4 ?_
  rotate_left
  ·intro w hSw; (try dsimp only at hSw); have hrow := hSw.2; refine exec_load_row (x := .tmp 3) ?_ (B + 1) ?_ _ _ _ hrow Tryz.underlying31 Tryz.lawInfo <;> rfl
  try simp only [Act.put, pq]
  refine tkE (i := 3) (d := 8) (v := ?_) rfl (Or.inl ⟨by rfl, ?_⟩) hS4 ?_
  rotate_left
  ·intro w hSw; (try dsimp only at hSw); have hrow := hSw.1; refine exec_load_row (x := .tmp 2) ?_ B ?_ _ _ _ hrow Tryz.underlying31 Tryz.lawInfo <;> rfl
  try simp only [Act.put, pq]
  refine tkE (i := 4) (d := 9) (v := ?_) rfl (Or.inl ⟨by rfl, ?_⟩) hS4 ?_
  rotate_left
  ·intro w hSw; (try dsimp only at hSw); have hrow := hSw.2; refine exec_load_row (x := .tmp 3) ?_ (B + 1) ?_ _ _ _ hrow Tryz.underlying31 Tryz.lawInfo <;> rfl
  try simp only [Act.put, pq]
  refine wpAnyE_ready (rs := [2]) (by kernel_rfl) (by simp) ?_
  refine AllReadyE.cons rfl (fun K hK => ?_) AllReadyE.nil
  (try rw [if_pos (show Region.wanted _ _ = true from rfl)])
  go_simp
  refine (HP.out _ (hE1.trans e4)).mono ?_
  rintro e V5 ⟨rfl, hN⟩
  have e5 : Ext w1 V5 := e4.trans hN
  refine hK.out _ _ (HSS.out _ e5) (fun hS5 => ?_)
  clear hK K hN
  try simp only [Act.put, pq]
  refine wpAnyE_ready (rs := [5]) (by kernel_rfl) (by simp) ?_
  refine AllReadyE.cons rfl (fun K hK => ?_) AllReadyE.nil
  (try rw [if_pos (show Region.wanted _ _ = true from rfl)])
  go_simp
  refine (HR.out _ (hE1.trans e5)).mono ?_
  rintro e V6 ⟨rfl, hN⟩
  have e6 : Ext w1 V6 := e5.trans hN
  refine hK.out _ _ (HSS.out _ e6) (fun hS6 => ?_)
  clear hK K hN
  try simp only [Act.put, pq]
  refine tkE (i := 6) (d := 11) (v := ?_) rfl (Or.inl ⟨by rfl, ?_⟩) hS6 ?_
  rotate_left
  ·intro w hSw; (try dsimp only at hSw); go_simp; try with_reducible rfl
  try simp only [Act.put, pq]
  refine tkE (i := 7) (d := 12) (v := ?_) rfl (Or.inl ⟨by rfl, ?_⟩) hS6 ?_
  rotate_left
  ·intro w hSw; (try dsimp only at hSw); go_simp; try with_reducible rfl
  try simp only [Act.put, pq]
  refine tkE (i := 8) (d := 13) (v := ?_) rfl (Or.inl ⟨by rfl, ?_⟩) hS6 ?_
  rotate_left
  ·intro w hSw; (try dsimp only at hSw); have hrow := hSw.2; refine exec_load_row (x := .tmp 3) ?_ (B + 1) ?_ _ _ _ hrow Tryz.underlying31 Tryz.lawInfo <;> rfl
  try simp only [Act.put, pq]
  refine tkE (i := 9) (d := 14) (v := ?_) rfl (Or.inl ⟨by rfl, ?_⟩) hS6 ?_
  rotate_left
  ·intro w hSw; (try dsimp only at hSw); have hrow := hSw.1; refine exec_load_row (x := .tmp 2) ?_ B ?_ _ _ _ hrow Tryz.underlying31 Tryz.lawInfo <;> rfl
  try simp only [Act.put, pq]
  refine tkE (i := 11) (d := 16) (v := ?_) rfl (Or.inl ⟨by rfl, ?_⟩) hS6 ?_
  rotate_left
  ·intro w hSw; (try dsimp only at hSw); have hrow := hSw.1; refine exec_load_row (x := .tmp 2) ?_ B ?_ _ _ _ hrow Tryz.underlying31 Tryz.lawInfo <;> rfl
  try simp only [Act.put, pq]
  refine tkE (i := 12) (d := 17) (v := ?_) rfl (Or.inl ⟨by rfl, ?_⟩) hS6 ?_
  rotate_left
  ·intro w hSw; (try dsimp only at hSw); have hrow := hSw.2; refine exec_load_row (x := .tmp 3) ?_ (B + 1) ?_ _ _ _ hrow Tryz.underlying31 Tryz.lawInfo <;> rfl
  try simp only [Act.put, pq]
  refine wpAnyE_ready (rs := [10]) (by kernel_rfl) (by simp) ?_
  refine AllReadyE.cons rfl (fun K hK => ?_) AllReadyE.nil
  (try rw [if_pos (show Region.wanted _ _ = true from rfl)])
  go_simp
  refine (HQ.out _ (hE1.trans e6)).mono ?_
  rintro e V7 ⟨rfl, hN⟩
  have e7 : Ext w1 V7 := e6.trans hN
  refine hK.out _ _ (HSS.out _ e7) (fun hS7 => ?_)
  clear hK K hN
  try simp only [Act.put, pq]
  refine wpAnyE_ready (rs := [13]) (by kernel_rfl) (by simp) ?_
  refine AllReadyE.cons rfl (fun K hK => ?_) AllReadyE.nil
  (try rw [if_pos (show Region.wanted _ _ = true from rfl)])
  go_simp
  refine (HP.out _ (hE1.trans e7)).mono ?_
  rintro e V8 ⟨rfl, hN⟩
  have e8 : Ext w1 V8 := e7.trans hN
  refine hK.out _ _ (HSS.out _ e8) (fun hS8 => ?_)
  clear hK K hN
  try simp only [Act.put, pq]
  refine tkE (i := 14) (d := 19) (v := ?_) rfl (Or.inl ⟨by rfl, ?_⟩) hS8 ?_
  rotate_left
  ·intro w hSw; (try dsimp only at hSw); go_simp; try with_reducible rfl
  try simp only [Act.put, pq]
  refine tkE (i := 15) (d := 20) (v := ?_) rfl (Or.inl ⟨by rfl, ?_⟩) hS8 ?_
  rotate_left
  ·intro w hSw; (try dsimp only at hSw); go_simp; try with_reducible rfl
  try simp only [Act.put, pq]
  refine tkE (i := 16) (d := 21) (v := ?_) rfl (Or.inl ⟨by rfl, ?_⟩) hS8 ?_
  rotate_left
  ·intro w hSw; (try dsimp only at hSw); go_simp; try with_reducible rfl
  try simp only [Act.put, pq]
  refine tkE (i := 17) (d := 22) (v := ?_) rfl (Or.inl ⟨by rfl, ?_⟩) hS8 ?_
  rotate_left
  ·intro w hSw; (try dsimp only at hSw); have hrow := hSw.1; refine exec_load_row (x := .tmp 2) ?_ B ?_ _ _ _ hrow Tryz.underlying31 Tryz.lawInfo <;> rfl
  try simp only [Act.put, pq]
  refine tkE (i := 18) (d := 23) (v := ?_) rfl (Or.inl ⟨by rfl, ?_⟩) hS8 ?_
  rotate_left
  ·intro w hSw; (try dsimp only at hSw); have hrow := hSw.1; refine exec_load_row (x := .tmp 2) ?_ B ?_ _ _ _ hrow Tryz.underlying31 Tryz.lawInfo <;> rfl
  try simp only [Act.put, pq]
  refine tkE (i := 20) (d := 25) (v := ?_) rfl (Or.inl ⟨by rfl, ?_⟩) hS8 ?_
  rotate_left
  ·intro w hSw; (try dsimp only at hSw); go_simp; try with_reducible rfl
  try simp only [Act.put, pq]
  refine tkE (i := 21) (d := 26) (v := ?_) rfl (Or.inl ⟨by rfl, ?_⟩) hS8 ?_
  rotate_left
  ·intro w hSw; (try dsimp only at hSw); have cX := fun j => cell_of_row _ _ j _ _ _ hSw.1; go_simp; try with_reducible rfl
  try simp only [Act.put, pq]
  refine wpAnyE_ready (rs := [19]) (by kernel_rfl) (by simp) ?_
  refine AllReadyE.cons rfl (fun K hK => ?_) AllReadyE.nil
  (try rw [if_pos (show Region.wanted _ _ = true from rfl)])
  go_simp
  refine (HS.out _ (hE1.trans e8)).mono ?_
  rintro e V9 ⟨rfl, hN⟩
  have e9 : Ext w1 V9 := e8.trans hN
  refine hK.out _ _ (HSS.out _ e9) (fun hS9 => ?_)
  clear hK K hN
  try simp only [Act.put, pq]
  refine wpAnyE_ready (rs := [22]) (by kernel_rfl) (by simp) ?_
  refine AllReadyE.cons rfl (fun K hK => ?_) AllReadyE.nil
  (try rw [if_pos (show Region.wanted _ _ = true from rfl)])
  go_simp
  refine (HX.out _ (hE1.trans e9)).mono ?_
  rintro e V10 ⟨rfl, hN⟩
  have e10 : Ext w1 V10 := e9.trans hN
  refine hK.out _ _ (HSS.out _ e10) (fun hS10 => ?_)
  clear hK K hN
  try simp only [Act.put, pq]
  refine tkE (i := 23) (d := 28) (v := ?_) rfl (Or.inl ⟨by rfl, ?_⟩) hS10 ?_
  rotate_left
  ·intro w hSw; (try dsimp only at hSw); go_simp; try with_reducible rfl
  try simp only [Act.put, pq]
  refine tkE (i := 24) (d := 29) (v := ?_) rfl (Or.inl ⟨by rfl, ?_⟩) hS10 ?_
  rotate_left
  ·intro w hSw; (try dsimp only at hSw); go_simp; try with_reducible rfl
  try simp only [Act.put, pq]
  refine tkE (i := 25) (d := 30) (v := undef) rfl (Or.inr ⟨by rfl, rfl⟩) hS10 ?_
  try simp only [Act.put, pq]
  refine tkE (i := 26) (d := 31) (v := undef) rfl (Or.inr ⟨by rfl, rfl⟩) hS10 ?_
  try simp only [Act.put, pq]
  refine tkE (i := 27) (d := 32) (v := undef) rfl (Or.inr ⟨by rfl, rfl⟩) hS10 ?_
  try simp only [Act.put, pq]
  refine tkE (i := 28) (d := 33) (v := undef) rfl (Or.inr ⟨by rfl, rfl⟩) hS10 ?_
  try simp only [Act.put, pq]
  refine tkE (i := 29) (d := 34) (v := ?_) rfl (Or.inl ⟨by rfl, ?_⟩) hS10 ?_
  rotate_left
  ·intro w hSw; (try dsimp only at hSw); go_simp; try with_reducible rfl
  try simp only [Act.put, pq]
  refine tkE (i := 30) (d := 35) (v := ?_) rfl (Or.inl ⟨by rfl, ?_⟩) hS10 ?_
  rotate_left
  ·intro w hSw; (try dsimp only at hSw); go_simp; try with_reducible rfl
  try simp only [Act.put, pq]
  refine tkE (i := 31) (d := 36) (v := ?_) rfl (Or.inl ⟨by rfl, ?_⟩) hS10 ?_
  rotate_left
  ·intro w hSw; (try dsimp only at hSw); go_simp; try with_reducible rfl
  try simp only [Act.put, pq]
  refine tkE (i := 32) (d := 37) (v := ?_) rfl (Or.inl ⟨by rfl, ?_⟩) hS10 ?_
  rotate_left
  ·intro w hSw; (try dsimp only at hSw); go_simp; try with_reducible rfl
  try simp only [Act.put, pq]
  refine wpAnyE_ready (rs := [33]) (by kernel_rfl) (by simp) ?_
  refine AllReadyE.cons rfl (fun K hK => ?_) AllReadyE.nil
  (try rw [if_pos (show Region.wanted _ _ = true from rfl)])
  go_simp
  refine (HWO.out _ (hE1.trans e10)).mono ?_
  rintro e V11 ⟨rfl, hN⟩
  have e11 : Ext w1 V11 := e10.trans hN
  refine hK.out _ _ (HSS.out _ e11) (fun hS11 => ?_)
  clear hK K hN
  try simp only [Act.put, pq]
  refine tkE (i := 34) (d := 39) (v := ?_) rfl (Or.inl ⟨by rfl, ?_⟩) hS11 ?_
  rotate_left
  ·intro w hSw; (try dsimp only at hSw); go_simp; try with_reducible rfl
  try simp only [Act.put, pq]
  refine tkE (i := 35) (d := 4) (v := ?_) rfl (Or.inl ⟨by rfl, ?_⟩) hS11 ?_
  rotate_left
  ·intro w hSw; (try dsimp only at hSw); go_simp; try with_reducible rfl
  try simp only [Act.put, pq]
  refine wpAnyE_done (by kernel_rfl) ?_ _
  have HEND := Lib.hid (hE1.trans e11)
  clear hE1 e4 e5 e6 e7 e8 e9 e10 e11
  go_wp2
  go_ret
  exact ⟨rfl, HEND.out⟩
 subst hx1
 by_cases hx2 : x2 = 0
 case neg =>
  have hb1 : (x2 == 0) = false := by rw [beq_eq_false_iff_ne]; exact hx2
  simp only [decide_eq_false hx2, Bool.and_false] at HS
  refine tkE (i := 0) (d := 5) (v := ?_) rfl (Or.inl ⟨by rfl, ?_⟩) hS4 ?_
  rotate_left
  ·intro w hSw; (try dsimp only at hSw); have hrow := hSw.1; refine exec_load_row (x := .tmp 2) ?_ B ?_ _ _ _ hrow Tryz.underlying31 Tryz.lawInfo <;> rfl
  try simp only [Act.put, pq]
  refine tkE (i := 1) (d := 6) (v := ?_) rfl (Or.inl ⟨by rfl, ?_⟩) hS4 ?_
  rotate_left
  ·intro w hSw; (try dsimp only at hSw); have hrow := hSw.2; refine exec_load_row (x := .tmp 3) ?_ (B + 1) ?_ _ _ _ hrow Tryz.underlying31 Tryz.lawInfo <;> rfl
  try simp only [Act.put, pq]
  refine tkE (i := 3) (d := 8) (v := ?_) rfl (Or.inl ⟨by rfl, ?_⟩) hS4 ?_
  rotate_left
  ·intro w hSw; (try dsimp only at hSw); have hrow := hSw.1; refine exec_load_row (x := .tmp 2) ?_ B ?_ _ _ _ hrow Tryz.underlying31 Tryz.lawInfo <;> rfl
  try simp only [Act.put, pq]
  refine tkE (i := 4) (d := 9) (v := ?_) rfl (Or.inl ⟨by rfl, ?_⟩) hS4 ?_
  rotate_left
  ·intro w hSw; (try dsimp only at hSw); have hrow := hSw.2; refine exec_load_row (x := .tmp 3) ?_ (B + 1) ?_ _ _ _ hrow Tryz.underlying31 Tryz.lawInfo <;> rfl
  try simp only [Act.put, pq]
  refine wpAnyE_ready (rs := [2]) (by kernel_rfl) (by simp) ?_
  refine AllReadyE.cons rfl (fun K hK => ?_) AllReadyE.nil
  (try rw [if_pos (show Region.wanted _ _ = true from rfl)])
  go_simp
  refine (HP.out _ (hE1.trans e4)).mono ?_
  rintro e V5 ⟨rfl, hN⟩
  have e5 : Ext w1 V5 := e4.trans hN
  refine hK.out _ _ (HSS.out _ e5) (fun hS5 => ?_)
  clear hK K hN
  try simp only [Act.put, pq]
  refine wpAnyE_ready (rs := [5]) (by kernel_rfl) (by simp) ?_
  refine AllReadyE.cons rfl (fun K hK => ?_) AllReadyE.nil
  (try rw [if_pos (show Region.wanted _ _ = true from rfl)])
  go_simp
  refine (HR.out _ (hE1.trans e5)).mono ?_
  rintro e V6 ⟨rfl, hN⟩
  have e6 : Ext w1 V6 := e5.trans hN
  refine hK.out _ _ (HSS.out _ e6) (fun hS6 => ?_)
  clear hK K hN
  try simp only [Act.put, pq]
  refine tkE (i := 6) (d := 11) (v := ?_) rfl (Or.inl ⟨by rfl, ?_⟩) hS6 ?_
  rotate_left
  ·intro w hSw; (try dsimp only at hSw); go_simp; try with_reducible rfl
  try simp only [Act.put, pq]
  refine tkE (i := 7) (d := 12) (v := ?_) rfl (Or.inl ⟨by rfl, ?_⟩) hS6 ?_
  rotate_left
  ·intro w hSw; (try dsimp only at hSw); go_simp; try with_reducible rfl
  try simp only [Act.put, pq]
  refine tkE (i := 8) (d := 13) (v := ?_) rfl (Or.inl ⟨by rfl, ?_⟩) hS6 ?_
  rotate_left
  ·intro w hSw; (try dsimp only at hSw); have hrow := hSw.2; refine exec_load_row (x := .tmp 3) ?_ (B + 1) ?_ _ _ _ hrow Tryz.underlying31 Tryz.lawInfo <;> rfl
  try simp only [Act.put, pq]
  refine tkE (i := 9) (d := 14) (v := ?_) rfl (Or.inl ⟨by rfl, ?_⟩) hS6 ?_
  rotate_left
  ·intro w hSw; (try dsimp only at hSw); have hrow := hSw.1; refine exec_load_row (x := .tmp 2) ?_ B ?_ _ _ _ hrow Tryz.underlying31 Tryz.lawInfo <;> rfl
  try simp only [Act.put, pq]
  refine tkE (i := 11) (d := 16) (v := ?_) rfl (Or.inl ⟨by rfl, ?_⟩) hS6 ?_
  rotate_left
  ·intro w hSw; (try dsimp only at hSw); have hrow := hSw.1; refine exec_load_row (x := .tmp 2) ?_ B ?_ _ _ _ hrow Tryz.underlying31 Tryz.lawInfo <;> rfl
  try simp only [Act.put, pq]
  refine tkE (i := 12) (d := 17) (v := ?_) rfl (Or.inl ⟨by rfl, ?_⟩) hS6 ?_
  rotate_left
  ·intro w hSw; (try dsimp only at hSw); have hrow := hSw.2; refine exec_load_row (x := .tmp 3) ?_ (B + 1) ?_ _ _ _ hrow Tryz.underlying31 Tryz.lawInfo <;> rfl
  try simp only [Act.put, pq]
  refine wpAnyE_ready (rs := [10]) (by kernel_rfl) (by simp) ?_
  refine AllReadyE.cons rfl (fun K hK => ?_) AllReadyE.nil
  (try rw [if_pos (show Region.wanted _ _ = true from rfl)])
  go_simp
  refine (HQ.out _ (hE1.trans e6)).mono ?_
  rintro e V7 ⟨rfl, hN⟩
  have e7 : Ext w1 V7 := e6.trans hN
  refine hK.out _ _ (HSS.out _ e7) (fun hS7 => ?_)
  clear hK K hN
  try simp only [Act.put, pq]
  refine wpAnyE_ready (rs := [13]) (by kernel_rfl) (by simp) ?_
  refine AllReadyE.cons rfl (fun K hK => ?_) AllReadyE.nil
  (try rw [if_pos (show Region.wanted _ _ = true from rfl)])
  go_simp
  refine (HP.out _ (hE1.trans e7)).mono ?_
  rintro e V8 ⟨rfl, hN⟩
  have e8 : Ext w1 V8 := e7.trans hN
  refine hK.out _ _ (HSS.out _ e8) (fun hS8 => ?_)
  clear hK K hN
  try simp only [Act.put, pq]
  refine tkE (i := 14) (d := 19) (v := ?_) rfl (Or.inl ⟨by rfl, ?_⟩) hS8 ?_
  rotate_left
  ·intro w hSw; (try dsimp only at hSw); go_simp; try with_reducible rfl
  try simp only [Act.put, pq]
  refine tkE (i := 15) (d := 20) (v := ?_) rfl (Or.inl ⟨by rfl, ?_⟩) hS8 ?_
  rotate_left
  ·intro w hSw; (try dsimp only at hSw); go_simp; try with_reducible rfl
  try simp only [Act.put, pq]
  refine tkE (i := 16) (d := 21) (v := ?_) rfl (Or.inl ⟨by rfl, ?_⟩) hS8 ?_
  rotate_left
  ·intro w hSw; (try dsimp only at hSw); go_simp; try with_reducible rfl
  try simp only [Act.put, pq]
  refine tkE (i := 17) (d := 22) (v := ?_) rfl (Or.inl ⟨by rfl, ?_⟩) hS8 ?_
  rotate_left
  ·intro w hSw; (try dsimp only at hSw); have hrow := hSw.1; refine exec_load_row (x := .tmp 2) ?_ B ?_ _ _ _ hrow Tryz.underlying31 Tryz.lawInfo <;> rfl
  try simp only [Act.put, pq]
  refine tkE (i := 18) (d := 23) (v := ?_) rfl (Or.inl ⟨by rfl, ?_⟩) hS8 ?_
  rotate_left
  ·intro w hSw; (try dsimp only at hSw); have hrow := hSw.1; refine exec_load_row (x := .tmp 2) ?_ B ?_ _ _ _ hrow Tryz.underlying31 Tryz.lawInfo <;> rfl
  try simp only [Act.put, pq]
  refine tkE (i := 20) (d := 25) (v := ?_) rfl (Or.inl ⟨by rfl, ?_⟩) hS8 ?_
  rotate_left
  ·intro w hSw; (try dsimp only at hSw); go_simp; try with_reducible rfl
  try simp only [Act.put, pq]
  refine tkE (i := 21) (d := 26) (v := ?_) rfl (Or.inl ⟨by rfl, ?_⟩) hS8 ?_
  rotate_left
  ·intro w hSw; (try dsimp only at hSw); have cX := fun j => cell_of_row _ _ j _ _ _ hSw.1; go_simp; try with_reducible rfl
  try simp only [Act.put, pq]
  refine wpAnyE_ready (rs := [19]) (by kernel_rfl) (by simp) ?_
  refine AllReadyE.cons rfl (fun K hK => ?_) AllReadyE.nil
  (try rw [if_pos (show Region.wanted _ _ = true from rfl)])
  go_simp
  refine (HS.out _ (hE1.trans e8)).mono ?_
  rintro e V9 ⟨rfl, hN⟩
  have e9 : Ext w1 V9 := e8.trans hN
  refine hK.out _ _ (HSS.out _ e9) (fun hS9 => ?_)
  clear hK K hN
  try simp only [Act.put, pq]
  refine wpAnyE_ready (rs := [22]) (by kernel_rfl) (by simp) ?_
  refine AllReadyE.cons rfl (fun K hK => ?_) AllReadyE.nil
  (try rw [if_pos (show Region.wanted _ _ = true from rfl)])
  go_simp
  refine (HX.out _ (hE1.trans e9)).mono ?_
  rintro e V10 ⟨rfl, hN⟩
  have e10 : Ext w1 V10 := e9.trans hN
  refine hK.out _ _ (HSS.out _ e10) (fun hS10 => ?_)
  clear hK K hN
  try simp only [Act.put, pq]
  refine tkE (i := 23) (d := 28) (v := ?_) rfl (Or.inl ⟨by rfl, ?_⟩) hS10 ?_
  rotate_left
  ·intro w hSw; (try dsimp only at hSw); go_simp; try with_reducible rfl
  try simp only [Act.put, pq]
  refine tkE (i := 24) (d := 29) (v := ?_) rfl (Or.inl ⟨by rfl, ?_⟩) hS10 ?_
  rotate_left
  ·intro w hSw; (try dsimp only at hSw); go_simp; try with_reducible rfl
  try simp only [Act.put, pq]
  refine tkE (i := 25) (d := 30) (v := ?_) rfl (Or.inl ⟨by rfl, ?_⟩) hS10 ?_
  rotate_left
  ·intro w hSw; (try dsimp only at hSw); go_simp; try with_reducible rfl
  try simp only [Act.put, pq]
  refine tkE (i := 26) (d := 31) (v := ?_) rfl (Or.inl ⟨by rfl, ?_⟩) hS10 ?_
  rotate_left
  ·intro w hSw; (try dsimp only at hSw); have cX := fun j => cell_of_row _ _ j _ _ _ hSw.1; go_simp; try with_reducible rfl
  try simp only [Act.put, pq]
  refine wpAnyE_ready (rs := [27]) (by kernel_rfl) (by simp) ?_
  refine AllReadyE.cons rfl (fun K hK => ?_) AllReadyE.nil
  (try rw [if_pos (show Region.wanted _ _ = true from rfl)])
  go_simp
  refine (HY.out _ (hE1.trans e10)).mono ?_
  rintro e V11 ⟨rfl, hN⟩
  have e11 : Ext w1 V11 := e10.trans hN
  refine hK.out _ _ (HSS.out _ e11) (fun hS11 => ?_)
  clear hK K hN
  try simp only [Act.put, pq]
  refine tkE (i := 28) (d := 33) (v := ?_) rfl (Or.inl ⟨by rfl, ?_⟩) hS11 ?_
  rotate_left
  ·intro w hSw; (try dsimp only at hSw); go_simp; try with_reducible rfl
  try simp only [Act.put, pq]
  refine tkE (i := 29) (d := 34) (v := ?_) rfl (Or.inl ⟨by rfl, ?_⟩) hS11 ?_
  rotate_left
  ·intro w hSw; (try dsimp only at hSw); go_simp; try with_reducible rfl
  try simp only [Act.put, pq]
  refine tkE (i := 30) (d := 35) (v := ?_) rfl (Or.inl ⟨by rfl, ?_⟩) hS11 ?_
  rotate_left
  ·intro w hSw; (try dsimp only at hSw); go_simp; try with_reducible rfl
  try simp only [Act.put, pq]
  refine tkE (i := 31) (d := 36) (v := ?_) rfl (Or.inl ⟨by rfl, ?_⟩) hS11 ?_
  rotate_left
  ·intro w hSw; (try dsimp only at hSw); go_simp; try with_reducible rfl
  try simp only [Act.put, pq]
  refine tkE (i := 32) (d := 37) (v := ?_) rfl (Or.inl ⟨by rfl, ?_⟩) hS11 ?_
  rotate_left
  ·intro w hSw; (try dsimp only at hSw); go_simp; try with_reducible rfl
  try simp only [Act.put, pq]
  refine wpAnyE_ready (rs := [33]) (by kernel_rfl) (by simp) ?_
  refine AllReadyE.cons rfl (fun K hK => ?_) AllReadyE.nil
  (try rw [if_pos (show Region.wanted _ _ = true from rfl)])
  go_simp
  refine (HWO.out _ (hE1.trans e11)).mono ?_
  rintro e V12 ⟨rfl, hN⟩
  have e12 : Ext w1 V12 := e11.trans hN
  refine hK.out _ _ (HSS.out _ e12) (fun hS12 => ?_)
  clear hK K hN
  try simp only [Act.put, pq]
  refine tkE (i := 34) (d := 39) (v := ?_) rfl (Or.inl ⟨by rfl, ?_⟩) hS12 ?_
  rotate_left
  ·intro w hSw; (try dsimp only at hSw); go_simp; try with_reducible rfl
  try simp only [Act.put, pq]
  refine tkE (i := 35) (d := 4) (v := ?_) rfl (Or.inl ⟨by rfl, ?_⟩) hS12 ?_
  rotate_left
  ·intro w hSw; (try dsimp only at hSw); go_simp; try with_reducible rfl
  try simp only [Act.put, pq]
  refine wpAnyE_done (by kernel_rfl) ?_ _
  have HEND := Lib.hid (hE1.trans e12)
  clear hE1 e4 e5 e6 e7 e8 e9 e10 e11 e12
  go_wp2
  go_ret
  exact ⟨rfl, HEND.out⟩
 subst hx2
 simp only [decide_true, Bool.and_true] at HS
 refine tkE (i := 0) (d := 5) (v := ?_) rfl (Or.inl ⟨by rfl, ?_⟩) hS4 ?_
 rotate_left
 ·intro w hSw; (try dsimp only at hSw); have hrow := hSw.1; refine exec_load_row (x := .tmp 2) ?_ B ?_ _ _ _ hrow Tryz.underlying31 Tryz.lawInfo <;> rfl
 try simp only [Act.put, pq]
 refine tkE (i := 1) (d := 6) (v := ?_) rfl (Or.inl ⟨by rfl, ?_⟩) hS4 ?_
 rotate_left
 ·intro w hSw; (try dsimp only at hSw); have hrow := hSw.2; refine exec_load_row (x := .tmp 3) ?_ (B + 1) ?_ _ _ _ hrow Tryz.underlying31 Tryz.lawInfo <;> rfl
 try simp only [Act.put, pq]
 refine tkE (i := 3) (d := 8) (v := ?_) rfl (Or.inl ⟨by rfl, ?_⟩) hS4 ?_
 rotate_left
 ·intro w hSw; (try dsimp only at hSw); have hrow := hSw.1; refine exec_load_row (x := .tmp 2) ?_ B ?_ _ _ _ hrow Tryz.underlying31 Tryz.lawInfo <;> rfl
 try simp only [Act.put, pq]
 refine tkE (i := 4) (d := 9) (v := ?_) rfl (Or.inl ⟨by rfl, ?_⟩) hS4 ?_
 rotate_left
 ·intro w hSw; (try dsimp only at hSw); have hrow := hSw.2; refine exec_load_row (x := .tmp 3) ?_ (B + 1) ?_ _ _ _ hrow Tryz.underlying31 Tryz.lawInfo <;> rfl
 try simp only [Act.put, pq]
 refine wpAnyE_ready (rs := [2]) (by kernel_rfl) (by simp) ?_
 refine AllReadyE.cons rfl (fun K hK => ?_) AllReadyE.nil
 (try rw [if_pos (show Region.wanted _ _ = true from rfl)])
 go_simp
 refine (HP.out _ (hE1.trans e4)).mono ?_
 rintro e V5 ⟨rfl, hN⟩
 have e5 : Ext w1 V5 := e4.trans hN
 refine hK.out _ _ (HSS.out _ e5) (fun hS5 => ?_)
 clear hK K hN
 try simp only [Act.put, pq]
 refine wpAnyE_ready (rs := [5]) (by kernel_rfl) (by simp) ?_
 refine AllReadyE.cons rfl (fun K hK => ?_) AllReadyE.nil
 (try rw [if_pos (show Region.wanted _ _ = true from rfl)])
 go_simp
 refine (HR.out _ (hE1.trans e5)).mono ?_
 rintro e V6 ⟨rfl, hN⟩
 have e6 : Ext w1 V6 := e5.trans hN
 refine hK.out _ _ (HSS.out _ e6) (fun hS6 => ?_)
 clear hK K hN
 try simp only [Act.put, pq]
 refine tkE (i := 6) (d := 11) (v := ?_) rfl (Or.inl ⟨by rfl, ?_⟩) hS6 ?_
 rotate_left
 ·intro w hSw; (try dsimp only at hSw); go_simp; try with_reducible rfl
 try simp only [Act.put, pq]
 refine tkE (i := 7) (d := 12) (v := ?_) rfl (Or.inl ⟨by rfl, ?_⟩) hS6 ?_
 rotate_left
 ·intro w hSw; (try dsimp only at hSw); go_simp; try with_reducible rfl
 try simp only [Act.put, pq]
 refine tkE (i := 8) (d := 13) (v := ?_) rfl (Or.inl ⟨by rfl, ?_⟩) hS6 ?_
 rotate_left
 ·intro w hSw; (try dsimp only at hSw); have hrow := hSw.2; refine exec_load_row (x := .tmp 3) ?_ (B + 1) ?_ _ _ _ hrow Tryz.underlying31 Tryz.lawInfo <;> rfl
 try simp only [Act.put, pq]
 refine tkE (i := 9) (d := 14) (v := ?_) rfl (Or.inl ⟨by rfl, ?_⟩) hS6 ?_
 rotate_left
 ·intro w hSw; (try dsimp only at hSw); have hrow := hSw.1; refine exec_load_row (x := .tmp 2) ?_ B ?_ _ _ _ hrow Tryz.underlying31 Tryz.lawInfo <;> rfl
 try simp only [Act.put, pq]
 refine tkE (i := 11) (d := 16) (v := ?_) rfl (Or.inl ⟨by rfl, ?_⟩) hS6 ?_
 rotate_left
 ·intro w hSw; (try dsimp only at hSw); have hrow := hSw.1; refine exec_load_row (x := .tmp 2) ?_ B ?_ _ _ _ hrow Tryz.underlying31 Tryz.lawInfo <;> rfl
 try simp only [Act.put, pq]
 refine tkE (i := 12) (d := 17) (v := ?_) rfl (Or.inl ⟨by rfl, ?_⟩) hS6 ?_
 rotate_left
 ·intro w hSw; (try dsimp only at hSw); have hrow := hSw.2; refine exec_load_row (x := .tmp 3) ?_ (B + 1) ?_ _ _ _ hrow Tryz.underlying31 Tryz.lawInfo <;> rfl
 try simp only [Act.put, pq]
 refine wpAnyE_ready (rs := [10]) (by kernel_rfl) (by simp) ?_
 refine AllReadyE.cons rfl (fun K hK => ?_) AllReadyE.nil
 (try rw [if_pos (show Region.wanted _ _ = true from rfl)])
 go_simp
 refine (HQ.out _ (hE1.trans e6)).mono ?_
 rintro e V7 ⟨rfl, hN⟩
 have e7 : Ext w1 V7 := e6.trans hN
 refine hK.out _ _ (HSS.out _ e7) (fun hS7 => ?_)
 clear hK K hN
 try simp only [Act.put, pq]
 refine wpAnyE_ready (rs := [13]) (by kernel_rfl) (by simp) ?_
 refine AllReadyE.cons rfl (fun K hK => ?_) AllReadyE.nil
 (try rw [if_pos (show Region.wanted _ _ = true from rfl)])
 go_simp
 refine (HP.out _ (hE1.trans e7)).mono ?_
 rintro e V8 ⟨rfl, hN⟩
 have e8 : Ext w1 V8 := e7.trans hN
 refine hK.out _ _ (HSS.out _ e8) (fun hS8 => ?_)
 clear hK K hN
 try simp only [Act.put, pq]
 refine tkE (i := 14) (d := 19) (v := ?_) rfl (Or.inl ⟨by rfl, ?_⟩) hS8 ?_
 rotate_left
 ·intro w hSw; (try dsimp only at hSw); go_simp; try with_reducible rfl
 try simp only [Act.put, pq]
 refine tkE (i := 15) (d := 20) (v := ?_) rfl (Or.inl ⟨by rfl, ?_⟩) hS8 ?_
 rotate_left
 ·intro w hSw; (try dsimp only at hSw); go_simp; try with_reducible rfl
 try simp only [Act.put, pq]
 refine tkE (i := 16) (d := 21) (v := ?_) rfl (Or.inl ⟨by rfl, ?_⟩) hS8 ?_
 rotate_left
 ·intro w hSw; (try dsimp only at hSw); go_simp; try with_reducible rfl
 try simp only [Act.put, pq]
 refine tkE (i := 17) (d := 22) (v := ?_) rfl (Or.inl ⟨by rfl, ?_⟩) hS8 ?_
 rotate_left
 ·intro w hSw; (try dsimp only at hSw); have hrow := hSw.1; refine exec_load_row (x := .tmp 2) ?_ B ?_ _ _ _ hrow Tryz.underlying31 Tryz.lawInfo <;> rfl
 try simp only [Act.put, pq]
 refine tkE (i := 18) (d := 23) (v := ?_) rfl (Or.inl ⟨by rfl, ?_⟩) hS8 ?_
 rotate_left
 ·intro w hSw; (try dsimp only at hSw); have hrow := hSw.1; refine exec_load_row (x := .tmp 2) ?_ B ?_ _ _ _ hrow Tryz.underlying31 Tryz.lawInfo <;> rfl
 try simp only [Act.put, pq]
 refine tkE (i := 20) (d := 25) (v := ?_) rfl (Or.inl ⟨by rfl, ?_⟩) hS8 ?_
 rotate_left
 ·intro w hSw; (try dsimp only at hSw); go_simp; try with_reducible rfl
 try simp only [Act.put, pq]
 refine tkE (i := 21) (d := 26) (v := ?_) rfl (Or.inl ⟨by rfl, ?_⟩) hS8 ?_
 rotate_left
 ·intro w hSw; (try dsimp only at hSw); have cX := fun j => cell_of_row _ _ j _ _ _ hSw.1; go_simp; try with_reducible rfl
 try simp only [Act.put, pq]
 refine wpAnyE_ready (rs := [19]) (by kernel_rfl) (by simp) ?_
 refine AllReadyE.cons rfl (fun K hK => ?_) AllReadyE.nil
 (try rw [if_pos (show Region.wanted _ _ = true from rfl)])
 go_simp
 refine (HS.out _ (hE1.trans e8)).mono ?_
 rintro e V9 ⟨rfl, hN⟩
 have e9 : Ext w1 V9 := e8.trans hN
 refine hK.out _ _ (HSS.out _ e9) (fun hS9 => ?_)
 clear hK K hN
 try simp only [Act.put, pq]
 refine wpAnyE_ready (rs := [22]) (by kernel_rfl) (by simp) ?_
 refine AllReadyE.cons rfl (fun K hK => ?_) AllReadyE.nil
 (try rw [if_pos (show Region.wanted _ _ = true from rfl)])
 go_simp
 refine (HX.out _ (hE1.trans e9)).mono ?_
 rintro e V10 ⟨rfl, hN⟩
 have e10 : Ext w1 V10 := e9.trans hN
 refine hK.out _ _ (HSS.out _ e10) (fun hS10 => ?_)
 clear hK K hN
 try simp only [Act.put, pq]
 refine tkE (i := 23) (d := 28) (v := ?_) rfl (Or.inl ⟨by rfl, ?_⟩) hS10 ?_
 rotate_left
 ·intro w hSw; (try dsimp only at hSw); go_simp; try with_reducible rfl
 try simp only [Act.put, pq]
 refine tkE (i := 24) (d := 29) (v := ?_) rfl (Or.inl ⟨by rfl, ?_⟩) hS10 ?_
 rotate_left
 ·intro w hSw; (try dsimp only at hSw); go_simp; try with_reducible rfl
 try simp only [Act.put, pq]
 refine tkE (i := 25) (d := 30) (v := ?_) rfl (Or.inl ⟨by rfl, ?_⟩) hS10 ?_
 rotate_left
 ·intro w hSw; (try dsimp only at hSw); go_simp; try with_reducible rfl
 try simp only [Act.put, pq]
 refine tkE (i := 26) (d := 31) (v := ?_) rfl (Or.inl ⟨by rfl, ?_⟩) hS10 ?_
 rotate_left
 ·intro w hSw; (try dsimp only at hSw); have cX := fun j => cell_of_row _ _ j _ _ _ hSw.1; go_simp; try with_reducible rfl
 try simp only [Act.put, pq]
 refine wpAnyE_ready (rs := [27]) (by kernel_rfl) (by simp) ?_
 refine AllReadyE.cons rfl (fun K hK => ?_) AllReadyE.nil
 (try rw [if_pos (show Region.wanted _ _ = true from rfl)])
 go_simp
 refine (HY.out _ (hE1.trans e10)).mono ?_
 rintro e V11 ⟨rfl, hN⟩
 have e11 : Ext w1 V11 := e10.trans hN
 refine hK.out _ _ (HSS.out _ e11) (fun hS11 => ?_)
 clear hK K hN
 try simp only [Act.put, pq]
 refine tkE (i := 28) (d := 33) (v := ?_) rfl (Or.inl ⟨by rfl, ?_⟩) hS11 ?_
 rotate_left
 ·intro w hSw; (try dsimp only at hSw); go_simp; try with_reducible rfl
 try simp only [Act.put, pq]
 refine tkE (i := 29) (d := 34) (v := ?_) rfl (Or.inl ⟨by rfl, ?_⟩) hS11 ?_
 rotate_left
 ·intro w hSw; (try dsimp only at hSw); go_simp; try with_reducible rfl
 try simp only [Act.put, pq]
 refine tkE (i := 30) (d := 35) (v := ?_) rfl (Or.inl ⟨by rfl, ?_⟩) hS11 ?_
 rotate_left
 ·intro w hSw; (try dsimp only at hSw); go_simp; try with_reducible rfl
 try simp only [Act.put, pq]
 refine tkE (i := 31) (d := 36) (v := ?_) rfl (Or.inl ⟨by rfl, ?_⟩) hS11 ?_
 rotate_left
 ·intro w hSw; (try dsimp only at hSw); go_simp; try with_reducible rfl
 try simp only [Act.put, pq]
 refine tkE (i := 32) (d := 37) (v := ?_) rfl (Or.inl ⟨by rfl, ?_⟩) hS11 ?_
 rotate_left
 ·intro w hSw; (try dsimp only at hSw); go_simp; try with_reducible rfl
 try simp only [Act.put, pq]
 refine wpAnyE_ready (rs := [33]) (by kernel_rfl) (by simp) ?_
 refine AllReadyE.cons rfl (fun K hK => ?_) AllReadyE.nil
 (try rw [if_pos (show Region.wanted _ _ = true from rfl)])
 go_simp
 refine (HWO.out _ (hE1.trans e11)).mono ?_
 rintro e V12 ⟨rfl, hN⟩
 have e12 : Ext w1 V12 := e11.trans hN
 refine hK.out _ _ (HSS.out _ e12) (fun hS12 => ?_)
 clear hK K hN
 try simp only [Act.put, pq]
 refine tkE (i := 34) (d := 39) (v := ?_) rfl (Or.inl ⟨by rfl, ?_⟩) hS12 ?_
 rotate_left
 ·intro w hSw; (try dsimp only at hSw); go_simp; try with_reducible rfl
 try simp only [Act.put, pq]
 refine tkE (i := 35) (d := 4) (v := ?_) rfl (Or.inl ⟨by rfl, ?_⟩) hS12 ?_
 rotate_left
 ·intro w hSw; (try dsimp only at hSw); go_simp; try with_reducible rfl
 try simp only [Act.put, pq]
 refine wpAnyE_done (by kernel_rfl) ?_ _
 have HEND := Lib.hid (hE1.trans e12)
 clear hE1 e4 e5 e6 e7 e8 e9 e10 e11 e12
 go_wp2
 go_ret
 exact ⟨rfl, HEND.out⟩
end Go.Proofs.YtedhogbocifipaaGreatDoor
