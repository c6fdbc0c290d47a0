/- ablautlaw08.LawTraces: the walk (printed by genltracesw.py). -/
import Derived.Test.YtedhogbocifipaaGreatDoorRowT
import Derived.Test.YtedhogbocifipaaGreatDoorRefTr
import Derived.Test.YtedhogbocifipaaGreatDoorGa12
set_option maxRecDepth 100000
set_option maxHeartbeats 16000000
namespace Go.Proofs.YtedhogbocifipaaGreatDoor
open Go.RowKit Go.Ab
attribute [local go_sem] Oper.semAt_some wide_fn wide_depth

theorem rtrace_one {w : World} {l : LawD} {cs : List Value} {vo : Option Addr} {vc : Nat} {ws : Wd} (hl : LawAt w l cs) (hv : WordAt w (.slice vo ws.length vc) ws) (hcap : ws.length ≤ vc) :
  Calls Tryz.prog 24 #[.agg cs.toArray, .slice vo ws.length vc] w fun e w' => ∃ uo uc xo xc, e = .returned (.tuple #[.slice uo (trT l ws).length uc, .slice xo (trT l ws).length xc, .int .i64 (trE l ws)]) ∧ TrOut w.heap.size w' (.slice uo (trT l ws).length uc) (.slice xo (trT l ws).length xc) (trT l ws) ∧ Ext w w' :=
 (rltrace_any hl hv hcap).mono fun _ _ ⟨u, v, h1, h2, h3⟩ => by
  obtain ⟨uo, uc, xo, xc, rfl, rfl, _⟩ := h2.slices
  exact ⟨uo, uc, xo, xc, h1, h2, h3⟩

theorem traces_law {w : World} {l : LawD} {cs : List Value} {vo : Option Addr} {vc : Nat} {ws : Wd} (hl : LawAt w l cs) (hv : WordAt w (.slice vo ws.length vc) ws) (hcap : ws.length ≤ vc) (hT : Tab w) :
  Calls Tryz.prog 5 #[.agg cs.toArray, .slice vo ws.length vc] w fun e w' => e = .returned (.bool true) ∧ Ext w w' := by
 have hp := fun (V : World) (hE : Ext w V) => trace_one (hl.ext hE) (hv.ext hE) hcap (hT.keep hE id)
 have hr := fun (V : World) (hE : Ext w V) => rtrace_one (hl.ext hE) (hv.ext hE) hcap
 have hwo := fun (V : World) (hE : Ext w V) => lworks_any V (hT.keep hE id)
 obtain ⟨wn, hwn⟩ : ∃ n, ws.length = n := ⟨_, rfl⟩
 simp only [hwn] at hp hr ⊢
 obtain ⟨nm, k1, p1, m1, n1, a1, b1, o1, N1, c1, k2, p2, m2, n2, a2, b2, o2, N2, c2, io, N3, ic, oo, N4, oc, md, rfl, HLA, HPL, HPR, HIF, HOU, HNM, HN1, HN2, HN3, HN4, HMD, q0, q1, q2, q3, q4⟩ := law_gen hl
 obtain ⟨E, hq⟩ : ∃ R, trE l ws = R := ⟨_, rfl⟩
 simp only [hq] at hp hr
 clear hq
 obtain ⟨T, hq⟩ : ∃ R, trT l ws = R := ⟨_, rfl⟩
 simp only [hq] at hp hr
 clear hq
 obtain ⟨N, hN⟩ : ∃ n, T.length = n := ⟨_, rfl⟩
 simp only [hN] at hp hr
 have HN := Lib.hid hN; have HP := Lib.hid hp; have HR := Lib.hid hr; have HWO := Lib.hid hwo
 clear hl hv hT hwn hp hr hwo hN
 go_enter Tryz.func5, Tryz.ntmps5
 go_upto_region 1 with (fail)
 obtain ⟨w1, hw1⟩ : ∃ D, w.alloc (.cells #[.string nm, .int .i64 k1, .int .u32 (p1 : Int), .int .u32 (m1 : Int), .bool n1, .int .i64 a1, .int .i64 b1, .slice o1 N1 c1, .int .i64 k2, .int .u32 (p2 : Int), .int .u32 (m2 : Int), .bool n2, .int .i64 a2, .int .i64 b2, .slice o2 N2 c2, .slice io N3 ic, .slice oo N4 oc, .int .i64 md] 31) = D := ⟨_, rfl⟩
 have hE1 : Ext w w1 := by rw [← hw1]; exact (Turn.refl _ w).alloc _
 have hl1 : w1.heap[w.heap.size]? = some (.cells #[.string nm, .int .i64 k1, .int .u32 (p1 : Int), .int .u32 (m1 : Int), .bool n1, .int .i64 a1, .int .i64 b1, .slice o1 N1 c1, .int .i64 k2, .int .u32 (p2 : Int), .int .u32 (m2 : Int), .bool n2, .int .i64 a2, .int .i64 b2, .slice o2 N2 c2, .slice io N3 ic, .slice oo N4 oc, .int .i64 md] 31 (0, 0)) := by rw [← hw1]; exact new_at rfl
 rw [hw1]
 obtain ⟨B, hB⟩ : ∃ b, w.heap.size = b := ⟨_, rfl⟩
 rw [hB] at hl1 ⊢
 have HL1 := Lib.hid hl1
 clear hw1 hl1 hB
 go_wp2_with (refine wpList_load_row rfl 31 (.tmp 2) rfl B rfl _ _ _ _ HL1.out Tryz.underlying31 rfl Tryz.lawInfo ?_)
 refine (HP.out _ hE1).mono ?_
 rintro e w2 ⟨xp, xq, xo, xc, rfl, hO, hN⟩
 have hN1 : Ext w1 w2 := hN
 have hE2 : Ext w w2 := hE1.trans hN
 have HL2 := Lib.hid (Ext.keep hN HL1.out)
 clear hN HP HL1
 have hmx := hO.len
 rw [HN.out] at hmx
 unfold maxLen at hmx
 have Hx : Hid (∀ D, Ext w2 D → TrOut w1.heap.size D (.slice xp N xq) (.slice xo N xc) T) := Lib.hid (fun D hD => hO.ext hD)
 clear hO
 go_wp2_with (refine wpList_load_row rfl 31 (.tmp 2) rfl B rfl _ _ _ _ HL2.out Tryz.underlying31 rfl Tryz.lawInfo ?_)
 refine (HR.out _ hE2).mono ?_
 rintro e w3 ⟨yp, yq, yo, yc, rfl, hO, hN⟩
 have hN2 : Ext w2 w3 := hN
 have hE3 : Ext w w3 := hE2.trans hN
 have HL3 := Lib.hid (Ext.keep hN HL2.out)
 clear hN HR HL2
 have Hy : Hid (∀ D, Ext w3 D → TrOut w2.heap.size D (.slice yp N yq) (.slice yo N yc) T) := Lib.hid (fun D hD => hO.ext hD)
 clear hO
 go_wp2_with fail
 refine (ints_same (TrOut.nats (Hx.out _ hN2)) (TrOut.nats (Hy.out _ (Turn.refl _ _)))).mono ?_
 rintro e w4 ⟨rfl, hN⟩
 have hN3 : Ext w3 w4 := hN
 have hE4 : Ext w w4 := hE3.trans hN
 clear hN
 have HX := Lib.hid (fun D hD => Hx.out D (hN2.trans (hN3.trans hD)))
 have HY := Lib.hid (fun D hD => Hy.out D (hN3.trans hD))
 have HE4 := Lib.hid hE4
 clear Hx Hy hN1 hN2 hN3 hE1 hE2 hE3 HL3
 go_wp2
 refine wp_loop (fun a W => ∃ (k : Nat), k ≤ N ∧ a.defers = [] ∧ (a.tmps.size = 59 ∧ a.tmps.getD 6 undef = .slice xo N xc ∧ a.tmps.getD 9 undef = .slice yo N yc ∧ a.tmps.getD 11 undef = .int .i64 k) ∧ Ext w4 W)
  (fun a _ => N - (intOf (a.tmps.getD 11 undef)).toNat) ?_ ?_
 ·exact ⟨0, by omega, rfl, ⟨rfl, rfl, rfl, rfl⟩, Turn.refl _ _⟩
 rintro ⟨t, _⟩ W ⟨k, hk, hds, ⟨hsz, f6, f9, f11⟩, hE⟩
 subst hds
 obtain ⟨u', hu⟩ := frame_fun hsz
 obtain ⟨u, rfl⟩ : ∃ x, x = u' := ⟨_, rfl⟩
 have hu' : t = #[u 0, u 1, u 2, u 3, u 4, u 5, u 6, u 7, u 8, u 9, u 10, u 11, u 12, u 13, u 14, u 15, u 16, u 17, u 18, u 19, u 20, u 21, u 22, u 23, u 24, u 25, u 26, u 27, u 28, u 29, u 30, u 31, u 32, u 33, u 34, u 35, u 36, u 37, u 38, u 39, u 40, u 41, u 42, u 43, u 44, u 45, u 46, u 47, u 48, u 49, u 50, u 51, u 52, u 53, u 54, u 55, u 56, u 57, u 58] := hu
 clear hu
 subst hu'
 change u 6 = _ at f6
 change u 9 = _ at f9
 change u 11 = _ at f11
 rw [f6, f9, f11]
 clear f6 f9 f11 hsz
 by_cases hkN : k < N
 ·have h1 : (k : Int) < (N : Int) := by omega
  obtain ⟨g, ao, c, n, us, hq1, hus, hn, d1, x1, _⟩ := (HX.out _ hE).word HN.out hkN
  obtain ⟨g2, bo, d, m, vs, hq2, hvs, hm, d2, x2, _⟩ := (HY.out _ hE).word HN.out hkN
  obtain rfl : vs = us := hvs.trans hus.symm
  obtain rfl : n = m := hn.symm.trans hm
  subst hq1 hq2
  clear hvs hus hm hn
  have HD1 : Hid (∀ D : World, Ext W D → D.cell? ⟨g, k, none⟩ = some (.slice ao n c) ∧ D.cell? ⟨g2, k, none⟩ = some (.slice bo n d)) := Lib.hid (fun D hD => ⟨hD.cell_some d1 id, hD.cell_some d2 id⟩)
  have HW1 : Hid (∀ D : World, Ext W D → WordAt D (.slice ao n c) vs ∧ WordAt D (.slice bo n d) vs) := Lib.hid (fun D hD => ⟨x1.ext hD, x2.ext hD⟩)
  clear x1 x2 d1 d2
  go_upto_region 8 with (fail)
  obtain ⟨V1, hV⟩ : ∃ D, W.drew = D := ⟨_, rfl⟩
  have e1 : Ext W V1 := by rw [← hV]; exact (Turn.refl _ W).drew
  refine wp_region_late (S := fun D => D.cell? ⟨g, k, none⟩ = some (.slice ao n c) ∧ D.cell? ⟨g2, k, none⟩ = some (.slice bo n d)) [] (by kernel_rfl) (by rw [hV]; exact HD1.out _ e1) ?_
  intro _
  have hS1 := HD1.out _ e1
  rw [hV]
  clear hV
  refine tkE (i := 0) (d := 48) (v := ?_) rfl (Or.inl ⟨by rfl, ?_⟩) hS1 ?_
  rotate_left
  ·intro w hSw; (try dsimp only at hSw); go_simp; try with_reducible rfl
  try simp only [Act.put, pq]
  refine tkE (i := 1) (d := 49) (v := ?_) rfl (Or.inl ⟨by rfl, ?_⟩) hS1 ?_
  rotate_left
  ·intro w hSw; (try dsimp only at hSw); go_simp; try with_reducible rfl
  try simp only [Act.put, pq]
  refine tkE (i := 2) (d := 50) (v := ?_) rfl (Or.inl ⟨by rfl, ?_⟩) hS1 ?_
  rotate_left
  ·intro w hSw; (try dsimp only at hSw); go_simp; try with_reducible rfl
  try simp only [Act.put, pq]
  refine tkE (i := 3) (d := 51) (v := ?_) rfl (Or.inl ⟨by rfl, ?_⟩) hS1 ?_
  rotate_left
  ·intro w hSw; (try dsimp only at hSw); go_simp; try with_reducible rfl
  try simp only [Act.put, pq]
  refine tkE (i := 4) (d := 52) (v := ?_) rfl (Or.inl ⟨by rfl, ?_⟩) hS1 ?_
  rotate_left
  ·intro w hSw; (try dsimp only at hSw); go_simp; try with_reducible rfl
  try simp only [Act.put, pq]
  refine tkE (i := 5) (d := 53) (v := ?_) rfl (Or.inl ⟨by rfl, ?_⟩) hS1 ?_
  rotate_left
  ·intro w hSw; (try dsimp only at hSw); go_simp; try with_reducible rfl
  try simp only [Act.put, pq]
  refine tkE (i := 6) (d := 54) (v := ?_) rfl (Or.inl ⟨by rfl, ?_⟩) hS1 ?_
  rotate_left
  ·intro w hSw; (try dsimp only at hSw); go_simp; try with_reducible rfl
  try simp only [Act.put, pq]
  refine tkE (i := 7) (d := 55) (v := ?_) rfl (Or.inl ⟨by rfl, ?_⟩) hS1 ?_
  rotate_left
  ·intro w hSw; (try dsimp only at hSw); go_simp; try with_reducible rfl
  try simp only [Act.put, pq]
  refine wpAnyE_ready (rs := [8]) (by kernel_rfl) (by simp) ?_
  refine AllReadyE.cons rfl (fun K hK => ?_) AllReadyE.nil
  (try rw [if_pos (show Region.wanted _ _ = true from rfl)])
  go_simp
  refine (same_self (HW1.out _ e1).1 (HW1.out _ e1).2).mono ?_
  rintro e V2 ⟨rfl, hN⟩
  have e2 : Ext W V2 := e1.trans hN
  refine hK.out _ _ (HD1.out _ e2) (fun hS2 => ?_)
  clear hK K hN
  try simp only [Act.put, pq]
  refine tkE (i := 9) (d := 57) (v := ?_) rfl (Or.inl ⟨by rfl, ?_⟩) hS2 ?_
  rotate_left
  ·intro w hSw; (try dsimp only at hSw); go_simp; try with_reducible rfl
  try simp only [Act.put, pq]
  refine wpAnyE_done (by kernel_rfl) ?_ _
  have HE2 := Lib.hid (hE.trans e2)
  clear e1 e2 hS1 hS2
  have hwr : IntKind.i64.wrap ((k : Int) + 1) = (k : Int) + 1 := IntWalk.i64_in _ (by omega)
  go_wp2
  exact ⟨⟨k + 1, by omega, by first | rfl | trivial, ⟨rfl, rfl, rfl, rfl⟩, HE2.out⟩, by simp [intOf]; omega⟩
 ·obtain rfl : k = N := by omega
  have h1 : ¬ (k : Int) < (k : Int) := by omega
  have hE5 : Ext w W := HE4.out.trans hE
  clear hE
  go_wp2_with fail
  refine (HWO.out _ hE5).mono ?_
  rintro e W2 ⟨rfl, hN⟩
  have HEND := Lib.hid (hE5.trans hN)
  clear hE5 hN
  go_wp2
  go_ret
  exact ⟨rfl, HEND.out⟩
end Go.Proofs.YtedhogbocifipaaGreatDoor
