/- ablautref08.put (printed by genrefput.py). append of elements that are read, also of none, as an operation of a region that draws its order. -/
import Derived.Test.YtedhogbocifipaaGreatDoorGa11
import Derived.Test.YtedhogbocifipaaGreatDoorGa31
import Derived.Test.YtedhogbocifipaaGreatDoorRefFeats5
import Derived.Test.YtedhogbocifipaaGreatDoorConcat
import Derived.Test.YtedhogbocifipaaGreatDoorGa06
set_option maxRecDepth 100000
set_option maxHeartbeats 16000000
namespace Go.Proofs.YtedhogbocifipaaGreatDoor
open Go.RowKit Go.Ab
attribute [local go_sem] Oper.semAt_some wide_fn wide_depth

theorem rlput_any {w : World} {cs : List Value} {l : LawD} {v : Value} {cut : Wd} (hl : LawAt w l cs) (hv : WordAt w v cut) (hok : ∀ x ∈ l.outs, fitB cut.length x = true) (hsm : l.outs.length ≤ 1000) :
  Calls Tryz.prog 97 #[.agg cs.toArray, v] w fun e w' => ∃ u, e = .returned u ∧ w'.ownsRow w.heap.size 24 2 u l.outs.length (sndL (putL l cut)) ∧ Ext w w' := by
 obtain ⟨vo, vc, rfl, hvm⟩ := hv.slice
 obtain ⟨nm, k1, p1, m1, n1, a1, b1, o1, N1, c1, k2, p2, m2, n2, a2, b2, o2, N2, c2, io, N3, ic, oo, N4, oc, md, rfl, HLA, HPL, HPR, HIF, HOU, HNM, HN1, HN2, HN3, HN4, HMD, q0, q1, q2, q3, q4⟩ := law_gen hl
 obtain ⟨vn, hvn⟩ : ∃ n, cut.length = n := ⟨_, rfl⟩
 rw [hvn] at hv hvm hok
 rw [HN4.out] at hsm
 unfold maxLen at hvm
 have HV := Lib.hid hv; have HVN := Lib.hid hvn; have HOK := Lib.hid hok
 rw [hvn]
 clear hl hv hvn hok
 have HPL := putL_length l cut
 rw [HN4.out] at HPL
 have HPUT := Lib.hid HPL
 clear HPL
 rw [HN4.out]
 go_enter Tryz.func97, Tryz.ntmps97
 go_upto_region 1 with (fail)
 obtain ⟨w1, hw1⟩ : ∃ D, w.alloc (.cells #[.string nm, .int .i64 k1, .int .u32 (p1 : Int), .int .u32 (m1 : Int), .bool n1, .int .i64 a1, .int .i64 b1, .slice o1 N1 c1, .int .i64 k2, .int .u32 (p2 : Int), .int .u32 (m2 : Int), .bool n2, .int .i64 a2, .int .i64 b2, .slice o2 N2 c2, .slice io N3 ic, .slice oo N4 oc, .int .i64 md] 31) = D := ⟨_, rfl⟩
 have hE1 : Ext w w1 := by rw [← hw1]; exact (Turn.refl _ w).alloc _
 have hl1 : w1.heap[w.heap.size]? = some (.cells #[.string nm, .int .i64 k1, .int .u32 (p1 : Int), .int .u32 (m1 : Int), .bool n1, .int .i64 a1, .int .i64 b1, .slice o1 N1 c1, .int .i64 k2, .int .u32 (p2 : Int), .int .u32 (m2 : Int), .bool n2, .int .i64 a2, .int .i64 b2, .slice o2 N2 c2, .slice io N3 ic, .slice oo N4 oc, .int .i64 md] 31 (0, 0)) := by rw [← hw1]; exact new_at rfl
 have hs1 : w.heap.size ≤ w1.heap.size := hE1.size
 rw [hw1]
 obtain ⟨B, hB⟩ : ∃ b, w.heap.size = b := ⟨_, rfl⟩
 rw [hB] at hl1 hs1 ⊢
 have HL1 := Lib.hid hl1; have HEW := Lib.hid hE1
 have hv1 := HV.out.ext hE1
 have ho1 := HOU.out.ext hE1
 have HV := Lib.hid hv1; have HOU := Lib.hid ho1
 clear hw1 hl1 hB hv1 ho1 HIF HLA HPL HPR
 go_wp2
 refine wp_loop (fun a W => ∃ (j : Nat) (ro : Option Addr) (rc : Nat), j ≤ N4 ∧ a.defers = [] ∧ (a.tmps.size = 59 ∧ a.tmps.getD 1 undef = .slice vo vn vc ∧ a.tmps.getD 2 undef = .pointer (some ⟨B, 0, none⟩) ∧ a.tmps.getD 5 undef = .slice ro j rc ∧ a.tmps.getD 6 undef = .int .i64 j) ∧ W.ownsRow w1.heap.size 24 2 (.slice ro j rc) j (sndL (putK l cut j)) ∧ Ext w1 W)
  (fun a _ => N4 - (intOf (a.tmps.getD 6 undef)).toNat) ?_ ?_
 ·exact ⟨0, none, 0, by omega, rfl, ⟨rfl, rfl, rfl, rfl, rfl⟩, World.ownsRow_nil _ _ _ _, Turn.refl _ _⟩
 clear hE1
 rintro ⟨t, _⟩ V ⟨j, ro, rc, hj, hds, ⟨hsz, f1, f2, f5, f6⟩, hO, hE⟩
 subst hds
 obtain ⟨u', hu⟩ := frame_fun hsz
 obtain ⟨u, rfl⟩ : ∃ x, x = u' := ⟨_, rfl⟩
 have hu' : t = #[u 0, u 1, u 2, u 3, u 4, u 5, u 6, u 7, u 8, u 9, u 10, u 11, u 12, u 13, u 14, u 15, u 16, u 17, u 18, u 19, u 20, u 21, u 22, u 23, u 24, u 25, u 26, u 27, u 28, u 29, u 30, u 31, u 32, u 33, u 34, u 35, u 36, u 37, u 38, u 39, u 40, u 41, u 42, u 43, u 44, u 45, u 46, u 47, u 48, u 49, u 50, u 51, u 52, u 53, u 54, u 55, u 56, u 57, u 58] := hu
 clear hu
 subst hu'
 change u 1 = _ at f1
 change u 2 = _ at f2
 change u 5 = _ at f5
 change u 6 = _ at f6
 rw [f1, f2, f5, f6]
 clear f1 f2 f5 f6 hsz
 have cL16 := cell_of_row _ _ 16 _ _ _ (hE.keep HL1.out)
 by_cases hjN : j < N4
 case neg =>
  obtain rfl : j = N4 := by omega
  have h1 : ¬ ((j : Int) < (j : Int)) := by omega
  rw [putK_all l cut HN4.out] at hO
  have HO := Lib.hid hO
  clear hO
  go_wp2
  go_ret
  exact ⟨_, rfl, own_base HO.out HEW.out.size, HEW.out.trans hE⟩
 have h1 : (j : Int) < (N4 : Int) := by omega
 have hjl : j < l.outs.length := by rw [HN4.out]; exact hjN
 obtain ⟨gx, ox, cx, hq, hgx, hok6, d0, d1, d2, d3, d4, d5⟩ := (HOU.out.ext hE).at hjl
 simp only [Value.slice.injEq] at hq
 obtain ⟨rfl, hz, rfl⟩ := hq
 clear hz
 obtain ⟨x, hxj⟩ : ∃ x, l.outs[j] = x := ⟨_, rfl⟩
 have HXJ : Hid (l.outs[j]? = some x) := Lib.hid (by rw [List.getElem?_eq_getElem hjl, hxj])
 have hfit := fit_parts (HOK.out _ (List.getElem_mem hjl))
 rw [hxj] at d0 d1 d2 d3 d4 d5 hok6 hfit
 have hos : outS cut x = if x.tk = 0 then (chgV (if 0 ≤ x.frm then cut.getD x.frm.toNat (0, 0) else (0, 0)) x.cl x.st).1 else (takV (chgV (if 0 ≤ x.frm then cut.getD x.frm.toNat (0, 0) else (0, 0)) x.cl x.st).1 (cut.getD x.ofi.toNat (0, 0)) x.tk).1 := rfl
 have HJ := Lib.hid hjl
 clear hxj hjl
 obtain ⟨fr, hfr⟩ : ∃ y, x.frm = y := ⟨_, rfl⟩
 obtain ⟨cl, hcl⟩ : ∃ y, x.cl = y := ⟨_, rfl⟩
 obtain ⟨⟨sa, sb⟩, hst⟩ : ∃ y, x.st = y := ⟨_, rfl⟩
 obtain ⟨tk, htk⟩ : ∃ y, x.tk = y := ⟨_, rfl⟩
 obtain ⟨ofi, hofi⟩ : ∃ y, x.ofi = y := ⟨_, rfl⟩
 unfold OutOk at hok6
 rw [hfr] at d0 hfit hos
 rw [hcl] at d1 hok6 hos
 rw [hst] at d2 d3 hok6 hos
 rw [htk] at d4 hok6 hfit hos
 rw [hofi] at d5 hfit hos
 dsimp only at d2 d3
 clear hfr hcl hst htk hofi
 have HOS0 := Lib.hid hos
 obtain ⟨hk1, hk2, hk3⟩ := hok6
 obtain ⟨hfr1, hof1⟩ := hfit
 have HOF := Lib.hid hof1
 clear hos hof1
 obtain ⟨V1, hV1⟩ : ∃ D, (V.alloc (.cells #[.int .i64 fr, .int .u32 (cl : Int), .int .u32 (sa : Int), .int .u32 (sb : Int), .int .u32 (tk : Int), .int .i64 ofi] 62)).alloc (.cells #[.int .u32 0, .int .u32 0] 24) = D := ⟨_, rfl⟩
 have hEV1 : Ext V V1 := by rw [← hV1]; exact ((Turn.refl _ V).alloc _).alloc _
 have hx1 : V1.heap[V.heap.size]? = some (.cells #[.int .i64 fr, .int .u32 (cl : Int), .int .u32 (sa : Int), .int .u32 (sb : Int), .int .u32 (tk : Int), .int .i64 ofi] 62 (0, 0)) := by rw [← hV1]; exact new_keep (new_at rfl)
 have hs1 : V1.heap[V.heap.size + 1]? = some (.cells #[.int .u32 0, .int .u32 0] 24 (0, 0)) := by rw [← hV1]; exact new_at (by simp)
 have HV1 := Lib.hid hV1
 clear hV1
 by_cases hf0 : 0 ≤ fr
 case pos =>
  obtain ⟨i, rfl⟩ := Int.eq_ofNat_of_zero_le hf0
  have hi2 : i < vn := by omega
  obtain ⟨gv, ov, cv, hq, hgv, e1, e2⟩ := (HV.out.ext hE).at (i := i) (by rw [HVN.out]; exact hi2)
  simp only [Value.slice.injEq] at hq
  obtain ⟨rfl, hz, rfl⟩ := hq
  clear hz
  obtain ⟨⟨ta, tb⟩, hts⟩ : ∃ y, cut.getD i (0, 0) = y := ⟨_, rfl⟩
  have hlt := HV.out.2.get i (by rw [HVN.out]; exact hi2)
  rw [hts] at e1 e2 hlt
  dsimp only at e1 e2
  have HOS1 : Hid (outS cut x = if tk = 0 then (chgV (ta, tb) cl (sa, sb)).1 else (takV (chgV (ta, tb) cl (sa, sb)).1 (cut.getD ofi.toNat (0, 0)) tk).1) := Lib.hid (by rw [HOS0.out, if_pos hf0]; simp only [Int.toNat_natCast, hts])
  clear hts HOS0
  go_upto_region 7 with (fail)
  rw [HV1.out]
  clear cL16

  obtain ⟨X, hX⟩ : ∃ b, V.heap.size = b := ⟨_, rfl⟩
  obtain ⟨S, hS⟩ : ∃ b, V.heap.size + 1 = b := ⟨_, rfl⟩
  have HXV := Lib.hid hX; have HSV := Lib.hid hS
  rw [hX] at hx1
  rw [hS] at hs1
  rw [hS, hX]
  clear hX hS HV1 d0 d1 d2 d3 d4 d5
  have cX := fun j => cell_of_row _ _ j _ _ _ hx1
  have cV1 := hEV1.cell_some e1 id
  have cV2 := hEV1.cell_some e2 id
  have HX1 := Lib.hid hx1; have HS1 := Lib.hid hs1
  clear hx1 hs1 e1 e2
  go_upto_region 9 with (refine wpList_store_row rfl 24 (.tmp 8) (.tmp 29) rfl S #[.int .u32 (ta : Int), .int .u32 (tb : Int)] rfl rfl _ _ HS1.out (by kernel_rfl) rfl (by kernel_rfl) ?_)
  have hT2 := Turn.setRow V1 S #[.int .u32 (ta : Int), .int .u32 (tb : Int)]
  have hs2 := setRow_heap _ _ _ #[.int .u32 (ta : Int), .int .u32 (tb : Int)] _ _ HS1.out
  have hx2 := hT2.heap HX1.out (by have := HXV.out; have := HSV.out; omega)
  have hEV2 : Ext V (V1.setRow S #[.int .u32 (ta : Int), .int .u32 (tb : Int)]) := Turn.after hEV1 hT2 (fun b hb e => by have := HSV.out; omega)
  obtain ⟨V2, hV2⟩ : ∃ D, V1.setRow S #[.int .u32 (ta : Int), .int .u32 (tb : Int)] = D := ⟨_, rfl⟩
  rw [hV2] at hs2 hx2 hEV2 ⊢
  clear hV2 hT2 cX cV1 cV2 HX1 HS1
  have hlt0 : lt32 (ta, tb) := hlt
  have hch := fun (D : World) => rchange_any hlt0 hk2 hk1 D
  have hul := chg_lt (m := cl) hlt0 hk2
  obtain ⟨⟨⟨ua, ub⟩, ue⟩, hue⟩ : ∃ y, chgV (ta, tb) cl (sa, sb) = y := ⟨_, rfl⟩
  rw [hue] at hch HOS1 hul
  dsimp only at hch HOS1 hul
  have HCH := Lib.hid hch
  clear hch hue
  have cX := fun j => cell_of_row _ _ j _ _ _ hx2
  have cS := fun j => cell_of_row _ _ j _ _ _ hs2
  go_wp2_with fail
  refine (HCH.out _).mono ?_
  rintro e V3 ⟨rfl, hN⟩
  have hE3 := hEV2.trans hN
  have hx3 := hN.keep hx2
  have hs3 := hN.keep hs2
  have HS3 := Lib.hid hs3
  clear cX cS hx2 hs2 hEV2 hN HCH
  go_upto_region 10 with (refine wpList_store_row rfl 24 (.tmp 8) (.tmp 37) rfl S #[.int .u32 (ua : Int), .int .u32 (ub : Int)] rfl rfl _ _ HS3.out (by kernel_rfl) rfl (by kernel_rfl) ?_)
  have hT4 := Turn.setRow V3 S #[.int .u32 (ua : Int), .int .u32 (ub : Int)]
  have hs4 := setRow_heap _ _ _ #[.int .u32 (ua : Int), .int .u32 (ub : Int)] _ _ HS3.out
  have hx4 := hT4.heap hx3 (by have := HXV.out; have := HSV.out; omega)
  have hE4 : Ext V (V3.setRow S #[.int .u32 (ua : Int), .int .u32 (ub : Int)]) := Turn.after hE3 hT4 (fun b hb e => by have := HSV.out; omega)
  obtain ⟨w4, hw4⟩ : ∃ D, V3.setRow S #[.int .u32 (ua : Int), .int .u32 (ub : Int)] = D := ⟨_, rfl⟩
  rw [hw4] at hs4 hx4 hE4 ⊢
  clear hw4 hT4 hx3 hs3 HS3 hE3
  have cX := fun j => cell_of_row _ _ j _ _ _ hx4
  by_cases htk : tk = 0
  case pos =>
   subst htk
   go_upto_region 12 with (fail)
   clear cX hx4
   have hfin : outS cut x = (ua, ub) := by rw [HOS1.out]; simp
   have HFIN := Lib.hid hfin
   clear hfin
   have hOx := own_ext hO hE4
   have hbz : w1.heap.size ≤ w4.heap.size := Nat.le_trans hE.size hE4.size
   have cS := fun j => cell_of_row _ _ j _ _ _ hs4
   go_wp2_with (at_builtin; refine append_row rfl (.tmp 54) (.tmp 56) 28 rfl w1.heap.size 24 _ 2 8 Tryz.underlying28 @infoS rfl (by decide) _ _ _ rfl (own_ext hOx ((Turn.refl _ _).alloc _)) ⟨w4.heap.size, 0, none⟩ 1 1 [.int .u32 (ua : Int), .int .u32 (ub : Int)] rfl rfl (new_cells' rfl) (one_snd2 _ _) ?c3 ?c4 ?c5 ?_)
   case c3 => unfold maxLen; omega
   case c4 => omega
   case c5 => first | omega | (simp; omega) | exact Nat.le_trans hbz (Turn.alloc (Turn.refl (fun _ => False) _) _).size
   intro ao' c' w7 hO7 hT7 hB7
   have hE7 : Ext w1 w7 := Turn.after (hE.trans (Turn.trans hE4 ((Turn.refl _ _).alloc _))) hT7 (fun b hb e => by have := (hO.lt _ e).1; omega)
   have HO7 := Lib.hid hO7; have HE7 := Lib.hid hE7
   clear hO7 hE7 hT7 hB7 cS hOx
   go_wp2
   exact ⟨⟨j + 1, ao', c', by omega, by first | rfl | trivial, ⟨rfl, rfl, rfl, rfl, rfl⟩, by rw [putK_succ HJ.out HXJ.out, HFIN.out, sndL_append]; exact HO7.out, HE7.out⟩, by simp [intOf]; omega⟩
  obtain ⟨ho0, ho1⟩ := HOF.out htk
  have htk2 : ((tk : Int) != 0) = true := by rw [bne_iff_ne]; omega
  obtain ⟨oo', rfl⟩ := Int.eq_ofNat_of_zero_le ho0
  have ho2 : oo' < vn := by omega
  obtain ⟨gw, ow, cw, hq, hgw, e1, e2⟩ := (HV.out.ext hE).at (i := oo') (by rw [HVN.out]; exact ho2)
  simp only [Value.slice.injEq, Option.some.injEq, Addr.mk.injEq] at hq
  obtain ⟨⟨rfl, rfl, _⟩, hz, rfl⟩ := hq
  clear hz
  obtain ⟨⟨qa, qb⟩, hqs⟩ : ∃ y, cut.getD oo' (0, 0) = y := ⟨_, rfl⟩
  have hqlt := HV.out.2.get oo' (by rw [HVN.out]; exact ho2)
  rw [hqs] at e1 e2 hqlt
  have hqlt2 : lt32 (qa, qb) := hqlt
  dsimp only at e1 e2
  have htak := fun (D : World) => rtake_any hul hqlt2 hk3 D
  obtain ⟨⟨⟨ra, rb⟩, re⟩, hre⟩ : ∃ y, takV (ua, ub) (qa, qb) tk = y := ⟨_, rfl⟩
  rw [hre] at htak
  dsimp only at htak
  have HTK := Lib.hid htak
  have HOS2 : Hid (outS cut x = (ra, rb)) := Lib.hid (by rw [HOS1.out, if_neg htk, show ((oo' : Int)).toNat = oo' from rfl, hqs, hre])
  clear htak hre hqs hqlt hqlt2
  have hcs : ∀ (D : World), Turn (· = S) w4 D → D.cell? ⟨X, 4, none⟩ = some (.int .u32 (tk : Int)) ∧ D.cell? ⟨X, 5, none⟩ = some (.int .i64 oo') ∧ D.cell? ⟨gv, ov + oo' * 2, none⟩ = some (.int .u32 (qa : Int)) ∧ D.cell? ⟨gv, ov + oo' * 2 + 1, none⟩ = some (.int .u32 (qb : Int)) := by
   intro D hD
   have h0 := hD.heap hx4 (by have := HXV.out; have := HSV.out; omega)
   have h1 : Ext V D := Turn.after hE4 hD (fun b hb e => by have := HSV.out; omega)
   exact ⟨cell_of_row _ _ 4 _ _ _ h0, cell_of_row _ _ 5 _ _ _ h0, h1.cell_some e1 id, h1.cell_some e2 id⟩
  have HS := Lib.hid hcs
  have HS4 := Lib.hid hs4
  clear hcs
  go_upto_region 11 with (fail)
  clear cX hx4 hs4 e1 e2
  refine wp_region_held_drew (S := fun D => D.cell? ⟨X, 4, none⟩ = some (.int .u32 (tk : Int)) ∧ D.cell? ⟨X, 5, none⟩ = some (.int .i64 oo') ∧ D.cell? ⟨gv, ov + oo' * 2, none⟩ = some (.int .u32 (qa : Int)) ∧ D.cell? ⟨gv, ov + oo' * 2 + 1, none⟩ = some (.int .u32 (qb : Int))) (by kernel_rfl) (HS.out _ (Turn.drew (Turn.refl _ w4))) ?_
  intro hS0
  refine tkH (i := 1) (d := 44) (v := ?_) rfl (Or.inl ⟨by rfl, ?_⟩) hS0 ?_
  rotate_left
  ·intro w hSw; (try dsimp only at hSw); go_simp; try with_reducible rfl
  try simp only [Act.put, pq]
  refine tkH (i := 2) (d := 45) (v := ?_) rfl (Or.inl ⟨by rfl, ?_⟩) hS0 ?_
  rotate_left
  ·intro w hSw; (try dsimp only at hSw); go_simp; try with_reducible rfl
  try simp only [Act.put, pq]
  refine tkH (i := 3) (d := 46) (v := ?_) rfl (Or.inl ⟨by rfl, ?_⟩) hS0 ?_
  rotate_left
  ·intro w hSw; (try dsimp only at hSw); go_simp; try with_reducible rfl
  try simp only [Act.put, pq]
  refine tkH (i := 4) (d := 47) (v := ?_) rfl (Or.inl ⟨by rfl, ?_⟩) hS0 ?_
  rotate_left
  ·intro w hSw; (try dsimp only at hSw); go_simp; try with_reducible rfl
  try simp only [Act.put, pq]
  refine tkH (i := 5) (d := 48) (v := ?_) rfl (Or.inl ⟨by rfl, ?_⟩) hS0 ?_
  rotate_left
  ·intro w hSw; (try dsimp only at hSw); go_simp; try with_reducible rfl
  try simp only [Act.put, pq]
  refine tkH (i := 6) (d := 49) (v := ?_) rfl (Or.inl ⟨by rfl, ?_⟩) hS0 ?_
  rotate_left
  ·intro w hSw; (try dsimp only at hSw); go_simp; try with_reducible rfl
  try simp only [Act.put, pq]
  refine tkH (i := 7) (d := 50) (v := ?_) rfl (Or.inl ⟨by rfl, ?_⟩) hS0 ?_
  rotate_left
  ·intro w hSw; (try dsimp only at hSw); go_simp; try with_reducible rfl
  try simp only [Act.put, pq]
  refine wpAnyH_ready (rs := [0]) (by kernel_rfl) (by simp) ?_
  refine AllReadyH.cons rfl (fun K hK => ?_) AllReadyH.nil
  (try rw [if_pos (show Region.wanted _ _ = true from rfl)])
  have cS := fun j => cell_of_row _ _ j _ _ _ HS4.out
  go_simp
  refine hK.out _ _ hS0 (fun _ => ?_)
  clear hK K cS
  try simp only [Act.put, pq]
  refine wpAnyH_ready (rs := [8]) (by kernel_rfl) (by simp) ?_
  refine AllReadyH.cons rfl (fun K hK => ?_) AllReadyH.nil
  (try rw [if_pos (show Region.wanted _ _ = true from rfl)])
  go_simp
  refine (HTK.out _).mono ?_
  rintro e w5 ⟨rfl, hN⟩
  have hw5 : Ext w4 w5 := Turn.trans (Turn.drew (Turn.refl _ w4)) hN
  have z5 := hw5.keep HS4.out
  refine hK.out _ _ (HS.out _ (Ext.of hw5)) (fun hS1 => ?_)
  clear hK K hN
  refine tkH (i := 9) (d := 42) (v := ?_) rfl (Or.inl ⟨by rfl, ?_⟩) hS1 ?_
  rotate_left
  ·intro w hSw; (try dsimp only at hSw); go_simp; try with_reducible rfl
  try simp only [Act.put, pq]
  refine tkH (i := 10) (d := 52) (v := ?_) rfl (Or.inl ⟨by rfl, ?_⟩) hS1 ?_
  rotate_left
  ·intro w hSw; (try dsimp only at hSw); go_simp; try with_reducible rfl
  try simp only [Act.put, pq]
  refine tkH (i := 11) (d := 53) (v := ?_) rfl (Or.inl ⟨by rfl, ?_⟩) hS1 ?_
  rotate_left
  ·intro w hSw; (try dsimp only at hSw); go_simp; try with_reducible rfl
  try simp only [Act.put, pq]
  refine wpAnyH_ready (rs := [12]) (by kernel_rfl) (by simp) ?_
  refine AllReadyH.cons rfl (fun K hK => ?_) AllReadyH.nil
  (try rw [if_pos (show Region.wanted _ _ = true from rfl)])
  refine wp_store_row 24 (.tmp 8) (.tmp 52) rfl S #[.int .u32 (ra : Int), .int .u32 (rb : Int)] rfl rfl _ _ z5 (by kernel_rfl) rfl (by kernel_rfl) ?_
  have hT9 := Turn.setRow w5 S #[.int .u32 (ra : Int), .int .u32 (rb : Int)]
  have z6 := setRow_heap _ _ _ #[.int .u32 (ra : Int), .int .u32 (rb : Int)] _ _ z5
  refine hK.out _ _ (HS.out _ ((Ext.of hw5).trans hT9)) (fun hS3 => ?_)
  clear hK K
  change wpAnyH _ _ _ _ _ _ _ (Act.put _ none _) _
  simp only [Act.put]
  refine wpAnyH_done (by kernel_rfl) ?_ _
  have hE6 : Ext V (w5.setRow S #[.int .u32 (ra : Int), .int .u32 (rb : Int)]) := Turn.after (Turn.trans hE4 hw5) hT9 (fun b hb e => by have := HSV.out; omega)
  obtain ⟨w6, hw6⟩ : ∃ D, w5.setRow S #[.int .u32 (ra : Int), .int .u32 (rb : Int)] = D := ⟨_, rfl⟩
  rw [hw6] at z6 hE6 ⊢
  clear hw6 hT9 hS0 hS1 hS3 HS z5 hw5 HOS1
  have HOS1 := HOS2
  go_upto_region 12 with (fail)
  have hfin : outS cut x = (ra, rb) := by rw [HOS1.out]; skip
  have HFIN := Lib.hid hfin
  clear hfin
  have hOx := own_ext hO hE6
  have hbz : w1.heap.size ≤ w6.heap.size := Nat.le_trans hE.size hE6.size
  have cS := fun j => cell_of_row _ _ j _ _ _ z6
  go_wp2_with (at_builtin; refine append_row rfl (.tmp 54) (.tmp 56) 28 rfl w1.heap.size 24 _ 2 8 Tryz.underlying28 @infoS rfl (by decide) _ _ _ rfl (own_ext hOx ((Turn.refl _ _).alloc _)) ⟨w6.heap.size, 0, none⟩ 1 1 [.int .u32 (ra : Int), .int .u32 (rb : Int)] rfl rfl (new_cells' rfl) (one_snd2 _ _) ?c3 ?c4 ?c5 ?_)
  case c3 => unfold maxLen; omega
  case c4 => omega
  case c5 => first | omega | (simp; omega) | exact Nat.le_trans hbz (Turn.alloc (Turn.refl (fun _ => False) _) _).size
  intro ao' c' w7 hO7 hT7 hB7
  have hE7 : Ext w1 w7 := Turn.after (hE.trans (Turn.trans hE6 ((Turn.refl _ _).alloc _))) hT7 (fun b hb e => by have := (hO.lt _ e).1; omega)
  have HO7 := Lib.hid hO7; have HE7 := Lib.hid hE7
  clear hO7 hE7 hT7 hB7 cS hOx
  go_wp2
  exact ⟨⟨j + 1, ao', c', by omega, by first | rfl | trivial, ⟨rfl, rfl, rfl, rfl, rfl⟩, by rw [putK_succ HJ.out HXJ.out, HFIN.out, sndL_append]; exact HO7.out, HE7.out⟩, by simp [intOf]; omega⟩

 case neg =>
  have hf1 : ¬ (0 : Int) ≤ fr := hf0
  have hlt : (0 : Nat) < 4294967296 ∧ (0 : Nat) < 4294967296 := ⟨by decide, by decide⟩
  obtain ⟨ta, hta⟩ : ∃ y : Nat, y = 0 := ⟨_, rfl⟩
  obtain ⟨tb, htb⟩ : ∃ y : Nat, y = 0 := ⟨_, rfl⟩
  have hz0 : (.int .u32 0 : Value) = .int .u32 (ta : Int) := by rw [hta]; rfl
  have hz1 : (.int .u32 0 : Value) = .int .u32 (tb : Int) := by rw [htb]; rfl
  have hlt : ta < 4294967296 ∧ tb < 4294967296 := by rw [hta, htb]; exact hlt
  have HOS1 : Hid (outS cut x = if tk = 0 then (chgV (ta, tb) cl (sa, sb)).1 else (takV (chgV (ta, tb) cl (sa, sb)).1 (cut.getD ofi.toNat (0, 0)) tk).1) := Lib.hid (by rw [HOS0.out, if_neg hf0, hta, htb])
  have hs1 : V1.heap[V.heap.size + 1]? = some (.cells #[.int .u32 (ta : Int), .int .u32 (tb : Int)] 24 (0, 0)) := by rw [hta, htb]; exact hs1
  clear HOS0 hz0 hz1 hta htb
  go_upto_region 7 with (fail)
  rw [HV1.out]
  clear cL16
  obtain ⟨X, hX⟩ : ∃ b, V.heap.size = b := ⟨_, rfl⟩
  obtain ⟨S, hS⟩ : ∃ b, V.heap.size + 1 = b := ⟨_, rfl⟩
  have HXV := Lib.hid hX; have HSV := Lib.hid hS
  rw [hX] at hx1
  rw [hS] at hs1
  rw [hS, hX]
  clear hX hS HV1 d0 d1 d2 d3 d4 d5
  have cX := fun j => cell_of_row _ _ j _ _ _ hx1
  go_upto_region 9 with (fail)
  clear cX
  obtain ⟨V2, rfl⟩ : ∃ D, D = V1 := ⟨_, rfl⟩
  have hs2 := hs1
  have hx2 := hx1
  have hEV2 := hEV1
  clear hs1 hx1 hEV1
  have hlt0 : lt32 (ta, tb) := hlt
  have hch := fun (D : World) => rchange_any hlt0 hk2 hk1 D
  have hul := chg_lt (m := cl) hlt0 hk2
  obtain ⟨⟨⟨ua, ub⟩, ue⟩, hue⟩ : ∃ y, chgV (ta, tb) cl (sa, sb) = y := ⟨_, rfl⟩
  rw [hue] at hch HOS1 hul
  dsimp only at hch HOS1 hul
  have HCH := Lib.hid hch
  clear hch hue
  have cX := fun j => cell_of_row _ _ j _ _ _ hx2
  have cS := fun j => cell_of_row _ _ j _ _ _ hs2
  go_wp2_with fail
  refine (HCH.out _).mono ?_
  rintro e V3 ⟨rfl, hN⟩
  have hE3 := hEV2.trans hN
  have hx3 := hN.keep hx2
  have hs3 := hN.keep hs2
  have HS3 := Lib.hid hs3
  clear cX cS hx2 hs2 hEV2 hN HCH
  go_upto_region 10 with (refine wpList_store_row rfl 24 (.tmp 8) (.tmp 37) rfl S #[.int .u32 (ua : Int), .int .u32 (ub : Int)] rfl rfl _ _ HS3.out (by kernel_rfl) rfl (by kernel_rfl) ?_)
  have hT4 := Turn.setRow V3 S #[.int .u32 (ua : Int), .int .u32 (ub : Int)]
  have hs4 := setRow_heap _ _ _ #[.int .u32 (ua : Int), .int .u32 (ub : Int)] _ _ HS3.out
  have hx4 := hT4.heap hx3 (by have := HXV.out; have := HSV.out; omega)
  have hE4 : Ext V (V3.setRow S #[.int .u32 (ua : Int), .int .u32 (ub : Int)]) := Turn.after hE3 hT4 (fun b hb e => by have := HSV.out; omega)
  obtain ⟨w4, hw4⟩ : ∃ D, V3.setRow S #[.int .u32 (ua : Int), .int .u32 (ub : Int)] = D := ⟨_, rfl⟩
  rw [hw4] at hs4 hx4 hE4 ⊢
  clear hw4 hT4 hx3 hs3 HS3 hE3
  have cX := fun j => cell_of_row _ _ j _ _ _ hx4
  by_cases htk : tk = 0
  case pos =>
   subst htk
   go_upto_region 12 with (fail)
   clear cX hx4
   have hfin : outS cut x = (ua, ub) := by rw [HOS1.out]; simp
   have HFIN := Lib.hid hfin
   clear hfin
   have hOx := own_ext hO hE4
   have hbz : w1.heap.size ≤ w4.heap.size := Nat.le_trans hE.size hE4.size
   have cS := fun j => cell_of_row _ _ j _ _ _ hs4
   go_wp2_with (at_builtin; refine append_row rfl (.tmp 54) (.tmp 56) 28 rfl w1.heap.size 24 _ 2 8 Tryz.underlying28 @infoS rfl (by decide) _ _ _ rfl (own_ext hOx ((Turn.refl _ _).alloc _)) ⟨w4.heap.size, 0, none⟩ 1 1 [.int .u32 (ua : Int), .int .u32 (ub : Int)] rfl rfl (new_cells' rfl) (one_snd2 _ _) ?c3 ?c4 ?c5 ?_)
   case c3 => unfold maxLen; omega
   case c4 => omega
   case c5 => first | omega | (simp; omega) | exact Nat.le_trans hbz (Turn.alloc (Turn.refl (fun _ => False) _) _).size
   intro ao' c' w7 hO7 hT7 hB7
   have hE7 : Ext w1 w7 := Turn.after (hE.trans (Turn.trans hE4 ((Turn.refl _ _).alloc _))) hT7 (fun b hb e => by have := (hO.lt _ e).1; omega)
   have HO7 := Lib.hid hO7; have HE7 := Lib.hid hE7
   clear hO7 hE7 hT7 hB7 cS hOx
   go_wp2
   exact ⟨⟨j + 1, ao', c', by omega, by first | rfl | trivial, ⟨rfl, rfl, rfl, rfl, rfl⟩, by rw [putK_succ HJ.out HXJ.out, HFIN.out, sndL_append]; exact HO7.out, HE7.out⟩, by simp [intOf]; omega⟩
  obtain ⟨ho0, ho1⟩ := HOF.out htk
  have htk2 : ((tk : Int) != 0) = true := by rw [bne_iff_ne]; omega
  obtain ⟨oo', rfl⟩ := Int.eq_ofNat_of_zero_le ho0
  have ho2 : oo' < vn := by omega
  obtain ⟨gw, ow, cw, hq, hgw, e1, e2⟩ := (HV.out.ext hE).at (i := oo') (by rw [HVN.out]; exact ho2)
  simp only [Value.slice.injEq] at hq
  obtain ⟨rfl, hz, rfl⟩ := hq
  clear hz
  obtain ⟨⟨qa, qb⟩, hqs⟩ : ∃ y, cut.getD oo' (0, 0) = y := ⟨_, rfl⟩
  have hqlt := HV.out.2.get oo' (by rw [HVN.out]; exact ho2)
  rw [hqs] at e1 e2 hqlt
  have hqlt2 : lt32 (qa, qb) := hqlt
  dsimp only at e1 e2
  have htak := fun (D : World) => rtake_any hul hqlt2 hk3 D
  obtain ⟨⟨⟨ra, rb⟩, re⟩, hre⟩ : ∃ y, takV (ua, ub) (qa, qb) tk = y := ⟨_, rfl⟩
  rw [hre] at htak
  dsimp only at htak
  have HTK := Lib.hid htak
  have HOS2 : Hid (outS cut x = (ra, rb)) := Lib.hid (by rw [HOS1.out, if_neg htk, show ((oo' : Int)).toNat = oo' from rfl, hqs, hre])
  clear htak hre hqs hqlt hqlt2
  have hcs : ∀ (D : World), Turn (· = S) w4 D → D.cell? ⟨X, 4, none⟩ = some (.int .u32 (tk : Int)) ∧ D.cell? ⟨X, 5, none⟩ = some (.int .i64 oo') ∧ D.cell? ⟨gw, ow + oo' * 2, none⟩ = some (.int .u32 (qa : Int)) ∧ D.cell? ⟨gw, ow + oo' * 2 + 1, none⟩ = some (.int .u32 (qb : Int)) := by
   intro D hD
   have h0 := hD.heap hx4 (by have := HXV.out; have := HSV.out; omega)
   have h1 : Ext V D := Turn.after hE4 hD (fun b hb e => by have := HSV.out; omega)
   exact ⟨cell_of_row _ _ 4 _ _ _ h0, cell_of_row _ _ 5 _ _ _ h0, h1.cell_some e1 id, h1.cell_some e2 id⟩
  have HS := Lib.hid hcs
  have HS4 := Lib.hid hs4
  clear hcs
  go_upto_region 11 with (fail)
  clear cX hx4 hs4 e1 e2
  refine wp_region_held_drew (S := fun D => D.cell? ⟨X, 4, none⟩ = some (.int .u32 (tk : Int)) ∧ D.cell? ⟨X, 5, none⟩ = some (.int .i64 oo') ∧ D.cell? ⟨gw, ow + oo' * 2, none⟩ = some (.int .u32 (qa : Int)) ∧ D.cell? ⟨gw, ow + oo' * 2 + 1, none⟩ = some (.int .u32 (qb : Int))) (by kernel_rfl) (HS.out _ (Turn.drew (Turn.refl _ w4))) ?_
  intro hS0
  refine tkH (i := 1) (d := 44) (v := ?_) rfl (Or.inl ⟨by rfl, ?_⟩) hS0 ?_
  rotate_left
  ·intro w hSw; (try dsimp only at hSw); go_simp; try with_reducible rfl
  try simp only [Act.put, pq]
  refine tkH (i := 2) (d := 45) (v := ?_) rfl (Or.inl ⟨by rfl, ?_⟩) hS0 ?_
  rotate_left
  ·intro w hSw; (try dsimp only at hSw); go_simp; try with_reducible rfl
  try simp only [Act.put, pq]
  refine tkH (i := 3) (d := 46) (v := ?_) rfl (Or.inl ⟨by rfl, ?_⟩) hS0 ?_
  rotate_left
  ·intro w hSw; (try dsimp only at hSw); go_simp; try with_reducible rfl
  try simp only [Act.put, pq]
  refine tkH (i := 4) (d := 47) (v := ?_) rfl (Or.inl ⟨by rfl, ?_⟩) hS0 ?_
  rotate_left
  ·intro w hSw; (try dsimp only at hSw); go_simp; try with_reducible rfl
  try simp only [Act.put, pq]
  refine tkH (i := 5) (d := 48) (v := ?_) rfl (Or.inl ⟨by rfl, ?_⟩) hS0 ?_
  rotate_left
  ·intro w hSw; (try dsimp only at hSw); go_simp; try with_reducible rfl
  try simp only [Act.put, pq]
  refine tkH (i := 6) (d := 49) (v := ?_) rfl (Or.inl ⟨by rfl, ?_⟩) hS0 ?_
  rotate_left
  ·intro w hSw; (try dsimp only at hSw); go_simp; try with_reducible rfl
  try simp only [Act.put, pq]
  refine tkH (i := 7) (d := 50) (v := ?_) rfl (Or.inl ⟨by rfl, ?_⟩) hS0 ?_
  rotate_left
  ·intro w hSw; (try dsimp only at hSw); go_simp; try with_reducible rfl
  try simp only [Act.put, pq]
  refine wpAnyH_ready (rs := [0]) (by kernel_rfl) (by simp) ?_
  refine AllReadyH.cons rfl (fun K hK => ?_) AllReadyH.nil
  (try rw [if_pos (show Region.wanted _ _ = true from rfl)])
  have cS := fun j => cell_of_row _ _ j _ _ _ HS4.out
  go_simp
  refine hK.out _ _ hS0 (fun _ => ?_)
  clear hK K cS
  try simp only [Act.put, pq]
  refine wpAnyH_ready (rs := [8]) (by kernel_rfl) (by simp) ?_
  refine AllReadyH.cons rfl (fun K hK => ?_) AllReadyH.nil
  (try rw [if_pos (show Region.wanted _ _ = true from rfl)])
  go_simp
  refine (HTK.out _).mono ?_
  rintro e w5 ⟨rfl, hN⟩
  have hw5 : Ext w4 w5 := Turn.trans (Turn.drew (Turn.refl _ w4)) hN
  have z5 := hw5.keep HS4.out
  refine hK.out _ _ (HS.out _ (Ext.of hw5)) (fun hS1 => ?_)
  clear hK K hN
  refine tkH (i := 9) (d := 42) (v := ?_) rfl (Or.inl ⟨by rfl, ?_⟩) hS1 ?_
  rotate_left
  ·intro w hSw; (try dsimp only at hSw); go_simp; try with_reducible rfl
  try simp only [Act.put, pq]
  refine tkH (i := 10) (d := 52) (v := ?_) rfl (Or.inl ⟨by rfl, ?_⟩) hS1 ?_
  rotate_left
  ·intro w hSw; (try dsimp only at hSw); go_simp; try with_reducible rfl
  try simp only [Act.put, pq]
  refine tkH (i := 11) (d := 53) (v := ?_) rfl (Or.inl ⟨by rfl, ?_⟩) hS1 ?_
  rotate_left
  ·intro w hSw; (try dsimp only at hSw); go_simp; try with_reducible rfl
  try simp only [Act.put, pq]
  refine wpAnyH_ready (rs := [12]) (by kernel_rfl) (by simp) ?_
  refine AllReadyH.cons rfl (fun K hK => ?_) AllReadyH.nil
  (try rw [if_pos (show Region.wanted _ _ = true from rfl)])
  refine wp_store_row 24 (.tmp 8) (.tmp 52) rfl S #[.int .u32 (ra : Int), .int .u32 (rb : Int)] rfl rfl _ _ z5 (by kernel_rfl) rfl (by kernel_rfl) ?_
  have hT9 := Turn.setRow w5 S #[.int .u32 (ra : Int), .int .u32 (rb : Int)]
  have z6 := setRow_heap _ _ _ #[.int .u32 (ra : Int), .int .u32 (rb : Int)] _ _ z5
  refine hK.out _ _ (HS.out _ ((Ext.of hw5).trans hT9)) (fun hS3 => ?_)
  clear hK K
  change wpAnyH _ _ _ _ _ _ _ (Act.put _ none _) _
  simp only [Act.put]
  refine wpAnyH_done (by kernel_rfl) ?_ _
  have hE6 : Ext V (w5.setRow S #[.int .u32 (ra : Int), .int .u32 (rb : Int)]) := Turn.after (Turn.trans hE4 hw5) hT9 (fun b hb e => by have := HSV.out; omega)
  obtain ⟨w6, hw6⟩ : ∃ D, w5.setRow S #[.int .u32 (ra : Int), .int .u32 (rb : Int)] = D := ⟨_, rfl⟩
  rw [hw6] at z6 hE6 ⊢
  clear hw6 hT9 hS0 hS1 hS3 HS z5 hw5 HOS1
  have HOS1 := HOS2
  go_upto_region 12 with (fail)
  have hfin : outS cut x = (ra, rb) := by rw [HOS1.out]; skip
  have HFIN := Lib.hid hfin
  clear hfin
  have hOx := own_ext hO hE6
  have hbz : w1.heap.size ≤ w6.heap.size := Nat.le_trans hE.size hE6.size
  have cS := fun j => cell_of_row _ _ j _ _ _ z6
  go_wp2_with (at_builtin; refine append_row rfl (.tmp 54) (.tmp 56) 28 rfl w1.heap.size 24 _ 2 8 Tryz.underlying28 @infoS rfl (by decide) _ _ _ rfl (own_ext hOx ((Turn.refl _ _).alloc _)) ⟨w6.heap.size, 0, none⟩ 1 1 [.int .u32 (ra : Int), .int .u32 (rb : Int)] rfl rfl (new_cells' rfl) (one_snd2 _ _) ?c3 ?c4 ?c5 ?_)
  case c3 => unfold maxLen; omega
  case c4 => omega
  case c5 => first | omega | (simp; omega) | exact Nat.le_trans hbz (Turn.alloc (Turn.refl (fun _ => False) _) _).size
  intro ao' c' w7 hO7 hT7 hB7
  have hE7 : Ext w1 w7 := Turn.after (hE.trans (Turn.trans hE6 ((Turn.refl _ _).alloc _))) hT7 (fun b hb e => by have := (hO.lt _ e).1; omega)
  have HO7 := Lib.hid hO7; have HE7 := Lib.hid hE7
  clear hO7 hE7 hT7 hB7 cS hOx
  go_wp2
  exact ⟨⟨j + 1, ao', c', by omega, by first | rfl | trivial, ⟨rfl, rfl, rfl, rfl, rfl⟩, by rw [putK_succ HJ.out HXJ.out, HFIN.out, sndL_append]; exact HO7.out, HE7.out⟩, by simp [intOf]; omega⟩
end Go.Proofs.YtedhogbocifipaaGreatDoor

namespace Go.Proofs.YtedhogbocifipaaGreatDoor
open Go.RowKit Go.Ab

theorem append_rdO {P : Program} {w : World} {o : Oper} {a : Act} {K : Act → World → Prop} {Q : Exit → Act → World → Prop} (s x : Operand) (t : TypeId)
  (ho : o.op = .call { callee := .builtin .append, args := #[s, x], argTypes := #[t, t] })
  (base : Nat) (e : TypeId) (z : Value) (size bytes : Nat) (ht : P.underlying t = some (.slice e)) (hinfo : (P.info? e).map (fun i => (i.zero, i.size, i.bytes)) = some (some z, size, bytes))
  (hzs : z.cells.size = size) (hsz : 0 < size)
  (v : Value) (n : Nat) (xs : List Value) (hs : a.eval s = v) (hown : w.ownsRow base e size v n xs)
  (A : Option Addr) (m c : Nat) (news : List Value) (hx : a.eval x = .slice A m c) (hr : Rd w (.slice A m c) m size news) (h1 : ∀ u ∈ news, u.oneCell' = true)
  (h63 : n + m ≤ maxLen) (hbytes : (n + m) * bytes ≤ 140737488355328) (hbase : base ≤ w.heap.size)
  (h : ∀ ao c' w', w'.ownsRow base e size (.slice ao (n + m) c') (n + m) (xs ++ news) → Turn (fun b => v.ownBlock = some b) w w' → ((Value.slice ao (n + m) c').ownBlock = v.ownBlock ∨ (Value.slice ao (n + m) c').ownBlock = some w.heap.size) → K (a.put o.dst (.slice ao (n + m) c')) w') : Oper.wp P o a w K Q := by
 obtain ⟨r1, _, ao, cap, hv, r3⟩ := hr
 simp only [Value.slice.injEq, true_and] at hv
 obtain ⟨rfl, rfl⟩ := hv
 rcases A with _ | ad
 ·have hm : m = 0 := by
   apply Nat.le_antisymm _ (Nat.zero_le _)
   apply Nat.le_of_not_lt; intro h0
   obtain ⟨_, _, q, _⟩ := r3 h0
   cases q
  subst hm
  obtain rfl : news = [] := List.eq_nil_of_length_eq_zero (by simpa using r1)
  obtain ⟨i, hi, hz, hs1, hb1⟩ := info_parts hinfo
  have hrun : (Builtin.append_ #[t, t] o.type #[v, .slice none 0 c]).run P w = .ok v w := by
   rcases hown.2 with ⟨rfl, rfl⟩ | ⟨g, cap, cur, rfl, _, _, hnc, _⟩
   ·simp [Builtin.append_, run_underlying ht, sizeOf, typeInfo, hi, Builtin.lenOf, Builtin.firstCells]
   ·simp [Builtin.append_, run_underlying ht, sizeOf, typeInfo, hi, Builtin.lenOf, Builtin.firstCells, hnc, storeCells]
  unfold Oper.wp execOp
  simp only [ho, resolve, invoke, builtin, Sem.run_bind, Sem.run_pure, Result.andThen_ok, List.map_toArray, List.map_cons, List.map_nil, hs, hx, hrun]
  obtain ⟨ao, c', rfl⟩ := own_slice hown
  exact h ao c' w (by simpa using hown) (Turn.refl _ _) (.inl rfl)
 ·refine append_oper s x t ho base e z size bytes ht hinfo hzs hsz v n xs hs hown ad m c news hx r1 (fun j u hj => ?_) h1 h63 hbytes hbase h
  have hj2 : j < m * size := by rw [← r1]; exact (List.getElem?_eq_some_iff.1 hj).1
  have hm : 0 < m := by
   apply Nat.pos_of_ne_zero; rintro rfl; omega
  obtain ⟨g, off, q, _, hc⟩ := r3 hm
  cases q
  rw [add_at, hc j hj2, List.getD_eq_getElem?_getD, hj]
  rfl
theorem word_rd {W : World} {ao : Option Addr} {n c k : Nat} {u : Wd} (h : WordAt W (.slice ao n c) u) (hk : u.length = k) : n = k ∧ Rd W (.slice ao k c) k 2 (sndL u) := by
 obtain ⟨a, b, q, _⟩ := h.slice
 cases q
 subst hk
 exact ⟨rfl, h.1⟩
end Go.Proofs.YtedhogbocifipaaGreatDoor
