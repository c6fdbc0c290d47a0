/- law.run: its iterator in ModeRight (printed by genrun.py). law.run: its iterator in ModeLeft (printed by genrun.py). -/
import Derived.Test.YtamkkhlabfahmaaGreatDoorGa12
set_option maxRecDepth 100000
set_option maxHeartbeats 16000000
namespace Go.Proofs.YtamkkhlabfahmaaGreatDoor
open Go.RowKit Go.Ab
attribute [local go_sem] Oper.semAt_some wide_fn wide_depth

theorem run_right {w : World} {BW BL Bk Bm : Nat} {l : LawD} {cs : List Value} {vo : Option Addr} {vc : Nat} {ws : Wd} {K : Nat → Prop} (hlaw : lawB l = true) (hmode : l.mode = 2) (hwl : ws.length ≤ 32) (hcap : ws.length ≤ vc) (hkv : KeptIn K (.slice vo ws.length vc))
  (hKw : ∀ b, K b → b < w.heap.size) (hst : ∀ W, Turn (fun b => ¬ K b) w W → RunSt W BW BL Bk Bm l cs vo vc ws) :
  IterO Tryz.prog 130 #[.pointer (some ⟨BW, 0, none⟩), .pointer (some ⟨BL, 0, none⟩), .pointer (some ⟨Bk, 0, none⟩), .pointer (some ⟨Bm, 0, none⟩)] (RunM 2) (RunE 2) (traceL l ws) K w := by
 intro lp J Jx W ht hJ hJx hY h0
 obtain ⟨hk4, hm6, hkm, _, hfits, _, _, _⟩ := lawB_parts hlaw
 have h0st := hst W ht
 have hmo := h0st.law.box.mode
 rw [hmode] at hmo
 obtain ⟨wn, hwn⟩ : ∃ n, ws.length = n := ⟨_, rfl⟩
 have cW := cell_of_one h0st.box
 rw [hwn] at cW hwl hcap hkv
 have HKV := Lib.hid hkv
 have HWN := Lib.hid hwn; have HST := Lib.hid hst; have HFT := Lib.hid hfits; have HMO := Lib.hid hmode; have HJ := Lib.hid hJ; have HY := Lib.hid hY; have HJ0 := Lib.hid h0; have HT0 := Lib.hid ht
 have H0ST := Lib.hid h0st
 obtain ⟨kn, hkn⟩ : ∃ n, l.ifs.length = n := ⟨_, rfl⟩
 obtain ⟨mn, hmn⟩ : ∃ n, l.outs.length = n := ⟨_, rfl⟩
 rw [hkn] at hk4 hkm
 rw [hmn] at hm6 hkm
 have HKN := Lib.hid hkn; have HMN := Lib.hid hmn
 clear hst hfits hmode hJ hJx hY h0 ht h0st hlaw hwn hkv hkn hmn
 show Calls _ _ #[.func (.yield lp) #[] #[], .pointer (some ⟨BW, 0, none⟩), .pointer (some ⟨BL, 0, none⟩), .pointer (some ⟨Bk, 0, none⟩), .pointer (some ⟨Bm, 0, none⟩)] _ _
 go_enter Tryz.func130, Tryz.ntmps130
 have hL0 := H0ST.out.law.box.mode
 rw [HMO.out] at hL0
 go_upto_region 1 with (fail)
 obtain ⟨w1, hw1⟩ : ∃ D, W.alloc (.cells #[.func (.yield lp) #[] #[]] 167) = D := ⟨_, rfl⟩
 have hE1 : Ext W w1 := by rw [← hw1]; exact (Turn.refl _ W).alloc _
 have hY1 : w1.heap[W.heap.size]? = some (.cells #[.func (.yield lp) #[] #[]] 167 (0, 0)) := by rw [← hw1]; exact new_at rfl
 have hs1 : w1.heap.size = W.heap.size + 1 := by rw [← hw1]; simp
 rw [hw1]
 obtain ⟨Y0, hY0⟩ : ∃ b, W.heap.size = b := ⟨_, rfl⟩
 rw [hY0] at hY1 hs1 ⊢
 have hj := HJ.out; have hyy := HY.out
 rw [hY0] at hj hyy
 have HJW := HJ
 have HJ := Lib.hid hj; have HY := Lib.hid hyy
 clear hj hyy
 have HKY : Hid (∀ b, K b → b < Y0) := Lib.hid fun b hb => by have := hKw b hb; have := HT0.out.size; omega
 have HY0 := Lib.hid hY0; have HS1 := Lib.hid hs1
 clear hKw
 have cW := hE1.cell_some cW id
 clear hw1 hY0 hs1 hmo
 go_upto_region 2 with (fail)
 rw [HS1.out]
 obtain ⟨w2, hw2⟩ : ∃ D, w1.alloc (.cells #[.slice vo wn vc] 32) = D := ⟨_, rfl⟩
 have hE2 : Ext w1 w2 := by rw [← hw2]; exact (Turn.refl _ w1).alloc _
 have hN2 : SlBox w2 (Y0 + 1) (.slice vo wn vc) := by rw [← hw2]; exact new_at HS1.out.symm
 have hs2 : w2.heap.size = Y0 + 2 := by rw [← hw2]; simp [HS1.out]
 have hY2 := hE2.keep hY1
 rw [hw2]
 have hE12 := hE1.trans hE2
 have hmd := hE12.cell_some hL0 id
 have HS2 := Lib.hid hs2
 clear hw2 cW hY1 hE1 hE2 hL0 hs2
 have hJ2 := HJ.out _ (fun b => b = Y0 ∨ b = Y0 + 1) [] _ _ HJ0.out (Ext.of hE12) (fun b hb => by have := HY0.out; have := HS2.out; omega)
 have HJ2 := Lib.hid hJ2
 have hT2 : Turn (fun b => ¬ K b) w w2 := HT0.out.trans (Ext.of hE12)
 clear hJ2
 go_wp2
 have HT2 := Lib.hid hT2; have HY2 := Lib.hid hY2; have HN2 := Lib.hid hN2
 clear hT2 hY2 hN2 hmd
 refine wp_loop (fun a V => ∃ (O : Nat → Prop) (tr : List (Nat × Wd)) (u : Wd) (i : Nat) (uo : Option Addr) (uc : Nat), a.defers = [] ∧ (a.tmps.size = 117 ∧ a.tmps.getD 0 undef = .func (.yield lp) #[] #[] ∧ a.tmps.getD 1 undef = .pointer (some ⟨BW, 0, none⟩) ∧ a.tmps.getD 2 undef = .pointer (some ⟨BL, 0, none⟩) ∧ a.tmps.getD 3 undef = .pointer (some ⟨Bk, 0, none⟩) ∧ a.tmps.getD 4 undef = .pointer (some ⟨Bm, 0, none⟩) ∧ a.tmps.getD 5 undef = .pointer (some ⟨Y0, 0, none⟩) ∧ a.tmps.getD 6 undef = .pointer (some ⟨Y0 + 1, 0, none⟩) ∧ a.tmps.getD 10 undef = .int .i64 i) ∧ RightAt l ws tr u i ∧ RunNow w V K O J Y0 lp tr u uo uc)
  (fun a V => boxLen V (Y0 + 1) + 1 - (intOf (a.tmps.getD 10 undef)).toNat) ?_ ?_
 ·refine ⟨(fun b => b = Y0 ∨ b = Y0 + 1), [], ws, 0, vo, vc, rfl, ⟨rfl, rfl, rfl, rfl, rfl, rfl, rfl, rfl, rfl⟩, .start HMO.out, ⟨HJ2.out, .inl rfl, .inr rfl, fun b hb => by have := HS2.out; omega, HT2.out, HY2.out, ?_, ?_, ?_, ?_⟩⟩
  ·rw [HWN.out]; exact HN2.out
  ·exact H0ST.out.word.ext hE12
  ·rw [HWN.out]; exact hcap
  ·rw [HWN.out]; exact fun g o n c e h0' => .inl (HKV.out g o n c e h0')
 clear HJ2 HJ0 HT2 HY2 HN2 H0ST hE12 HT0 HY0 HS1 HS2 hcap HKV
 rintro ⟨t, _⟩ V ⟨O, tr, u', i, uo, uc, hds, ⟨hsz, f0, f1, f2, f3, f4, f5, f6, f10⟩, hR, hN⟩
 obtain ⟨uw, rfl⟩ : ∃ x, x = u' := ⟨_, rfl⟩
 subst hds
 obtain ⟨u', hu⟩ := frame_fun hsz
 obtain ⟨u, rfl⟩ : ∃ x, x = u' := ⟨_, rfl⟩
 have hu' : t = #[u 0, u 1, u 2, u 3, u 4, u 5, u 6, u 7, u 8, u 9, u 10, u 11, u 12, u 13, u 14, u 15, u 16, u 17, u 18, u 19, u 20, u 21, u 22, u 23, u 24, u 25, u 26, u 27, u 28, u 29, u 30, u 31, u 32, u 33, u 34, u 35, u 36, u 37, u 38, u 39, u 40, u 41, u 42, u 43, u 44, u 45, u 46, u 47, u 48, u 49, u 50, u 51, u 52, u 53, u 54, u 55, u 56, u 57, u 58, u 59, u 60, u 61, u 62, u 63, u 64, u 65, u 66, u 67, u 68, u 69, u 70, u 71, u 72, u 73, u 74, u 75, u 76, u 77, u 78, u 79, u 80, u 81, u 82, u 83, u 84, u 85, u 86, u 87, u 88, u 89, u 90, u 91, u 92, u 93, u 94, u 95, u 96, u 97, u 98, u 99, u 100, u 101, u 102, u 103, u 104, u 105, u 106, u 107, u 108, u 109, u 110, u 111, u 112, u 113, u 114, u 115, u 116] := hu
 clear hu
 subst hu'
 change u 0 = _ at f0
 change u 1 = _ at f1
 change u 2 = _ at f2
 change u 3 = _ at f3
 change u 4 = _ at f4
 change u 5 = _ at f5
 change u 6 = _ at f6
 change u 10 = _ at f10
 rw [f0, f1, f2, f3, f4, f5, f6, f10]
 clear f0 f1 f2 f3 f4 f5 f6 f10 hsz
 have hst := HST.out V hN.t
 obtain ⟨un, hun⟩ : ∃ n, uw.length = n := ⟨_, rfl⟩
 have hbl := boxLen_eq hN.n
 have cN := cell_of_one hN.n
 have cY := cell_of_one hN.y
 have ck := cell_of_one hst.bk
 have cm := cell_of_one hst.bm
 rw [HKN.out] at ck
 rw [HMN.out] at cm
 rw [hun] at cN hbl
 have hfew := few (t := tr.length) (n := ws.length + 1) (m := mn) (by have := hR.2.1; omega) hm6 (by rw [HWN.out]; omega)
 have hul : un ≤ 230 := by
  have h1 := hR.2.2.1
  rw [HMN.out, hun, HWN.out] at h1
  omega
 have hil := hR.2.2.2
 rw [hun] at hil
 have HUN := Lib.hid hun; have HBL := Lib.hid hbl; have HR := Lib.hid hR; have HN := Lib.hid hN; have HS := Lib.hid hst
 clear hun hbl hR hN hst hfew
 by_cases hle : i + kn ≤ un
 case neg =>
  have h1 : ¬ ((i : Int) + (kn : Int) ≤ (un : Int)) := by omega
  have hd := HR.out.done (by rw [HUN.out, HKN.out]; omega)
  have HD := Lib.hid hd
  clear hd cm cY
  go_wp2
  go_end0
  exact ⟨⟨_, rfl⟩, O, .inl (by rw [HD.out]; exact HN.out.j)⟩
 have h1 : (i : Int) + (kn : Int) ≤ (un : Int) := by omega
 go_upto_region 14 with (fail)
 obtain ⟨hL1, hL2⟩ := HS.out.law
 obtain ⟨nm, k1, p1, m1, n1, a1, b1, o1, N1, c1, k2, p2, m2, n2, a2, b2, o2, N2, c2, io, N3, ic, oo, N4, oc, md, rfl, HLA, HPL, HPR, HIF, HOU, HNM, HN1, HN2, HN3, HN4, HMD, q0, q1, q2, q3, q4⟩ := law_gen hL2
 have hwd := HN.out.wd
 have hhit := hit_any hL2 hwd HS.out.tab i (by rw [HUN.out]; exact hil) (by rw [HUN.out, HKN.out]; omega)
 rw [HUN.out] at hhit hwd
 obtain ⟨hb, hhb⟩ : ∃ b, hitL l uw i = b := ⟨_, rfl⟩
 rw [hhb] at hhit
 have HH := Lib.hid hhit; have HHB := Lib.hid hhb; have HL1 := Lib.hid hL1; have HWD := Lib.hid hwd; have HL2 := Lib.hid hL2
 clear hhit hhb hL1 hL2 hwd ck cm cY
 go_wp2_with (first | (refine wpList_load_row rfl 34 (.tmp 2) rfl BL rfl _ _ _ _ HL1.out Tryz.underlying34 rfl Tryz.lawInfo ?_) | fail)
 refine HH.out.mono ?_
 rintro e V1 ⟨rfl, hE1⟩
 have hN1 := HN.out.ext hE1 HJ.out
 have hS1 := HST.out V1 hN1.t
 cases hb
 case false =>
  have hR1 := HR.out.miss (by rw [HUN.out, HKN.out]; exact hle) HHB.out
  have HR1 := Lib.hid hR1; have HN1 := Lib.hid hN1
  have hbl := boxLen_eq hN1.n
  rw [HUN.out] at hbl
  have HB1 := Lib.hid hbl
  clear hR1 hN1 hS1 HH hE1 cN hbl
  go_wp2
  refine ⟨⟨O, tr, uw, i + 1, uo, uc, by first | rfl | trivial, ⟨rfl, rfl, rfl, rfl, rfl, rfl, rfl, rfl, rfl⟩, HR1.out, HN1.out⟩, ?_⟩
  rw [HBL.out, HB1.out]; simp [intOf]; omega
 have cN := cell_of_one hN1.n
 rw [HUN.out] at cN
 have hw1 := hN1.wd
 rw [HUN.out] at hw1
 have hrep := replace_any hS1.law.2 hw1 HUN.out (by have := hN1.cap; rw [HUN.out] at this; exact this) i (by rw [HKN.out]; exact hle) HFT.out (by rw [HMN.out]; omega) (by omega)
 have hL1 := hS1.law.1
 have hwok : WdOk (replL l uw i) := by
  have h1 := hw1.2
  intro s hs
  unfold replL repl at hs
  rcases List.mem_append.1 hs with hs | hs
  ·rcases List.mem_append.1 hs with hs | hs
   ·exact h1 s (List.mem_of_mem_take hs)
   ·exact putL_ok (fun x hx => h1 x (List.mem_of_mem_drop (List.mem_of_mem_take hx))) HOU.out.2 s hs
  ·exact h1 s (List.mem_of_mem_drop hs)
 have HREP := Lib.hid hrep; have HL1' := Lib.hid hL1; have HN1 := Lib.hid hN1; have HWOK := Lib.hid hwok
 obtain ⟨hR2, rest, hspl⟩ := HR.out.hit HHB.out
 have HR2 := Lib.hid hR2; have HSPL := Lib.hid hspl
 clear hrep hL1 hN1 hS1 hw1 hwok hR2 hspl HH hE1
 go_upto_region 17 with (first | (refine wpList_load_row rfl 34 (.tmp 2) rfl BL rfl _ _ _ _ HL1'.out Tryz.underlying34 rfl Tryz.lawInfo ?_) | (go_at_call 64; refine HREP.out.mono ?_; rintro e V2 ⟨ru, rfl, hO2, hE2⟩; obtain ⟨ro, rc, rfl⟩ := own_slice hO2; have cN2 := cell_of_one (hE2.keep HN1.out.n); have fN2 := free_of_one (hE2.keep HN1.out.n)))
 obtain ⟨O2, hP, _, hP3⟩ := (HN1.out).put2 HKY.out hO2 hE2 HWOK.out (Nat.le_refl 2) HJ.out
 have hv2 := (HN1.out.lt _ HN1.out.on).2
 obtain ⟨V3, hV3⟩ : ∃ D, V2.setCell ⟨Y0 + 1, 0, none⟩ (.slice ro (replL l uw i).length rc) = D := ⟨_, rfl⟩
 rw [hV3] at hP hP3 ⊢
 clear hV3 hO2 hE2 cN cN2 fN2 HREP HL1' HL1 HN1 HWOK HL2 HWD HN HS
 obtain ⟨r, hr⟩ : ∃ r, replL l uw i = r := ⟨_, rfl⟩
 rw [hr] at hP hP3 HR2 HSPL
 have hlr := replL_length (l := l) (u := uw) (i := i) (by rw [HUN.out, HKN.out]; exact hle)
 rw [hr, HUN.out, HKN.out, HMN.out] at hlr
 rw [hr]
 obtain ⟨rn, hrn⟩ : ∃ n, r.length = n := ⟨_, rfl⟩
 rw [hrn] at hlr
 have cN := cell_of_one hP.n
 rw [hrn] at cN
 have cY := cell_of_one hP.y
 obtain ⟨fn, tmps, assign, body, hy, hYR⟩ := HY.out O2 tr (i, r) rest V3 #[.int .i64 (i : Int), .slice ro rn rc] HSPL.out hP.j ⟨ro, rc, by rw [hrn], hP.wd, hP.cap, fun g o n c e h0' => by obtain ⟨q1, q2, q3⟩ := hP3 g o n c e h0'; exact ⟨q1, by omega, q3⟩⟩
 clear hP3 hv2
 have HP := Lib.hid hP; have HYR := Lib.hid hYR; have HRN := Lib.hid hrn
 clear hP hYR hrn hr HHB
 rw [HRN.out]
 refine (wpIn_wide (n := 0)).1 ?_
 gi_wp2
 refine HYR.out.mono ?_
 rintro e W3 (⟨rfl, hJ3, hk3⟩ | ⟨rfl, hJx3, _⟩)
 ·have hN3 := HP.out.yielded hJ3 hk3
  have hS3 := HST.out W3 hN3.t
  have ck := cell_of_one hS3.bk
  have cm := cell_of_one hS3.bm
  rw [HKN.out] at ck
  rw [HMN.out] at cm
  have hbl := boxLen_eq hN3.n
  rw [HRN.out] at hbl
  have HN3 := Lib.hid hN3; have HB3 := Lib.hid hbl
  clear hN3 hS3 hbl hy cN cY hJ3 hk3
  have hr3 := HR2.out
  rw [HKN.out, HMN.out] at hr3
  have HR3 := Lib.hid hr3
  clear hr3
  by_cases hk0 : kn = 0
  ·subst hk0
   gi_wp2
   go_wp2
   refine ⟨⟨O2, tr ++ [(i, r)], r, i + mn + 1, ro, rc, by first | rfl | trivial, ⟨rfl, rfl, rfl, rfl, rfl, rfl, rfl, rfl, rfl⟩, HR3.out, HN3.out⟩, ?_⟩
   rw [HBL.out, HB3.out]; simp [intOf]; omega
  ·have hk1 : ((kn : Int) == 0) = false := by rw [beq_eq_false_iff_ne]; omega
   have hr4 := HR3.out
   rw [if_neg hk0, Nat.add_zero] at hr4
   have HR4 := Lib.hid hr4
   clear hr4
   gi_wp2
   go_wp2
   refine ⟨⟨O2, tr ++ [(i, r)], r, i + mn, ro, rc, by first | rfl | trivial, ⟨rfl, rfl, rfl, rfl, rfl, rfl, rfl, rfl, rfl⟩, HR4.out, HN3.out⟩, ?_⟩
   rw [HBL.out, HB3.out]; simp [intOf]; omega
 ·have HJX := Lib.hid hJx3
  clear hJx3 hy
  gi_wp2
  go_wp2
  refine bodyPost_ret (results_none rfl _ _ _) rfl ?_
  exact ⟨⟨_, rfl⟩, O2, .inr ⟨tr, (i, r), rest, HSPL.out, HJX.out⟩⟩


theorem run_left {w : World} {BW BL Bk Bm : Nat} {l : LawD} {cs : List Value} {vo : Option Addr} {vc : Nat} {ws : Wd} {K : Nat → Prop} (hlaw : lawB l = true) (hmode : l.mode = 3) (hwl : ws.length ≤ 32) (hcap : ws.length ≤ vc) (hkv : KeptIn K (.slice vo ws.length vc))
  (hKw : ∀ b, K b → b < w.heap.size) (hst : ∀ W, Turn (fun b => ¬ K b) w W → RunSt W BW BL Bk Bm l cs vo vc ws) :
  IterO Tryz.prog 130 #[.pointer (some ⟨BW, 0, none⟩), .pointer (some ⟨BL, 0, none⟩), .pointer (some ⟨Bk, 0, none⟩), .pointer (some ⟨Bm, 0, none⟩)] (RunM 2) (RunE 2) (traceL l ws) K w := by
 intro lp J Jx W ht hJ hJx hY h0
 obtain ⟨hk4, hm6, hkm, _, hfits, _, _, _⟩ := lawB_parts hlaw
 have h0st := hst W ht
 have hmo := h0st.law.box.mode
 rw [hmode] at hmo
 obtain ⟨wn, hwn⟩ : ∃ n, ws.length = n := ⟨_, rfl⟩
 have cW := cell_of_one h0st.box
 rw [hwn] at cW hwl hcap hkv
 have HKV := Lib.hid hkv
 have HWN := Lib.hid hwn; have HST := Lib.hid hst; have HFT := Lib.hid hfits; have HMO := Lib.hid hmode; have HJ := Lib.hid hJ; have HY := Lib.hid hY; have HJ0 := Lib.hid h0; have HT0 := Lib.hid ht
 have H0ST := Lib.hid h0st
 obtain ⟨kn, hkn⟩ : ∃ n, l.ifs.length = n := ⟨_, rfl⟩
 obtain ⟨mn, hmn⟩ : ∃ n, l.outs.length = n := ⟨_, rfl⟩
 rw [hkn] at hk4 hkm
 rw [hmn] at hm6 hkm
 have HKN := Lib.hid hkn; have HMN := Lib.hid hmn
 clear hst hfits hmode hJ hJx hY h0 ht h0st hlaw hwn hkv hkn hmn
 show Calls _ _ #[.func (.yield lp) #[] #[], .pointer (some ⟨BW, 0, none⟩), .pointer (some ⟨BL, 0, none⟩), .pointer (some ⟨Bk, 0, none⟩), .pointer (some ⟨Bm, 0, none⟩)] _ _
 go_enter Tryz.func130, Tryz.ntmps130
 have hL0 := H0ST.out.law.box.mode
 rw [HMO.out] at hL0
 go_upto_region 1 with (fail)
 obtain ⟨w1, hw1⟩ : ∃ D, W.alloc (.cells #[.func (.yield lp) #[] #[]] 167) = D := ⟨_, rfl⟩
 have hE1 : Ext W w1 := by rw [← hw1]; exact (Turn.refl _ W).alloc _
 have hY1 : w1.heap[W.heap.size]? = some (.cells #[.func (.yield lp) #[] #[]] 167 (0, 0)) := by rw [← hw1]; exact new_at rfl
 have hs1 : w1.heap.size = W.heap.size + 1 := by rw [← hw1]; simp
 rw [hw1]
 obtain ⟨Y0, hY0⟩ : ∃ b, W.heap.size = b := ⟨_, rfl⟩
 rw [hY0] at hY1 hs1 ⊢
 have hj := HJ.out; have hyy := HY.out
 rw [hY0] at hj hyy
 have HJW := HJ
 have HJ := Lib.hid hj; have HY := Lib.hid hyy
 clear hj hyy
 have HKY : Hid (∀ b, K b → b < Y0) := Lib.hid fun b hb => by have := hKw b hb; have := HT0.out.size; omega
 have HY0 := Lib.hid hY0; have HS1 := Lib.hid hs1
 clear hKw
 have cW := hE1.cell_some cW id
 clear hw1 hY0 hs1 hmo
 go_upto_region 2 with (fail)
 rw [HS1.out]
 obtain ⟨w2, hw2⟩ : ∃ D, w1.alloc (.cells #[.slice vo wn vc] 32) = D := ⟨_, rfl⟩
 have hE2 : Ext w1 w2 := by rw [← hw2]; exact (Turn.refl _ w1).alloc _
 have hN2 : SlBox w2 (Y0 + 1) (.slice vo wn vc) := by rw [← hw2]; exact new_at HS1.out.symm
 have hs2 : w2.heap.size = Y0 + 2 := by rw [← hw2]; simp [HS1.out]
 have hY2 := hE2.keep hY1
 rw [hw2]
 have hE12 := hE1.trans hE2
 have hmd := hE12.cell_some hL0 id
 have HS2 := Lib.hid hs2
 clear hw2 cW hY1 hE1 hE2 hL0 hs2
 have hJ2 := HJ.out _ (fun b => b = Y0 ∨ b = Y0 + 1) [] _ _ HJ0.out (Ext.of hE12) (fun b hb => by have := HY0.out; have := HS2.out; omega)
 have HJ2 := Lib.hid hJ2
 have hT2 : Turn (fun b => ¬ K b) w w2 := HT0.out.trans (Ext.of hE12)
 clear hJ2
 have ck := hE12.cell_some (cell_of_one H0ST.out.bk) id
 rw [HKN.out] at ck
 have cN := cell_of_one hN2
 go_wp2
 clear ck cN
 have hstart : LeftAt l ws [] ws ((wn : Int) - (kn : Int) + 1).toNat := by
  have h := LeftAt.start (l := l) (ws := ws) (by rw [HMO.out]; decide) (by rw [HMO.out]; decide)
  rw [HWN.out, HKN.out] at h
  rw [show ((wn : Int) - (kn : Int) + 1).toNat = wn + 1 - kn by omega]; exact h
 have HT2 := Lib.hid hT2; have HY2 := Lib.hid hY2; have HN2 := Lib.hid hN2
 clear hT2 hY2 hN2 hmd
 refine wp_loop (fun a V => ∃ (O : Nat → Prop) (tr : List (Nat × Wd)) (u : Wd) (z : Int) (uo : Option Addr) (uc : Nat), a.defers = [] ∧ (a.tmps.size = 117 ∧ a.tmps.getD 0 undef = .func (.yield lp) #[] #[] ∧ a.tmps.getD 1 undef = .pointer (some ⟨BW, 0, none⟩) ∧ a.tmps.getD 2 undef = .pointer (some ⟨BL, 0, none⟩) ∧ a.tmps.getD 3 undef = .pointer (some ⟨Bk, 0, none⟩) ∧ a.tmps.getD 4 undef = .pointer (some ⟨Bm, 0, none⟩) ∧ a.tmps.getD 5 undef = .pointer (some ⟨Y0, 0, none⟩) ∧ a.tmps.getD 6 undef = .pointer (some ⟨Y0 + 1, 0, none⟩) ∧ a.tmps.getD 11 undef = .int .i64 z) ∧ -5 ≤ z ∧ z ≤ 300 ∧ LeftAt l ws tr u (z + 1).toNat ∧ RunNow w V K O J Y0 lp tr u uo uc)
  (fun a _ => (intOf (a.tmps.getD 11 undef) + 1).toNat) ?_ ?_
 ·refine ⟨(fun b => b = Y0 ∨ b = Y0 + 1), [], ws, (wn : Int) - (kn : Int), vo, vc, rfl, ⟨rfl, rfl, rfl, rfl, rfl, rfl, rfl, rfl, rfl⟩, by omega, by omega, hstart, ⟨HJ2.out, .inl rfl, .inr rfl, fun b hb => by have := HS2.out; omega, HT2.out, HY2.out, ?_, ?_, ?_, ?_⟩⟩
  ·rw [HWN.out]; exact HN2.out
  ·exact H0ST.out.word.ext hE12
  ·rw [HWN.out]; exact hcap
  ·rw [HWN.out]; exact fun g o n c e h0' => .inl (HKV.out g o n c e h0')
 clear HJ2 HJ0 HT2 HY2 HN2 H0ST hE12 HT0 HY0 HS1 HS2 hcap HKV
 rintro ⟨t, _⟩ V ⟨O, tr, u', z, uo, uc, hds, ⟨hsz, f0, f1, f2, f3, f4, f5, f6, f11⟩, hz1, hz2, hR, hN⟩
 obtain ⟨uw, rfl⟩ : ∃ x, x = u' := ⟨_, rfl⟩
 subst hds
 obtain ⟨u', hu⟩ := frame_fun hsz
 obtain ⟨u, rfl⟩ : ∃ x, x = u' := ⟨_, rfl⟩
 have hu' : t = #[u 0, u 1, u 2, u 3, u 4, u 5, u 6, u 7, u 8, u 9, u 10, u 11, u 12, u 13, u 14, u 15, u 16, u 17, u 18, u 19, u 20, u 21, u 22, u 23, u 24, u 25, u 26, u 27, u 28, u 29, u 30, u 31, u 32, u 33, u 34, u 35, u 36, u 37, u 38, u 39, u 40, u 41, u 42, u 43, u 44, u 45, u 46, u 47, u 48, u 49, u 50, u 51, u 52, u 53, u 54, u 55, u 56, u 57, u 58, u 59, u 60, u 61, u 62, u 63, u 64, u 65, u 66, u 67, u 68, u 69, u 70, u 71, u 72, u 73, u 74, u 75, u 76, u 77, u 78, u 79, u 80, u 81, u 82, u 83, u 84, u 85, u 86, u 87, u 88, u 89, u 90, u 91, u 92, u 93, u 94, u 95, u 96, u 97, u 98, u 99, u 100, u 101, u 102, u 103, u 104, u 105, u 106, u 107, u 108, u 109, u 110, u 111, u 112, u 113, u 114, u 115, u 116] := hu
 clear hu
 subst hu'
 change u 0 = _ at f0
 change u 1 = _ at f1
 change u 2 = _ at f2
 change u 3 = _ at f3
 change u 4 = _ at f4
 change u 5 = _ at f5
 change u 6 = _ at f6
 change u 11 = _ at f11
 rw [f0, f1, f2, f3, f4, f5, f6, f11]
 clear f0 f1 f2 f3 f4 f5 f6 f11 hsz
 have hst := HST.out V hN.t
 obtain ⟨un, hun⟩ : ∃ n, uw.length = n := ⟨_, rfl⟩
 have hbl := boxLen_eq hN.n
 have cN := cell_of_one hN.n
 have cY := cell_of_one hN.y
 have ck := cell_of_one hst.bk
 have cm := cell_of_one hst.bm
 rw [HKN.out] at ck
 rw [HMN.out] at cm
 rw [hun] at cN hbl
 have hfew := few (t := tr.length) (n := ws.length + 1) (m := mn) (by have := hR.2.1; omega) hm6 (by rw [HWN.out]; omega)
 have hul : un ≤ 230 := by
  have h1 := hR.2.2.1
  rw [HMN.out, hun, HWN.out] at h1
  omega
 have HUN := Lib.hid hun; have HBL := Lib.hid hbl; have HR := Lib.hid hR; have HN := Lib.hid hN; have HS := Lib.hid hst
 clear hun hbl hR hN hst hfew
 by_cases hz0 : 0 ≤ z
 case neg =>
  have h1 : ¬ (0 : Int) ≤ z := hz0
  have hd := HR.out
  rw [show (z + 1).toNat = 0 by omega] at hd
  have hd := hd.done
  have HD := Lib.hid hd
  clear hd cm cY
  go_wp2
  go_end0
  exact ⟨⟨_, rfl⟩, O, .inl (by rw [HD.out]; exact HN.out.j)⟩
 obtain ⟨i, rfl⟩ := Int.eq_ofNat_of_zero_le hz0
 have hR := HR.out
 rw [show ((i : Int) + 1).toNat = i + 1 by omega] at hR
 have hle := hR.le
 rw [HUN.out, HKN.out] at hle
 have HR := Lib.hid hR
 clear hR
 go_upto_region 24 with (fail)
 obtain ⟨hL1, hL2⟩ := HS.out.law
 obtain ⟨nm, k1, p1, m1, n1, a1, b1, o1, N1, c1, k2, p2, m2, n2, a2, b2, o2, N2, c2, io, N3, ic, oo, N4, oc, md, rfl, HLA, HPL, HPR, HIF, HOU, HNM, HN1, HN2, HN3, HN4, HMD, q0, q1, q2, q3, q4⟩ := law_gen hL2
 have hwd := HN.out.wd
 have hhit := hit_any hL2 hwd HS.out.tab i (by rw [HUN.out]; omega) (by rw [HUN.out, HKN.out]; omega)
 rw [HUN.out] at hhit hwd
 obtain ⟨hb, hhb⟩ : ∃ b, hitL l uw i = b := ⟨_, rfl⟩
 rw [hhb] at hhit
 have HH := Lib.hid hhit; have HHB := Lib.hid hhb; have HL1 := Lib.hid hL1; have HWD := Lib.hid hwd; have HL2 := Lib.hid hL2
 clear hhit hhb hL1 hL2 hwd ck cm cY
 go_wp2_with (first | (refine wpList_load_row rfl 34 (.tmp 2) rfl BL rfl _ _ _ _ HL1.out Tryz.underlying34 rfl Tryz.lawInfo ?_) | fail)
 refine HH.out.mono ?_
 rintro e V1 ⟨rfl, hE1⟩
 have hN1 := HN.out.ext hE1 HJ.out
 have hS1 := HST.out V1 hN1.t
 cases hb
 case false =>
  have hR1 := HR.out.miss HHB.out
  have HR1 := Lib.hid hR1; have HN1 := Lib.hid hN1
  have hbl := boxLen_eq hN1.n
  rw [HUN.out] at hbl
  have HB1 := Lib.hid hbl
  clear hR1 hN1 hS1 HH hE1 cN hbl
  go_wp2
  refine ⟨⟨O, tr, uw, (i : Int) - 1, uo, uc, by first | rfl | trivial, ⟨rfl, rfl, rfl, rfl, rfl, rfl, rfl, rfl, rfl⟩, by omega, by omega, by rw [show ((i : Int) - 1 + 1).toNat = i by omega]; exact HR1.out, HN1.out⟩, ?_⟩
  simp [intOf]
 have cN := cell_of_one hN1.n
 rw [HUN.out] at cN
 have hw1 := hN1.wd
 rw [HUN.out] at hw1
 have hrep := replace_any hS1.law.2 hw1 HUN.out (by have := hN1.cap; rw [HUN.out] at this; exact this) i (by rw [HKN.out]; exact hle) HFT.out (by rw [HMN.out]; omega) (by omega)
 have hL1 := hS1.law.1
 have hwok : WdOk (replL l uw i) := by
  have h1 := hw1.2
  intro s hs
  unfold replL repl at hs
  rcases List.mem_append.1 hs with hs | hs
  ·rcases List.mem_append.1 hs with hs | hs
   ·exact h1 s (List.mem_of_mem_take hs)
   ·exact putL_ok (fun x hx => h1 x (List.mem_of_mem_drop (List.mem_of_mem_take hx))) HOU.out.2 s hs
  ·exact h1 s (List.mem_of_mem_drop hs)
 have HREP := Lib.hid hrep; have HL1' := Lib.hid hL1; have HN1 := Lib.hid hN1; have HWOK := Lib.hid hwok
 obtain ⟨hR2, rest, hspl⟩ := HR.out.hit HHB.out
 have HR2 := Lib.hid hR2; have HSPL := Lib.hid hspl
 clear hrep hL1 hN1 hS1 hw1 hwok hR2 hspl HH hE1
 go_upto_region 27 with (first | (refine wpList_load_row rfl 34 (.tmp 2) rfl BL rfl _ _ _ _ HL1'.out Tryz.underlying34 rfl Tryz.lawInfo ?_) | (go_at_call 64; refine HREP.out.mono ?_; rintro e V2 ⟨ru, rfl, hO2, hE2⟩; obtain ⟨ro, rc, rfl⟩ := own_slice hO2; have cN2 := cell_of_one (hE2.keep HN1.out.n); have fN2 := free_of_one (hE2.keep HN1.out.n)))
 obtain ⟨O2, hP, _, hP3⟩ := (HN1.out).put2 HKY.out hO2 hE2 HWOK.out (Nat.le_refl 2) HJ.out
 have hv2 := (HN1.out.lt _ HN1.out.on).2
 obtain ⟨V3, hV3⟩ : ∃ D, V2.setCell ⟨Y0 + 1, 0, none⟩ (.slice ro (replL l uw i).length rc) = D := ⟨_, rfl⟩
 rw [hV3] at hP hP3 ⊢
 clear hV3 hO2 hE2 cN cN2 fN2 HREP HL1' HL1 HN1 HWOK HL2 HWD HN HS
 obtain ⟨r, hr⟩ : ∃ r, replL l uw i = r := ⟨_, rfl⟩
 rw [hr] at hP hP3 HR2 HSPL
 have hlr := replL_length (l := l) (u := uw) (i := i) (by rw [HUN.out, HKN.out]; exact hle)
 rw [hr, HUN.out, HKN.out, HMN.out] at hlr
 rw [hr]
 obtain ⟨rn, hrn⟩ : ∃ n, r.length = n := ⟨_, rfl⟩
 rw [hrn] at hlr
 have cN := cell_of_one hP.n
 rw [hrn] at cN
 have cY := cell_of_one hP.y
 obtain ⟨fn, tmps, assign, body, hy, hYR⟩ := HY.out O2 tr (i, r) rest V3 #[.int .i64 (i : Int), .slice ro rn rc] HSPL.out hP.j ⟨ro, rc, by rw [hrn], hP.wd, hP.cap, fun g o n c e h0' => by obtain ⟨q1, q2, q3⟩ := hP3 g o n c e h0'; exact ⟨q1, by omega, q3⟩⟩
 clear hP3 hv2
 have HP := Lib.hid hP; have HYR := Lib.hid hYR; have HRN := Lib.hid hrn
 clear hP hYR hrn hr HHB
 rw [HRN.out]
 refine (wpIn_wide (n := 0)).1 ?_
 gi_wp2
 refine HYR.out.mono ?_
 rintro e W3 (⟨rfl, hJ3, hk3⟩ | ⟨rfl, hJx3, _⟩)
 ·have hN3 := HP.out.yielded hJ3 hk3
  have hS3 := HST.out W3 hN3.t
  have ck := cell_of_one hS3.bk
  have cm := cell_of_one hS3.bm
  rw [HKN.out] at ck
  rw [HMN.out] at cm
  have hbl := boxLen_eq hN3.n
  rw [HRN.out] at hbl
  have HN3 := Lib.hid hN3; have HB3 := Lib.hid hbl
  clear hN3 hS3 hbl hy cN cY hJ3 hk3
  have hr3 := HR2.out
  rw [HKN.out] at hr3
  have HR3 := Lib.hid hr3
  clear hr3
  obtain ⟨mx, hmx⟩ : ∃ n, max kn 1 = n := ⟨_, rfl⟩
  have hr4 := HR3.out
  rw [hmx] at hr4
  have hmx2 : max (kn : Int) 1 = (mx : Int) := by omega
  have hmx4 : mx ≤ 4 ∧ 1 ≤ mx := by omega
  have HR4 := Lib.hid hr4; have HMX := Lib.hid hmx
  clear hr4 hmx
  gi_wp2
  go_wp2
  ·refine ⟨⟨by omega, by omega, O2, tr ++ [(i, r)], r, ?_, ro, rc, HN3.out⟩, by simp [intOf]; omega⟩
   have h4 := HR4.out
   rwa [show mx = 1 by have := HMX.out; omega, show i + 1 - 1 = i by omega] at h4
  ·refine ⟨⟨by omega, by omega, O2, tr ++ [(i, r)], r, ?_, ro, rc, HN3.out⟩, by simp [intOf]; omega⟩
   have h4 := HR4.out
   rw [show mx = kn by have := HMX.out; omega] at h4
   rwa [show ((i : Int) - (kn : Int) + 1).toNat = i + 1 - kn by omega]
 ·have HJX := Lib.hid hJx3
  clear hJx3 hy
  gi_wp2
  go_wp2
  refine bodyPost_ret (results_none rfl _ _ _) rfl ?_
  exact ⟨⟨_, rfl⟩, O2, .inr ⟨tr, (i, r), rest, HSPL.out, HJX.out⟩⟩
end Go.Proofs.YtamkkhlabfahmaaGreatDoor
