/- ablautlaw08.LawLengths: the walk (printed by genllengthsw.py). -/
import Derived.Test.YtedhogbocifipaaGreatDoorRowT
import Derived.Test.YtedhogbocifipaaGreatDoorLawLaw
import Derived.Test.YtedhogbocifipaaGreatDoorGa20
import Derived.Deep.QuietTactic
import Derived.BigQuiet
set_option maxRecDepth 100000
set_option maxHeartbeats 16000000
namespace Go.Proofs.YtedhogbocifipaaGreatDoor
open Go.RowKit Go.Ab
attribute [local go_sem] Oper.semAt_some wide_fn wide_depth

theorem trT_good {l : LawD} {ws : Wd} (h : trE l ws = 0) : trT l ws = traceL l ws := by unfold trT; rw [if_pos h]
theorem trT_bad {l : LawD} {ws : Wd} (h : trE l ws ≠ 0) : trT l ws = [] := by unfold trT; rw [if_neg h]
theorem trT_len {l : LawD} {ws : Wd} (h : trE l ws = 0) (k : Nat) (hk : k < (trT l ws).length) : (((trT l ws).map (·.2)).getD k []).length + (k + 1) * l.ifs.length = ws.length + (k + 1) * l.outs.length := by
 rw [trT_good h] at hk ⊢
 have hx : (traceL l ws)[k]? = some (traceL l ws)[k] := List.getElem?_eq_getElem hk
 have := traceL_len hx
 rw [List.getD_eq_getElem?_getD, List.getElem?_map, hx]
 exact this
theorem trT_last {l : LawD} {ws : Wd} (h : trE l ws = 0) (k : Nat) (hk : (trT l ws).length = k + 1) : ((trT l ws).map (·.2)).getD k [] = appL l ws := by
 rw [← appL_last h hk (by omega), List.getD_eq_getElem?_getD, List.getElem?_map, List.getElem?_eq_getElem (by omega)]
 rfl
theorem word_one {w : World} {l : LawD} {cs : List Value} {vo : Option Addr} {vc : Nat} {ws : Wd} (hl : LawAt w l cs) (hv : WordAt w (.slice vo ws.length vc) ws) (hcap : ws.length ≤ vc) (hT : Tab w) :
  Calls Tryz.prog 26 #[.agg cs.toArray, .slice vo ws.length vc] w fun e w' => ∃ zo zc, e = .returned (.tuple #[.slice zo (appL l ws).length zc, .int .i64 (trE l ws)]) ∧ WordAt w' (.slice zo (appL l ws).length zc) (appL l ws) ∧ Ext w w' :=
 (lapply_any hl hv hcap hT).mono fun _ _ ⟨u, h1, ⟨zo, zc, hq, h2, _⟩, h3⟩ => by
  subst hq
  exact ⟨zo, zc, h1, h2, h3⟩

theorem lengths_law {w : World} {l : LawD} {cs : List Value} {vo : Option Addr} {vc : Nat} {ws : Wd} (hl : LawAt w l cs) (hv : WordAt w (.slice vo ws.length vc) ws) (hcap : ws.length ≤ vc) (hT : Tab w) :
  Calls Tryz.prog 6 #[.agg cs.toArray, .slice vo ws.length vc] w fun e w' => e = .returned (.bool true) ∧ Ext w w' := by
 have hp := fun (V : World) (hE : Ext w V) => trace_one (hl.ext hE) (hv.ext hE) hcap (hT.keep hE id)
 have hr := fun (V : World) (hE : Ext w V) => word_one (hl.ext hE) (hv.ext hE) hcap (hT.keep hE id)
 have hwo := fun (V : World) (hE : Ext w V) => lworks_any V (hT.keep hE id)
 have hlen := fun (h : trE l ws = 0) => trT_len h
 have hnil := fun (h : trE l ws = 0) => appL_nil h
 have hlast := fun (h : trE l ws = 0) => trT_last h
 have hbt := fun (h : trE l ws ≠ 0) => trT_bad h
 have hba := fun (h : trE l ws ≠ 0) => appL_bad h
 have hwx := fun (V : World) (hE : Ext w V) => hv.ext hE
 obtain ⟨_, _, hq, hwm⟩ := hv.slice
 clear hq
 obtain ⟨wn, hwn⟩ : ∃ n, ws.length = n := ⟨_, rfl⟩
 simp only [hwn] at hp hr hlen hwx hwm ⊢
 unfold maxLen at hwm
 obtain ⟨nm, k1, p1, m1, n1, a1, b1, o1, N1, c1, k2, p2, m2, n2, a2, b2, o2, N2, c2, io, N3, ic, oo, N4, oc, md, rfl, HLA, HPL, HPR, HIF, HOU, HNM, HN1, HN2, HN3, HN4, HMD, q0, q1, q2, q3, q4⟩ := law_gen hl
 simp only [HN3.out, HN4.out] at hlen
 obtain ⟨E, hq⟩ : ∃ R, trE l ws = R := ⟨_, rfl⟩
 simp only [hq] at hp hr hlen hnil hlast hbt hba
 clear hq
 obtain ⟨T, hq⟩ : ∃ R, trT l ws = R := ⟨_, rfl⟩
 simp only [hq] at hp hlen hnil hlast hbt
 clear hq
 obtain ⟨U, hq⟩ : ∃ R, appL l ws = R := ⟨_, rfl⟩
 simp only [hq] at hr hnil hlast hba
 clear hq
 obtain ⟨N, hN⟩ : ∃ n, T.length = n := ⟨_, rfl⟩
 simp only [hN] at hp hlen hnil hlast
 obtain ⟨un, hun⟩ : ∃ n, U.length = n := ⟨_, rfl⟩
 simp only [hun] at hr
 have HN := Lib.hid hN; have HUN := Lib.hid hun; have HP := Lib.hid hp; have HR := Lib.hid hr; have HWO := Lib.hid hwo; have HLEN := Lib.hid hlen; have HNIL := Lib.hid hnil; have HLAST := Lib.hid hlast; have HBT := Lib.hid hbt; have HBA := Lib.hid hba; have HWX := Lib.hid hwx
 clear hl hv hT hwn hp hr hwo hN hun hlen hnil hlast hbt hba hwx hcap
 go_enter Tryz.func6, Tryz.ntmps6
 go_upto_region 1 with (fail)
 obtain ⟨w1, hw1⟩ : ∃ D, w.alloc (.cells #[.string nm, .int .i64 k1, .int .u32 (p1 : Int), .int .u32 (m1 : Int), .bool n1, .int .i64 a1, .int .i64 b1, .slice o1 N1 c1, .int .i64 k2, .int .u32 (p2 : Int), .int .u32 (m2 : Int), .bool n2, .int .i64 a2, .int .i64 b2, .slice o2 N2 c2, .slice io N3 ic, .slice oo N4 oc, .int .i64 md] 31) = D := ⟨_, rfl⟩
 have hE1 : Ext w w1 := by rw [← hw1]; exact (Turn.refl _ w).alloc _
 have hl1 : w1.heap[w.heap.size]? = some (.cells #[.string nm, .int .i64 k1, .int .u32 (p1 : Int), .int .u32 (m1 : Int), .bool n1, .int .i64 a1, .int .i64 b1, .slice o1 N1 c1, .int .i64 k2, .int .u32 (p2 : Int), .int .u32 (m2 : Int), .bool n2, .int .i64 a2, .int .i64 b2, .slice o2 N2 c2, .slice io N3 ic, .slice oo N4 oc, .int .i64 md] 31 (0, 0)) := by rw [← hw1]; exact new_at rfl
 rw [hw1]
 obtain ⟨B, hB⟩ : ∃ b, w.heap.size = b := ⟨_, rfl⟩
 rw [hB] at hl1 ⊢
 have HL1 := Lib.hid hl1
 clear hw1 hl1 hB
 go_wp2_with (refine wpList_load_row rfl 31 (.tmp 2) rfl B rfl _ _ _ _ HL1.out Tryz.underlying31 rfl Tryz.lawInfo ?_)
 refine (HP.out _ hE1).mono ?_
 rintro e w2 ⟨xp, xq, xo, xc, rfl, hO, hN⟩
 have hN1 : Ext w1 w2 := hN
 have hE2 : Ext w w2 := hE1.trans hN
 have HL2 := Lib.hid (Ext.keep hN HL1.out)
 clear hN HP HL1
 have hmx := hO.len
 rw [HN.out] at hmx
 unfold maxLen at hmx
 have Hx : Hid (∀ D, Ext w2 D → TrOut w1.heap.size D (.slice xp N xq) (.slice xo N xc) T) := Lib.hid (fun D hD => hO.ext hD)
 clear hO
 go_wp2_with (refine wpList_load_row rfl 31 (.tmp 2) rfl B rfl _ _ _ _ HL2.out Tryz.underlying31 rfl Tryz.lawInfo ?_)
 refine (HR.out _ hE2).mono ?_
 rintro e w3 ⟨zo, zc, rfl, hO, hN⟩
 have hN2 : Ext w2 w3 := hN
 have hE3 : Ext w w3 := hE2.trans hN
 have HL3 := Lib.hid (Ext.keep hN HL2.out)
 clear hN HR HL2
 have Hz : Hid (∀ D, Ext w3 D → WordAt D (.slice zo un zc) U) := Lib.hid (fun D hD => hO.ext hD)
 clear hO
 by_cases h0 : E = 0
 case neg =>
  have h9 : (E != 0) = true := by rw [bne_iff_ne]; exact h0
  have ht := HBT.out h0
  have hu := HBA.out h0
  have hn0 : ((N : Int) == 0) = true := by have := HN.out; rw [ht] at this; simp at this; subst this; rfl
  have hu0 : ((un : Int) == 0) = true := by have := HUN.out; rw [hu] at this; simp at this; subst this; rfl
  have hn1 : (N : Int) = 0 := by simpa using hn0
  have hu1 : (un : Int) = 0 := by simpa using hu0
  clear ht hu HBT HBA HNIL HLAST HLEN Hx Hz
  go_wp2_with fail
  refine (HWO.out _ hE3).mono ?_
  rintro e w4 ⟨rfl, hN⟩
  have hN3 : Ext w3 w4 := hN
  have hE4 : Ext w w4 := hE3.trans hN
  clear hN
  have HEND := Lib.hid hE4
  clear hE1 hE2 hE3 hE4
  go_wp2
  go_ret
  exact ⟨rfl, HEND.out⟩
 subst h0
 have HX := Lib.hid (fun D hD => Hx.out D (hN2.trans hD))
 have HLEN2 := Lib.hid (HLEN.out rfl)
 have HNIL2 := Lib.hid (HNIL.out rfl)
 have HLAST2 := Lib.hid (HLAST.out rfl)
 have HE3 := Lib.hid hE3
 clear Hx hN1 hN2 hE1 hE2 hE3 HBT HBA HLEN HNIL HLAST
 go_wp2
 refine wp_loop (fun a W => ∃ (k : Nat), k ≤ N ∧ a.defers = [] ∧ (a.tmps.size = 102 ∧ a.tmps.getD 1 undef = .slice vo wn vc ∧ a.tmps.getD 2 undef = .pointer (some ⟨B, 0, none⟩) ∧ a.tmps.getD 6 undef = .slice xo N xc ∧ a.tmps.getD 8 undef = .slice zo un zc ∧ a.tmps.getD 10 undef = .int .i64 k) ∧ Ext w3 W)
  (fun a _ => N - (intOf (a.tmps.getD 10 undef)).toNat) ?_ ?_
 ·exact ⟨0, by omega, rfl, ⟨rfl, rfl, rfl, rfl, rfl, rfl⟩, Turn.refl _ _⟩
 rintro ⟨t, _⟩ W ⟨k, hk, hds, ⟨hsz, f1, f2, f6, f8, f10⟩, hE⟩
 subst hds
 obtain ⟨u', hu⟩ := frame_fun hsz
 obtain ⟨u, rfl⟩ : ∃ x, x = u' := ⟨_, rfl⟩
 have hu' : t = #[u 0, u 1, u 2, u 3, u 4, u 5, u 6, u 7, u 8, u 9, u 10, u 11, u 12, u 13, u 14, u 15, u 16, u 17, u 18, u 19, u 20, u 21, u 22, u 23, u 24, u 25, u 26, u 27, u 28, u 29, u 30, u 31, u 32, u 33, u 34, u 35, u 36, u 37, u 38, u 39, u 40, u 41, u 42, u 43, u 44, u 45, u 46, u 47, u 48, u 49, u 50, u 51, u 52, u 53, u 54, u 55, u 56, u 57, u 58, u 59, u 60, u 61, u 62, u 63, u 64, u 65, u 66, u 67, u 68, u 69, u 70, u 71, u 72, u 73, u 74, u 75, u 76, u 77, u 78, u 79, u 80, u 81, u 82, u 83, u 84, u 85, u 86, u 87, u 88, u 89, u 90, u 91, u 92, u 93, u 94, u 95, u 96, u 97, u 98, u 99, u 100, u 101] := hu
 clear hu
 subst hu'
 change u 1 = _ at f1
 change u 2 = _ at f2
 change u 6 = _ at f6
 change u 8 = _ at f8
 change u 10 = _ at f10
 rw [f1, f2, f6, f8, f10]
 clear f1 f2 f6 f8 f10 hsz
 have HLW := Lib.hid (Ext.keep hE HL3.out)
 by_cases hkN : k < N
 ·have h1 : (k : Int) < (N : Int) := by omega
  obtain ⟨g, ao, c, n, us, hq1, hus, hn, d1, hwd, _⟩ := (HX.out _ hE).word HN.out hkN
  obtain ⟨_, _, hq2, hnb⟩ := hwd.slice
  rw [hn] at hnb
  unfold maxLen at hnb
  clear hq2 hwd
  subst hq1
  have hl2 := HLEN2.out k hkN
  rw [← hus, hn] at hl2
  clear hus hn
  have c15 := cell_of_row _ _ 15 _ _ _ HLW.out
  have c16 := cell_of_row _ _ 16 _ _ _ HLW.out
  have hwk : IntKind.i64.wrap ((k : Int) + 1) = (k : Int) + 1 := IntWalk.i64_in _ (by omega)
  have h78 : IntKind.i64.wrap ((N4 : Int) - (N3 : Int)) = (N4 : Int) - (N3 : Int) := IntWalk.i64_in _ (by omega)
  have hml : ((k : Int) + 1) * ((N4 : Int) - (N3 : Int)) = (n : Int) - (wn : Int) := by have h := congrArg (Nat.cast (R := Int)) hl2; push_cast at h; rw [Int.mul_sub]; omega
  obtain ⟨Z, hZ⟩ : ∃ Z, (n : Int) - (wn : Int) = Z := ⟨_, rfl⟩
  rw [hZ] at hml
  have h79 : IntKind.i64.wrap (((k : Int) + 1) * ((N4 : Int) - (N3 : Int))) = Z := by rw [hml]; exact IntWalk.i64_in _ (by omega)
  have h80 : IntKind.i64.wrap ((wn : Int) + Z) = (n : Int) := by rw [IntWalk.i64_in _ (by omega)]; omega
  clear hl2 hml hZ h78
  go_wp2
  go_quiet (fail)
  go_wp2
  exact ⟨⟨k + 1, by omega, by first | rfl | trivial, ⟨rfl, rfl, rfl, rfl, rfl, rfl⟩, hE.drewN _⟩, by simp [intOf]; omega⟩
 ·obtain rfl : k = N := by omega
  have h1 : ¬ (k : Int) < (k : Int) := by omega
  have hE4 : Ext w W := HE3.out.trans hE
  by_cases hk0 : k = 0
  ·have hkb : ((k : Int) == 0) = true := by subst hk0; rfl
   have hki : (k : Int) = 0 := by omega
   obtain rfl : U = ws := HNIL2.out hk0
   clear hk0
   go_wp2_with fail
   refine (same_self (Hz.out _ hE) (HWX.out _ hE4)).mono ?_
   rintro e W2 ⟨rfl, hN⟩
   have hE5 := hE4.trans hN
   clear hN
   go_wp2_with fail
   refine (HWO.out _ hE5).mono ?_
   rintro e W3 ⟨rfl, hN⟩
   have HEND := Lib.hid (hE5.trans hN)
   clear hE4 hE5 hN
   go_wp2
   go_ret
   exact ⟨rfl, HEND.out⟩
  ·have hkb : ((k : Int) == 0) = false := by simp; omega
   have hki : ¬ (k : Int) = 0 := by omega
   obtain ⟨j, hj⟩ : ∃ j, k = j + 1 := ⟨k - 1, by omega⟩
   have hlu := HLAST2.out j hj
   have hjk : (j : Int) < (k : Int) := by omega
   have hjw : IntKind.i64.wrap ((k : Int) - 1) = (j : Int) := by rw [IntWalk.i64_in _ (by omega)]; omega
   obtain ⟨g, ao, c, n, us, hq1, hus, hn, d1, hwd, _⟩ := (HX.out _ hE).word HN.out (show j < k by omega)
   obtain rfl : us = U := hus.trans hlu
   subst hq1
   clear hus hn hj hlu hk0
   have HD := Lib.hid hwd
   clear hwd
   go_wp2_with fail
   refine (same_self (Hz.out _ hE) HD.out).mono ?_
   rintro e W2 ⟨rfl, hN⟩
   have hE5 := hE4.trans hN
   clear hN
   go_wp2_with fail
   refine (HWO.out _ hE5).mono ?_
   rintro e W3 ⟨rfl, hN⟩
   have HEND := Lib.hid (hE5.trans hN)
   clear hE4 hE5 hN
   go_wp2
   go_ret
   exact ⟨rfl, HEND.out⟩
end Go.Proofs.YtedhogbocifipaaGreatDoor
