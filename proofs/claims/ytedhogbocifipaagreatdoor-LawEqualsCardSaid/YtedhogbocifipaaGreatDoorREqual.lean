/- ablautref08.Equal (printed by genlequal.py). -/
import Derived.Test.YtedhogbocifipaaGreatDoorEqO
import Derived.Test.YtedhogbocifipaaGreatDoorRefLike
import Derived.Test.YtedhogbocifipaaGreatDoorGa20
import Derived.Test.YtedhogbocifipaaGreatDoorGa09
import Derived.Deep.QuietTactic
import Derived.BigQuiet
set_option maxRecDepth 100000
set_option maxHeartbeats 16000000
namespace Go.Proofs.YtedhogbocifipaaGreatDoor
open Go.RowKit Go.Ab
attribute [local go_sem] Oper.semAt_some wide_fn wide_depth

theorem rlequal_any {w : World} {a b : LawD} {cs ds : List Value} (ha : LawAt w a cs) (hb : LawAt w b ds) :
  Calls Tryz.prog 35 #[.agg cs.toArray, .agg ds.toArray] w fun e w' => e = .returned (.bool (eqL a b)) ∧ Ext w w' := by
 obtain ⟨nm, k1, p1, m1, n1, a1, b1, o1, N1, c1, k2, p2, m2, n2, a2, b2, o2, N2, c2, io, N3, ic, oo, N4, oc, md, rfl, HLA, HPL, HPR, HIF, HOU, HNM, HN1, HN2, HN3, HN4, HMD, q0, q1, q2, q3, q4⟩ := law_gen ha
 obtain ⟨nm', k1', p1', m1', n1', a1', b1', o1', N1', c1', k2', p2', m2', n2', a2', b2', o2', N2', c2', io', N3', ic', oo', N4', oc', md', rfl, HLA', HPL', HPR', HIF', HOU', HNM', HN1', HN2', HN3', HN4', HMD', q0', q1', q2', q3', q4'⟩ := law_gen hb
 have h1 := fun (V : World) (hE : Ext w V) => refequal_any (HPL.out.ext hE) (HPL'.out.ext hE)
 have h2 := fun (V : World) (hE : Ext w V) => refequal_any (HPR.out.ext hE) (HPR'.out.ext hE)
 have h3 := fun (V : World) (hE : Ext w V) => refeqW (HIF.out.ext hE) (HIF'.out.ext hE)
 have HEQ : Hid (eqL a b = (decide (nm = nm') && decide (md = md') && equalV a.left b.left && equalV a.right b.right && decide (a.ifs = b.ifs) && eqOL a.outs b.outs)) := Lib.hid (by unfold eqL; rw [HNM.out, HNM'.out, HMD.out, HMD'.out])
 obtain ⟨R, hq⟩ : ∃ x, eqL a b = x := ⟨_, rfl⟩
 rw [hq] at HEQ ⊢
 clear hq
 obtain ⟨e1, hq⟩ : ∃ x, equalV a.left b.left = x := ⟨_, rfl⟩
 rw [hq] at HEQ
 simp only [hq] at h1
 clear hq
 obtain ⟨e2, hq⟩ : ∃ x, equalV a.right b.right = x := ⟨_, rfl⟩
 rw [hq] at HEQ
 simp only [hq] at h2
 clear hq
 obtain ⟨e3, hq⟩ : ∃ x, decide (a.ifs = b.ifs) = x := ⟨_, rfl⟩
 rw [hq] at HEQ
 simp only [hq] at h3
 clear hq
 obtain ⟨X, hq⟩ : ∃ x, a.outs = x := ⟨_, rfl⟩
 rw [hq] at HOU HN4 HEQ
 clear hq
 obtain ⟨Y, hq⟩ : ∃ x, b.outs = x := ⟨_, rfl⟩
 rw [hq] at HOU' HN4' HEQ
 clear hq
 have H1 := Lib.hid h1; have H2 := Lib.hid h2; have H3 := Lib.hid h3
 clear h1 h2 h3 ha hb HLA HPL HPR HIF HNM HN1 HN2 HN3 HMD HLA' HPL' HPR' HIF' HNM' HN1' HN2' HN3' HMD'
 obtain ⟨w1, hw1⟩ : ∃ D, (w.alloc (.cells #[.string nm, .int .i64 k1, .int .u32 (p1 : Int), .int .u32 (m1 : Int), .bool n1, .int .i64 a1, .int .i64 b1, .slice o1 N1 c1, .int .i64 k2, .int .u32 (p2 : Int), .int .u32 (m2 : Int), .bool n2, .int .i64 a2, .int .i64 b2, .slice o2 N2 c2, .slice io N3 ic, .slice oo N4 oc, .int .i64 md] 31)).alloc (.cells #[.string nm', .int .i64 k1', .int .u32 (p1' : Int), .int .u32 (m1' : Int), .bool n1', .int .i64 a1', .int .i64 b1', .slice o1' N1' c1', .int .i64 k2', .int .u32 (p2' : Int), .int .u32 (m2' : Int), .bool n2', .int .i64 a2', .int .i64 b2', .slice o2' N2' c2', .slice io' N3' ic', .slice oo' N4' oc', .int .i64 md'] 31) = D := ⟨_, rfl⟩
 have hE1 : Ext w w1 := by rw [← hw1]; exact ((Turn.refl _ w).alloc _).alloc _
 have hl1 : w1.heap[w.heap.size]? = some (.cells #[.string nm, .int .i64 k1, .int .u32 (p1 : Int), .int .u32 (m1 : Int), .bool n1, .int .i64 a1, .int .i64 b1, .slice o1 N1 c1, .int .i64 k2, .int .u32 (p2 : Int), .int .u32 (m2 : Int), .bool n2, .int .i64 a2, .int .i64 b2, .slice o2 N2 c2, .slice io N3 ic, .slice oo N4 oc, .int .i64 md] 31 (0, 0)) := by rw [← hw1]; exact new_keep (new_at rfl)
 have hm1 : w1.heap[w.heap.size + 1]? = some (.cells #[.string nm', .int .i64 k1', .int .u32 (p1' : Int), .int .u32 (m1' : Int), .bool n1', .int .i64 a1', .int .i64 b1', .slice o1' N1' c1', .int .i64 k2', .int .u32 (p2' : Int), .int .u32 (m2' : Int), .bool n2', .int .i64 a2', .int .i64 b2', .slice o2' N2' c2', .slice io' N3' ic', .slice oo' N4' oc', .int .i64 md'] 31 (0, 0)) := by rw [← hw1]; exact new_at (by simp)
 go_enter Tryz.func35, Tryz.ntmps35
 go_upto_region 1 with (fail)
 try rw [hw1]
 obtain ⟨B, hB⟩ : ∃ b, w.heap.size = b := ⟨_, rfl⟩
 rw [hB] at hl1 hm1 ⊢
 have HL1 := Lib.hid hl1; have HM1 := Lib.hid hm1
 clear hw1 hl1 hm1 hB
 have cX := fun j => cell_of_row _ _ j _ _ _ HL1.out
 have cY := fun j => cell_of_row _ _ j _ _ _ HM1.out
 by_cases hn : nm = nm'
 case neg =>
  have hn1 : ¬ nm.toList = nm'.toList := fun h => hn (toList_inj h)
  have hn2 : (nm.toList == nm'.toList) = false := by rw [beq_eq_false_iff_ne]; exact hn1
  have HR : Hid (R = false) := Lib.hid (by rw [HEQ.out]; simp [hn])
  clear HEQ
  go_wp2
  go_ret
  exact ⟨by rw [HR.out]; rfl, hE1⟩
 subst hn
 by_cases hm : md = md'
 case neg =>
  have hm0 : (md != md') = true := by rw [bne_iff_ne]; exact hm
  have HR : Hid (R = false) := Lib.hid (by rw [HEQ.out]; simp [hm])
  clear HEQ
  go_wp2
  go_ret
  exact ⟨by rw [HR.out]; rfl, hE1⟩
 subst hm
 go_wp2_with fail
 refine (H1.out _ hE1).mono ?_
 rintro e w2 ⟨rfl, hN⟩
 have hE2 := hE1.trans hN
 have HL2 := Lib.hid (hN.keep HL1.out); have HM2 := Lib.hid (hN.keep HM1.out)
 clear hN HL1 HM1 H1 hE1 cX cY
 have cX := fun j => cell_of_row _ _ j _ _ _ HL2.out
 have cY := fun j => cell_of_row _ _ j _ _ _ HM2.out
 cases e1
 case false =>
  have HR : Hid (R = false) := Lib.hid (by rw [HEQ.out]; simp)
  clear HEQ
  go_wp2
  go_ret
  exact ⟨by rw [HR.out]; rfl, hE2⟩
 go_wp2_with fail
 refine (H2.out _ hE2).mono ?_
 rintro e w3 ⟨rfl, hN⟩
 have hE3 := hE2.trans hN
 have HL3 := Lib.hid (hN.keep HL2.out); have HM3 := Lib.hid (hN.keep HM2.out)
 clear hN HL2 HM2 H2 hE2 cX cY
 have cX := fun j => cell_of_row _ _ j _ _ _ HL3.out
 have cY := fun j => cell_of_row _ _ j _ _ _ HM3.out
 cases e2
 case false =>
  have HR : Hid (R = false) := Lib.hid (by rw [HEQ.out]; simp)
  clear HEQ
  go_wp2
  go_ret
  exact ⟨by rw [HR.out]; rfl, hE3⟩
 go_wp2_with fail
 refine (H3.out _ hE3).mono ?_
 rintro e w4 ⟨rfl, hN⟩
 have hE4 := hE3.trans hN
 have HL4 := Lib.hid (hN.keep HL3.out); have HM4 := Lib.hid (hN.keep HM3.out)
 clear hN HL3 HM3 H3 hE3 cX cY
 have cX := fun j => cell_of_row _ _ j _ _ _ HL4.out
 have cY := fun j => cell_of_row _ _ j _ _ _ HM4.out
 cases e3
 case false =>
  have HR : Hid (R = false) := Lib.hid (by rw [HEQ.out]; simp)
  clear HEQ
  go_wp2
  go_ret
  exact ⟨by rw [HR.out]; rfl, hE4⟩
 have HEQ2 : Hid (R = eqOL X Y) := Lib.hid (by rw [HEQ.out]; simp)
 clear HEQ
 by_cases hNN : N4 = N4'
 case neg =>
  have h0 : ((N4 : Int) != (N4' : Int)) = true := by rw [bne_iff_ne]; omega
  have HR : Hid (R = false) := Lib.hid (by rw [HEQ2.out]; cases h : eqOL X Y with | false => rfl | true => exact absurd (by rw [← HN4.out, ← HN4'.out]; exact eqOL_len h) hNN)
  clear HEQ2
  go_wp2
  go_ret
  exact ⟨by rw [HR.out]; rfl, hE4⟩
 subst hNN
 have hnn : ((N4 : Int) != (N4 : Int)) = false := by simp
 go_wp2
 refine wp_loop (fun a W => ∃ (k : Nat), k ≤ N4 ∧ a.defers = [] ∧ (a.tmps.size = 69 ∧ a.tmps.getD 2 undef = .pointer (some ⟨B, 0, none⟩) ∧ a.tmps.getD 3 undef = .pointer (some ⟨B + 1, 0, none⟩) ∧ a.tmps.getD 5 undef = .int .i64 k) ∧ eqOL (X.drop k) (Y.drop k) = eqOL X Y ∧ Ext w4 W)
  (fun a _ => N4 - (intOf (a.tmps.getD 5 undef)).toNat) ?_ ?_
 ·exact ⟨0, by omega, rfl, ⟨rfl, rfl, rfl, rfl⟩, rfl, Turn.refl _ _⟩
 rintro ⟨t, _⟩ W ⟨k, hk, hds, ⟨hsz, f2, f3, f5⟩, hall, hE⟩
 subst hds
 obtain ⟨u', hu⟩ := frame_fun hsz
 obtain ⟨u, rfl⟩ : ∃ x, x = u' := ⟨_, rfl⟩
 have hu' : t = #[u 0, u 1, u 2, u 3, u 4, u 5, u 6, u 7, u 8, u 9, u 10, u 11, u 12, u 13, u 14, u 15, u 16, u 17, u 18, u 19, u 20, u 21, u 22, u 23, u 24, u 25, u 26, u 27, u 28, u 29, u 30, u 31, u 32, u 33, u 34, u 35, u 36, u 37, u 38, u 39, u 40, u 41, u 42, u 43, u 44, u 45, u 46, u 47, u 48, u 49, u 50, u 51, u 52, u 53, u 54, u 55, u 56, u 57, u 58, u 59, u 60, u 61, u 62, u 63, u 64, u 65, u 66, u 67, u 68] := hu
 clear hu
 subst hu'
 change u 2 = _ at f2
 change u 3 = _ at f3
 change u 5 = _ at f5
 rw [f2, f3, f5]
 clear f2 f3 f5 hsz
 have HALL := Lib.hid hall
 have HLW := hE.keep HL4.out
 have HMW := hE.keep HM4.out
 clear hall cX cY
 have cX := cell_of_row _ _ 16 _ _ _ HLW
 have cY := cell_of_row _ _ 16 _ _ _ HMW
 clear HLW HMW
 by_cases hkN : k < N4
 ·have h1 : (k : Int) < (N4 : Int) := by omega
  have hkl : k < X.length := by rw [HN4.out]; exact hkN
  have hkr : k < Y.length := by rw [HN4'.out]; exact hkN
  obtain ⟨g, off, c, hq, hg, hok, c0, c1, c2, c3, c4, c5⟩ := ((HOU.out.ext hE4).ext hE).at hkl
  simp only [Value.slice.injEq] at hq
  obtain ⟨rfl, hz, rfl⟩ := hq
  clear hz hok
  obtain ⟨g', off', c', hq, hg', hok, d0, d1, d2, d3, d4, d5⟩ := ((HOU'.out.ext hE4).ext hE).at hkr
  simp only [Value.slice.injEq] at hq
  obtain ⟨rfl, hz, rfl⟩ := hq
  clear hz hok
  have hd := eqOL_drop hkl hkr
  rw [HALL.out] at hd
  have he := eqO_int X[k] Y[k]
  obtain ⟨x, hx⟩ : ∃ x, X[k] = x := ⟨_, rfl⟩
  obtain ⟨y, hy⟩ : ∃ x, Y[k] = x := ⟨_, rfl⟩
  rw [hx] at c0 c1 c2 c3 c4 c5 hd he
  rw [hy] at d0 d1 d2 d3 d4 d5 hd he
  clear hx hy
  obtain ⟨lb, hlb⟩ : ∃ b, eqO x y = b := ⟨_, rfl⟩
  rw [hlb] at hd he
  have HD := Lib.hid hd; have HEI := Lib.hid he
  clear hd he hlb
  obtain ⟨xf, xc, ⟨xa, xb⟩, xt, xo⟩ := x
  obtain ⟨yf, yc, ⟨ya, yb⟩, yt, yo⟩ := y
  dsimp only at c0 c1 c2 c3 c4 c5 d0 d1 d2 d3 d4 d5 HEI
  by_cases ef : xf = yf
  case neg =>
   have hb1 : ¬ xf = yf := by omega
   have hb2 : (xf == yf) = false := by simp; omega
   have hlb : lb = false := by rw [HEI.out]; simp [hb2]
   subst hlb
   clear HEI
   have HR : Hid (R = false) := Lib.hid (by rw [HEQ2.out, HD.out, Bool.false_and])
   clear HD HEQ2
   have hE5 := hE4.trans hE
   go_wp2
   go_quiet (fail)
   go_wp2
   go_ret
   exact ⟨by rw [HR.out]; rfl, hE5.drewN _⟩
  subst ef
  by_cases ec : xc = yc
  case neg =>
   have hb1 : ¬ (xc : Int) = (yc : Int) := by omega
   have hb2 : ((xc : Int) == (yc : Int)) = false := by simp; omega
   have hlb : lb = false := by rw [HEI.out]; simp [hb2]
   subst hlb
   clear HEI
   have HR : Hid (R = false) := Lib.hid (by rw [HEQ2.out, HD.out, Bool.false_and])
   clear HD HEQ2
   have hE5 := hE4.trans hE
   go_wp2
   go_quiet (fail)
   go_wp2
   go_ret
   exact ⟨by rw [HR.out]; rfl, hE5.drewN _⟩
  subst ec
  by_cases ea : xa = ya
  case neg =>
   have hb1 : ¬ (xa : Int) = (ya : Int) := by omega
   have hb2 : ((xa : Int) == (ya : Int)) = false := by simp; omega
   have hlb : lb = false := by rw [HEI.out]; simp [hb2]
   subst hlb
   clear HEI
   have HR : Hid (R = false) := Lib.hid (by rw [HEQ2.out, HD.out, Bool.false_and])
   clear HD HEQ2
   have hE5 := hE4.trans hE
   go_wp2
   go_quiet (fail)
   go_wp2
   go_ret
   exact ⟨by rw [HR.out]; rfl, hE5.drewN _⟩
  subst ea
  by_cases eb : xb = yb
  case neg =>
   have hb1 : ¬ (xb : Int) = (yb : Int) := by omega
   have hb2 : ((xb : Int) == (yb : Int)) = false := by simp; omega
   have hlb : lb = false := by rw [HEI.out]; simp [hb2]
   subst hlb
   clear HEI
   have HR : Hid (R = false) := Lib.hid (by rw [HEQ2.out, HD.out, Bool.false_and])
   clear HD HEQ2
   have hE5 := hE4.trans hE
   go_wp2
   go_quiet (fail)
   go_wp2
   go_ret
   exact ⟨by rw [HR.out]; rfl, hE5.drewN _⟩
  subst eb
  by_cases et : xt = yt
  case neg =>
   have hb1 : ¬ (xt : Int) = (yt : Int) := by omega
   have hb2 : ((xt : Int) == (yt : Int)) = false := by simp; omega
   have hlb : lb = false := by rw [HEI.out]; simp [hb2]
   subst hlb
   clear HEI
   have HR : Hid (R = false) := Lib.hid (by rw [HEQ2.out, HD.out, Bool.false_and])
   clear HD HEQ2
   have hE5 := hE4.trans hE
   go_wp2
   go_quiet (fail)
   go_wp2
   go_ret
   exact ⟨by rw [HR.out]; rfl, hE5.drewN _⟩
  subst et
  by_cases eo : xo = yo
  case neg =>
   have hb1 : ¬ xo = yo := by omega
   have hb2 : (xo == yo) = false := by simp; omega
   have hlb : lb = false := by rw [HEI.out]; simp [hb2]
   subst hlb
   clear HEI
   have HR : Hid (R = false) := Lib.hid (by rw [HEQ2.out, HD.out, Bool.false_and])
   clear HD HEQ2
   have hE5 := hE4.trans hE
   go_wp2
   go_quiet (fail)
   go_wp2
   go_ret
   exact ⟨by rw [HR.out]; rfl, hE5.drewN _⟩
  subst eo
  have hlb : lb = true := by rw [HEI.out]; simp
  subst hlb
  clear HEI
  have hd : eqOL (X.drop (k + 1)) (Y.drop (k + 1)) = eqOL X Y := by rw [HD.out, Bool.true_and]
  have HD2 := Lib.hid hd
  clear hd HD
  have hwk : IntKind.i64.wrap ((k : Int) + 1) = (k : Int) + 1 := IntWalk.i64_in _ (by omega)
  go_wp2
  go_quiet (fail)
  go_wp2
  exact ⟨⟨k + 1, by omega, by first | rfl | trivial, ⟨rfl, rfl, rfl, rfl⟩, HD2.out, hE.drewN _⟩, by simp [intOf]; omega⟩
 ·obtain rfl : k = N4 := by omega
  have h1 : ¬ (k : Int) < (k : Int) := by omega
  have HR : Hid (R = true) := Lib.hid (by rw [HEQ2.out, ← HALL.out, List.drop_of_length_le (by rw [HN4.out]; exact Nat.le_refl _), List.drop_of_length_le (by rw [HN4'.out]; exact Nat.le_refl _)]; exact eqOL_nil)
  clear HEQ2 HALL
  have HEND := Lib.hid (hE4.trans hE)
  clear hE hE4
  go_wp2
  go_ret
  exact ⟨by rw [HR.out]; rfl, HEND.out⟩
end Go.Proofs.YtedhogbocifipaaGreatDoor
