/- law.Equal (printed by genlequal.py). -/
import Derived.Test.YtedhogbocifipaaGreatDoorEqO
import Derived.Test.YtedhogbocifipaaGreatDoorEqual
import Derived.Test.YtedhogbocifipaaGreatDoorGa20
set_option maxRecDepth 100000
set_option maxHeartbeats 16000000
namespace Go.Proofs.YtedhogbocifipaaGreatDoor
open Go.RowKit Go.Ab
attribute [local go_sem] Oper.semAt_some wide_fn wide_depth

theorem lequal_any {w : World} {a b : LawD} {cs ds : List Value} (ha : LawAt w a cs) (hb : LawAt w b ds) (hT : Tab w) :
  Calls Tryz.prog 34 #[.agg cs.toArray, .agg ds.toArray] w fun e w' => e = .returned (.bool (eqL a b)) ∧ Ext w w' := by
 obtain ⟨nm, k1, p1, m1, n1, a1, b1, o1, N1, c1, k2, p2, m2, n2, a2, b2, o2, N2, c2, io, N3, ic, oo, N4, oc, md, rfl, HLA, HPL, HPR, HIF, HOU, HNM, HN1, HN2, HN3, HN4, HMD, q0, q1, q2, q3, q4⟩ := law_gen ha
 obtain ⟨nm', k1', p1', m1', n1', a1', b1', o1', N1', c1', k2', p2', m2', n2', a2', b2', o2', N2', c2', io', N3', ic', oo', N4', oc', md', rfl, HLA', HPL', HPR', HIF', HOU', HNM', HN1', HN2', HN3', HN4', HMD', q0', q1', q2', q3', q4'⟩ := law_gen hb
 have h1 := fun (V : World) (hE : Ext w V) => equal_any (HPL.out.ext hE) (HPL'.out.ext hE) (fun g hg => Nat.lt_of_lt_of_le hg hE.size) (hT.keep hE id)
 have h2 := fun (V : World) (hE : Ext w V) => equal_any (HPR.out.ext hE) (HPR'.out.ext hE) (fun g hg => Nat.lt_of_lt_of_le hg hE.size) (hT.keep hE id)
 have h3 := fun (V : World) (hE : Ext w V) => sleqW (HIF.out.ext hE) (HIF'.out.ext hE)
 have h4 := fun (V : World) (hE : Ext w V) => eqouts_any (HOU.out.ext hE) (HOU'.out.ext hE)
 have HEQ : Hid (eqL a b = (decide (nm = nm') && decide (md = md') && equalV a.left b.left && equalV a.right b.right && decide (a.ifs = b.ifs) && eqOL a.outs b.outs)) := Lib.hid (by unfold eqL; rw [HNM.out, HNM'.out, HMD.out, HMD'.out])
 obtain ⟨R, hq⟩ : ∃ x, eqL a b = x := ⟨_, rfl⟩
 rw [hq] at HEQ ⊢
 clear hq
 obtain ⟨e1, hq⟩ : ∃ x, equalV a.left b.left = x := ⟨_, rfl⟩
 rw [hq] at HEQ
 simp only [hq] at h1
 clear hq
 obtain ⟨e2, hq⟩ : ∃ x, equalV a.right b.right = x := ⟨_, rfl⟩
 rw [hq] at HEQ
 simp only [hq] at h2
 clear hq
 obtain ⟨e3, hq⟩ : ∃ x, decide (a.ifs = b.ifs) = x := ⟨_, rfl⟩
 rw [hq] at HEQ
 simp only [hq] at h3
 clear hq
 obtain ⟨e4, hq⟩ : ∃ x, eqOL a.outs b.outs = x := ⟨_, rfl⟩
 rw [hq] at HEQ
 simp only [hq] at h4
 clear hq
 have H1 := Lib.hid h1; have H2 := Lib.hid h2; have H3 := Lib.hid h3; have H4 := Lib.hid h4
 clear h1 h2 h3 h4 ha hb hT HLA HPL HPR HIF HOU HNM HN1 HN2 HN3 HN4 HMD HLA' HPL' HPR' HIF' HOU' HNM' HN1' HN2' HN3' HN4' HMD'
 obtain ⟨w1, hw1⟩ : ∃ D, (w.alloc (.cells #[.string nm, .int .i64 k1, .int .u32 (p1 : Int), .int .u32 (m1 : Int), .bool n1, .int .i64 a1, .int .i64 b1, .slice o1 N1 c1, .int .i64 k2, .int .u32 (p2 : Int), .int .u32 (m2 : Int), .bool n2, .int .i64 a2, .int .i64 b2, .slice o2 N2 c2, .slice io N3 ic, .slice oo N4 oc, .int .i64 md] 31)).alloc (.cells #[.string nm', .int .i64 k1', .int .u32 (p1' : Int), .int .u32 (m1' : Int), .bool n1', .int .i64 a1', .int .i64 b1', .slice o1' N1' c1', .int .i64 k2', .int .u32 (p2' : Int), .int .u32 (m2' : Int), .bool n2', .int .i64 a2', .int .i64 b2', .slice o2' N2' c2', .slice io' N3' ic', .slice oo' N4' oc', .int .i64 md'] 31) = D := ⟨_, rfl⟩
 have hE1 : Ext w w1 := by rw [← hw1]; exact ((Turn.refl _ w).alloc _).alloc _
 have hl1 : w1.heap[w.heap.size]? = some (.cells #[.string nm, .int .i64 k1, .int .u32 (p1 : Int), .int .u32 (m1 : Int), .bool n1, .int .i64 a1, .int .i64 b1, .slice o1 N1 c1, .int .i64 k2, .int .u32 (p2 : Int), .int .u32 (m2 : Int), .bool n2, .int .i64 a2, .int .i64 b2, .slice o2 N2 c2, .slice io N3 ic, .slice oo N4 oc, .int .i64 md] 31 (0, 0)) := by rw [← hw1]; exact new_keep (new_at rfl)
 have hm1 : w1.heap[w.heap.size + 1]? = some (.cells #[.string nm', .int .i64 k1', .int .u32 (p1' : Int), .int .u32 (m1' : Int), .bool n1', .int .i64 a1', .int .i64 b1', .slice o1' N1' c1', .int .i64 k2', .int .u32 (p2' : Int), .int .u32 (m2' : Int), .bool n2', .int .i64 a2', .int .i64 b2', .slice o2' N2' c2', .slice io' N3' ic', .slice oo' N4' oc', .int .i64 md'] 31 (0, 0)) := by rw [← hw1]; exact new_at (by simp)
 go_enter Tryz.func34, Tryz.ntmps34
 go_upto_region 1 with (fail)
 try rw [hw1]
 obtain ⟨B, hB⟩ : ∃ b, w.heap.size = b := ⟨_, rfl⟩
 rw [hB] at hl1 hm1 ⊢
 have HL1 := Lib.hid hl1; have HM1 := Lib.hid hm1
 clear hw1 hl1 hm1 hB
 have cX := fun j => cell_of_row _ _ j _ _ _ HL1.out
 have cY := fun j => cell_of_row _ _ j _ _ _ HM1.out
 by_cases hn : nm = nm'
 case neg =>
  have hn0 : decide (nm = nm') = false := decide_eq_false hn
  have hn1 : ¬ nm.toList = nm'.toList := fun h => hn (toList_inj h)
  have hn2 : (nm.toList == nm'.toList) = false := by rw [beq_eq_false_iff_ne]; exact hn1
  have HR : Hid (R = false) := Lib.hid (by rw [HEQ.out]; simp [hn])
  clear HEQ
  go_wp2
  go_ret
  exact ⟨by rw [HR.out]; rfl, hE1⟩
 subst hn
 by_cases hm : md = md'
 case neg =>
  have hm0 : (md == md') = false := by rw [beq_eq_false_iff_ne]; exact hm
  have HR : Hid (R = false) := Lib.hid (by rw [HEQ.out]; simp [hm])
  clear HEQ
  go_wp2
  go_ret
  exact ⟨by rw [HR.out]; rfl, hE1⟩
 subst hm
 go_wp2_with fail
 refine (H1.out _ hE1).mono ?_
 rintro e w2 ⟨rfl, hN⟩
 have hE2 := hE1.trans hN
 have HL2 := Lib.hid (hN.keep HL1.out); have HM2 := Lib.hid (hN.keep HM1.out)
 clear hN HL1 HM1 H1 hE1 cX cY
 have cX := fun j => cell_of_row _ _ j _ _ _ HL2.out
 have cY := fun j => cell_of_row _ _ j _ _ _ HM2.out
 cases e1
 case false =>
  have HR : Hid (R = false) := Lib.hid (by rw [HEQ.out]; simp)
  clear HEQ
  go_wp2
  go_ret
  exact ⟨by rw [HR.out]; rfl, hE2⟩
 go_wp2_with fail
 refine (H2.out _ hE2).mono ?_
 rintro e w3 ⟨rfl, hN⟩
 have hE3 := hE2.trans hN
 have HL3 := Lib.hid (hN.keep HL2.out); have HM3 := Lib.hid (hN.keep HM2.out)
 clear hN HL2 HM2 H2 hE2 cX cY
 have cX := fun j => cell_of_row _ _ j _ _ _ HL3.out
 have cY := fun j => cell_of_row _ _ j _ _ _ HM3.out
 cases e2
 case false =>
  have HR : Hid (R = false) := Lib.hid (by rw [HEQ.out]; simp)
  clear HEQ
  go_wp2
  go_ret
  exact ⟨by rw [HR.out]; rfl, hE3⟩
 go_wp2_with fail
 refine (H3.out _ hE3).mono ?_
 rintro e w4 ⟨rfl, hN⟩
 have hE4 := hE3.trans hN
 have HL4 := Lib.hid (hN.keep HL3.out); have HM4 := Lib.hid (hN.keep HM3.out)
 clear hN HL3 HM3 H3 hE3 cX cY
 have cX := fun j => cell_of_row _ _ j _ _ _ HL4.out
 have cY := fun j => cell_of_row _ _ j _ _ _ HM4.out
 cases e3
 case false =>
  have HR : Hid (R = false) := Lib.hid (by rw [HEQ.out]; simp)
  clear HEQ
  go_wp2
  go_ret
  exact ⟨by rw [HR.out]; rfl, hE4⟩
 go_wp2_with fail
 refine (H4.out _ hE4).mono ?_
 rintro e w5 ⟨rfl, hN⟩
 have hE5 := hE4.trans hN
 have HL5 := Lib.hid (hN.keep HL4.out); have HM5 := Lib.hid (hN.keep HM4.out)
 clear hN HL4 HM4 H4 hE4 cX cY
 have cX := fun j => cell_of_row _ _ j _ _ _ HL5.out
 have cY := fun j => cell_of_row _ _ j _ _ _ HM5.out
 have HR : Hid (R = e4) := Lib.hid (by rw [HEQ.out]; simp)
 clear HEQ
 go_wp2
 go_ret
 exact ⟨by rw [HR.out]; rfl, hE5⟩
end Go.Proofs.YtedhogbocifipaaGreatDoor
