/- ablautlaw08.mirror (printed by genlmirror.py). -/
import Derived.Test.YtedhogbocifipaaGreatDoorReversed
import Derived.Test.YtedhogbocifipaaGreatDoorRowSet
import Derived.Test.YtedhogbocifipaaGreatDoorMirLaw2
import Derived.Test.YtedhogbocifipaaGreatDoorMirP
import Derived.Test.YtedhogbocifipaaGreatDoorGa20
import Derived.Test.YtedhogbocifipaaGreatDoorGa00
set_option maxRecDepth 100000
set_option maxHeartbeats 16000000
namespace Go.Proofs.YtedhogbocifipaaGreatDoor
open Go.RowKit Go.Ab
attribute [local go_sem] Oper.semAt_some wide_fn wide_depth

theorem pat_gen {K : Nat → Prop} {W : World} {p : Pat} {c : List Value} (h : PatAt K W p c) : ∃ (k : Int) (pl mi : Nat) (nt : Bool) (mn mx : Int) (ao : Option Addr) (n cap : Nat), c = [.int .i64 k, .int .u32 (pl : Int), .int .u32 (mi : Int), .bool nt, .int .i64 mn, .int .i64 mx, .slice ao n cap] := by
 obtain ⟨ao, cap, hc, _⟩ := patAt_cells h
 exact ⟨_, _, _, _, _, _, ao, _, cap, hc⟩
theorem sep_at {T : TypeId} {w : World} : ∀ {p : Pat} {cs : List Value} {K : Nat → Prop}, PatSep T w p cs K → PatAt K w p cs := by
 intro p cs K h
 induction h with
 | @mk k pl mi nt mn mx l ao cap K xs Ks hpl hmi hO hg hs hd hc ih =>
  unfold PatAt
  obtain ⟨h1, h2⟩ := own_len hO
  refine ⟨ao, cap, rfl, hpl, hmi, h1, h2, PatsAt.mk fun j hj => ?_⟩
  obtain ⟨g, rfl⟩ := own_some hO (by omega)
  refine ⟨g, 0, chunk xs j, rfl, (hg g rfl).1, (hO.lt g rfl).2, by rw [Nat.zero_add, Nat.zero_add]; exact own_chunk hO j, PatAt.mono (fun b hb => hs j b hj hb) (ih j hj)⟩
theorem outL_app (a b : List OutD) : outL (a ++ b) = outL a ++ outL b := by simp [outL]
theorem infoO : (Tryz.prog.info? 62).map (fun i => (i.zero, i.size, i.bytes)) = some (some (.agg #[.int .i64 0, .int .u32 0, .int .u32 0, .int .u32 0, .int .u32 0, .int .i64 0]), 6, 32) := by kernel_rfl
theorem infoO6 : (Tryz.prog.info? 62).map (·.size) = some 6 := by kernel_rfl
theorem mirs_take {l : List OutD} {k : Nat} (n : Nat) (h : k < l.length) : ((l.map (mirOut n)).reverse).take (k + 1) = ((l.map (mirOut n)).reverse).take k ++ [mirOut n (l[l.length - 1 - k]'(by omega))] := by
 rw [List.take_succ_eq_append_getElem (by rw [List.length_reverse, List.length_map]; exact h), List.getElem_reverse, List.getElem_map]
 simp only [List.length_map]
theorem outL_one (x : OutD) : ∀ v ∈ outCells x, v.oneCell' = true := by
 intro v hv
 unfold outCells at hv
 simp only [List.mem_cons, List.not_mem_nil, or_false] at hv
 rcases hv with rfl | rfl | rfl | rfl | rfl | rfl <;> rfl
theorem mirOut_ok {n : Nat} {x : OutD} (h : OutOk x) : OutOk (mirOut n x) := h
theorem law_result {fn : Func} {p : Tmp} (h : fn.results = #[.cell p 31]) {tmps : Array Value} {w : World} {g : Nat} {cs : Array Value} (hp : tmps.getD p undef = .pointer (some ⟨g, 0, none⟩)) (hg : w.heap[g]? = some (.cells cs 31 (0, 0))) (hs : cs.size = 18) :
  (results fn tmps).run Tryz.prog w = .ok (.agg cs) w := by
 have hp' : tmps[p]?.getD undef = .pointer (some ⟨g, 0, none⟩) := by simpa using hp
 simp [results, h, hp', asAddr, run_loadVar_row w g _ _ _ _ _ hg Tryz.underlying31 rfl (by rw [hs]; exact Tryz.lawInfo)]

theorem lmirror_any {w : World} {l : LawD} {cs : List Value} (hl : LawAt w l cs) (hlaw : lawB l = true) (hT : Tab w) :
  Calls Tryz.prog 32 #[.agg cs.toArray] w fun e w' => ∃ ds : List Value, e = .returned (.agg ds.toArray) ∧ LawAt w' (mirLaw l) ds ∧ Ext w w' := by
 obtain ⟨hk4, hm6, hkm, _, hfits, hcl, hcr, _⟩ := lawB_parts hlaw
 obtain ⟨nm, k1, p1, m1, n1, a1, b1, o1, N1, c1, k2, p2, m2, n2, a2, b2, o2, N2, c2, io, N3, ic, oo, N4, oc, md, rfl, HLA, HPL, HPR, HIF, HOU, HNM, HN1, HN2, HN3, HN4, HMD, q0, q1, q2, q3, q4⟩ := law_gen hl
 have hm1 := fun (V : World) (hE : Ext w V) => mirror_any (HPR.out.ext hE) (fun g hg => Nat.lt_of_lt_of_le hg hE.size) (hT.keep hE id)
 have hm2 := fun (V : World) (hE : Ext w V) => mirror_any (HPL.out.ext hE) (fun g hg => Nat.lt_of_lt_of_le hg hE.size) (hT.keep hE id)
 have hrv := fun (V : World) (hE : Ext w V) => reversed_any (HIF.out.ext hE) HN3.out (by rw [HN3.out] at hk4; omega)
 rw [HN3.out] at hk4
 rw [HN4.out] at hm6
 simp only [hcr] at hm1
 simp only [hcl] at hm2
 have HM1 := Lib.hid hm1; have HM2 := Lib.hid hm2; have HRV := Lib.hid hrv; have HFI := Lib.hid hfits; have HCL := Lib.hid hcl; have HCR := Lib.hid hcr
 clear hl hlaw hT hm1 hm2 hrv hfits hcl hcr hkm HLA
 go_enter Tryz.func32, Tryz.ntmps32
 go_upto_region 1 with (fail)
 obtain ⟨w1, hw1⟩ : ∃ D, (w.alloc (.cells #[.string nm, .int .i64 k1, .int .u32 (p1 : Int), .int .u32 (m1 : Int), .bool n1, .int .i64 a1, .int .i64 b1, .slice o1 N1 c1, .int .i64 k2, .int .u32 (p2 : Int), .int .u32 (m2 : Int), .bool n2, .int .i64 a2, .int .i64 b2, .slice o2 N2 c2, .slice io N3 ic, .slice oo N4 oc, .int .i64 md] 31)).alloc (.cells #[.string ⟨#[]⟩, .int .i64 0, .int .u32 0, .int .u32 0, .bool false, .int .i64 0, .int .i64 0, .slice none 0 0, .int .i64 0, .int .u32 0, .int .u32 0, .bool false, .int .i64 0, .int .i64 0, .slice none 0 0, .slice none 0 0, .slice none 0 0, .int .i64 0] 31) = D := ⟨_, rfl⟩
 have hE1 : Ext w w1 := by rw [← hw1]; exact ((Turn.refl _ w).alloc _).alloc _
 have hl1 : w1.heap[w.heap.size]? = some (.cells #[.string nm, .int .i64 k1, .int .u32 (p1 : Int), .int .u32 (m1 : Int), .bool n1, .int .i64 a1, .int .i64 b1, .slice o1 N1 c1, .int .i64 k2, .int .u32 (p2 : Int), .int .u32 (m2 : Int), .bool n2, .int .i64 a2, .int .i64 b2, .slice o2 N2 c2, .slice io N3 ic, .slice oo N4 oc, .int .i64 md] 31 (0, 0)) := by rw [← hw1]; exact new_keep (new_at rfl)
 have hz1 : w1.heap[w.heap.size + 1]? = some (.cells #[.string ⟨#[]⟩, .int .i64 0, .int .u32 0, .int .u32 0, .bool false, .int .i64 0, .int .i64 0, .slice none 0 0, .int .i64 0, .int .u32 0, .int .u32 0, .bool false, .int .i64 0, .int .i64 0, .slice none 0 0, .slice none 0 0, .slice none 0 0, .int .i64 0] 31 (0, 0)) := by rw [← hw1]; exact new_at (by simp)
 have hs1 : w1.heap.size = w.heap.size + 2 := by rw [← hw1]; simp
 rw [hw1]
 obtain ⟨B, hB⟩ : ∃ b, w.heap.size = b := ⟨_, rfl⟩
 rw [hB] at hl1 hz1 hs1 ⊢
 have HL1 := Lib.hid hl1; have HZ1 := Lib.hid hz1; have HB := Lib.hid hB; have HS1 := Lib.hid hs1
 clear hw1 hl1 hz1 hs1 hB
 have hn2 : (w1.alloc (.cells #[.string ⟨#[]⟩, .int .i64 0, .int .u32 0, .int .u32 0, .bool false, .int .i64 0, .int .i64 0, .slice none 0 0, .int .i64 0, .int .u32 0, .int .u32 0, .bool false, .int .i64 0, .int .i64 0, .slice none 0 0, .slice none 0 0, .slice none 0 0, .int .i64 0] 31)).heap[B + 2]? = some (.cells #[.string ⟨#[]⟩, .int .i64 0, .int .u32 0, .int .u32 0, .bool false, .int .i64 0, .int .i64 0, .slice none 0 0, .int .i64 0, .int .u32 0, .int .u32 0, .bool false, .int .i64 0, .int .i64 0, .slice none 0 0, .slice none 0 0, .slice none 0 0, .int .i64 0] 31 (0, 0)) := new_at HS1.out.symm
 have HNZ := Lib.hid hn2
 clear hn2
 obtain ⟨w2, hw2⟩ : ∃ D, (w1.alloc (.cells #[.string ⟨#[]⟩, .int .i64 0, .int .u32 0, .int .u32 0, .bool false, .int .i64 0, .int .i64 0, .slice none 0 0, .int .i64 0, .int .u32 0, .int .u32 0, .bool false, .int .i64 0, .int .i64 0, .slice none 0 0, .slice none 0 0, .slice none 0 0, .int .i64 0] 31)).setRow (B + 2) #[.string nm, .int .i64 k1, .int .u32 (p1 : Int), .int .u32 (m1 : Int), .bool n1, .int .i64 a1, .int .i64 b1, .slice o1 N1 c1, .int .i64 k2, .int .u32 (p2 : Int), .int .u32 (m2 : Int), .bool n2, .int .i64 a2, .int .i64 b2, .slice o2 N2 c2, .slice io N3 ic, .slice oo N4 oc, .int .i64 md] = D := ⟨_, rfl⟩
 have hT2 := Turn.setRow (w1.alloc (.cells #[.string ⟨#[]⟩, .int .i64 0, .int .u32 0, .int .u32 0, .bool false, .int .i64 0, .int .i64 0, .slice none 0 0, .int .i64 0, .int .u32 0, .int .u32 0, .bool false, .int .i64 0, .int .i64 0, .slice none 0 0, .slice none 0 0, .slice none 0 0, .int .i64 0] 31)) (B + 2) #[.string nm, .int .i64 k1, .int .u32 (p1 : Int), .int .u32 (m1 : Int), .bool n1, .int .i64 a1, .int .i64 b1, .slice o1 N1 c1, .int .i64 k2, .int .u32 (p2 : Int), .int .u32 (m2 : Int), .bool n2, .int .i64 a2, .int .i64 b2, .slice o2 N2 c2, .slice io N3 ic, .slice oo N4 oc, .int .i64 md]
 have hx2 := setRow_heap _ _ _ #[.string nm, .int .i64 k1, .int .u32 (p1 : Int), .int .u32 (m1 : Int), .bool n1, .int .i64 a1, .int .i64 b1, .slice o1 N1 c1, .int .i64 k2, .int .u32 (p2 : Int), .int .u32 (m2 : Int), .bool n2, .int .i64 a2, .int .i64 b2, .slice o2 N2 c2, .slice io N3 ic, .slice oo N4 oc, .int .i64 md] _ _ HNZ.out
 rw [hw2] at hT2 hx2
 have hE2 : Ext w w2 := Turn.after (hE1.alloc _) hT2 (fun b hb e => by have := HB.out; omega)
 have hl2 := hT2.heap (new_keep HL1.out) (by omega)
 have hz2 := hT2.heap (new_keep HZ1.out) (by omega)
 have hs2 : B + 3 ≤ w2.heap.size := by have h1 := hT2.size; have h2 : (w1.alloc (.cells #[.string ⟨#[]⟩, .int .i64 0, .int .u32 0, .int .u32 0, .bool false, .int .i64 0, .int .i64 0, .slice none 0 0, .int .i64 0, .int .u32 0, .int .u32 0, .bool false, .int .i64 0, .int .i64 0, .slice none 0 0, .slice none 0 0, .slice none 0 0, .int .i64 0] 31)).heap.size = w1.heap.size + 1 := (by simp); have := HS1.out; omega
 have HW2 := Lib.hid hw2; have HL2 := Lib.hid hl2; have HZ2 := Lib.hid hz2; have HX2 := Lib.hid hx2
 clear hw2 hl2 hz2 hx2 hT2
 have hs1 := HS1.out
 go_upto_region 2 with (first | (refine wpList_load_row rfl 31 (.tmp 1) rfl B rfl _ _ _ _ HL1.out Tryz.underlying31 rfl Tryz.lawInfo ?_) | (refine wpList_store_row rfl 31 (.tmp 3) (.tmp 7) rfl (B + 2) #[.string nm, .int .i64 k1, .int .u32 (p1 : Int), .int .u32 (m1 : Int), .bool n1, .int .i64 a1, .int .i64 b1, .slice o1 N1 c1, .int .i64 k2, .int .u32 (p2 : Int), .int .u32 (m2 : Int), .bool n2, .int .i64 a2, .int .i64 b2, .slice o2 N2 c2, .slice io N3 ic, .slice oo N4 oc, .int .i64 md] rfl rfl _ _ HNZ.out (by kernel_rfl) rfl (by kernel_rfl) ?_; rw [HW2.out]))
 clear HW2 HNZ HL1 HZ1 hE1 HS1 hs1
 have cX := fun j => cell_of_row _ _ j _ _ _ HL2.out
 go_wp2_with fail
 refine (HM1.out _ hE2).mono ?_
 rintro e w3 ⟨ds, rfl, hds, _, hN⟩
 have hE3 := hE2.trans hN
 have HS1 := Lib.hid (hds trivial)
 clear hds
 obtain ⟨x1, y1, z1, r1, s1, t1, g1, M1, cc1, rfl⟩ := pat_gen (sep_at HS1.out)
 have HL3 := Lib.hid (hN.keep HL2.out); have HZ3 := Lib.hid (hN.keep HZ2.out); have HX3 := Lib.hid (hN.keep HX2.out)
 have hs3 : B + 3 ≤ w3.heap.size := Nat.le_trans hs2 hN.size
 have HNN1 := Lib.hid hN
 clear hN cX HL2 HZ2 HX2 hE2 HM1
 obtain ⟨w4, hw⟩ : ∃ D, w3.setCells (B + 2) 1 (#[.int .i64 x1, .int .u32 (y1 : Int), .int .u32 (z1 : Int), .bool r1, .int .i64 s1, .int .i64 t1, .slice g1 M1 cc1] : Array Value).toList = D := ⟨_, rfl⟩
 have hT := Turn.setCells w3 (B + 2) (#[.int .i64 x1, .int .u32 (y1 : Int), .int .u32 (z1 : Int), .bool r1, .int .i64 s1, .int .i64 t1, .slice g1 M1 cc1] : Array Value).toList 1
 have hx : w4.heap[B + 2]? = some (.cells #[.string nm, .int .i64 x1, .int .u32 (y1 : Int), .int .u32 (z1 : Int), .bool r1, .int .i64 s1, .int .i64 t1, .slice g1 M1 cc1, .int .i64 k2, .int .u32 (p2 : Int), .int .u32 (m2 : Int), .bool n2, .int .i64 a2, .int .i64 b2, .slice o2 N2 c2, .slice io N3 ic, .slice oo N4 oc, .int .i64 md] 31 (0, 0)) := by rw [← hw]; exact left_set HX3.out
 rw [hw] at hT
 have hE4 : Ext w w4 := Turn.after hE3 hT (fun b hb e => by have := HB.out; omega)
 have hl := hT.heap HL3.out (by omega)
 have hz := hT.heap HZ3.out (by omega)
 have hs4 : B + 3 ≤ w4.heap.size := Nat.le_trans hs3 hT.size
 have HW := Lib.hid hw; have HL4 := Lib.hid hl; have HZ4 := Lib.hid hz; have HX4 := Lib.hid hx; have HT1 := Lib.hid hT
 clear hw hl hz hx hT
 go_upto_region 3 with (refine wpList_store_mid rfl 27 (.tmp 14) (.tmp 12) rfl (B + 2) 1 #[.int .i64 x1, .int .u32 (y1 : Int), .int .u32 (z1 : Int), .bool r1, .int .i64 s1, .int .i64 t1, .slice g1 M1 cc1] rfl rfl (there_row HX3.out (by simp)) (by kernel_rfl) (by kernel_rfl) ?_; rw [HW.out])
 clear HW HL3 HZ3 HX3 hE3
 have cX := fun j => cell_of_row _ _ j _ _ _ HL4.out
 go_wp2_with fail
 refine (HM2.out _ hE4).mono ?_
 rintro e w5 ⟨ds, rfl, hds, _, hN⟩
 have hE5 := hE4.trans hN
 have HS2 := Lib.hid (hds trivial)
 clear hds
 obtain ⟨x2, y2, z2, r2, s2, t2, g2, M2, cc2, rfl⟩ := pat_gen (sep_at HS2.out)
 have HL5 := Lib.hid (hN.keep HL4.out); have HZ5 := Lib.hid (hN.keep HZ4.out); have HX5 := Lib.hid (hN.keep HX4.out)
 have hs5 : B + 3 ≤ w5.heap.size := Nat.le_trans hs4 hN.size
 have HNN2 := Lib.hid hN
 clear hN cX HL4 HZ4 HX4 hE4 HM2
 obtain ⟨w6, hw⟩ : ∃ D, w5.setCells (B + 2) 8 (#[.int .i64 x2, .int .u32 (y2 : Int), .int .u32 (z2 : Int), .bool r2, .int .i64 s2, .int .i64 t2, .slice g2 M2 cc2] : Array Value).toList = D := ⟨_, rfl⟩
 have hT := Turn.setCells w5 (B + 2) (#[.int .i64 x2, .int .u32 (y2 : Int), .int .u32 (z2 : Int), .bool r2, .int .i64 s2, .int .i64 t2, .slice g2 M2 cc2] : Array Value).toList 8
 have hx : w6.heap[B + 2]? = some (.cells #[.string nm, .int .i64 x1, .int .u32 (y1 : Int), .int .u32 (z1 : Int), .bool r1, .int .i64 s1, .int .i64 t1, .slice g1 M1 cc1, .int .i64 x2, .int .u32 (y2 : Int), .int .u32 (z2 : Int), .bool r2, .int .i64 s2, .int .i64 t2, .slice g2 M2 cc2, .slice io N3 ic, .slice oo N4 oc, .int .i64 md] 31 (0, 0)) := by rw [← hw]; exact right_set HX5.out
 rw [hw] at hT
 have hE6 : Ext w w6 := Turn.after hE5 hT (fun b hb e => by have := HB.out; omega)
 have hl := hT.heap HL5.out (by omega)
 have hz := hT.heap HZ5.out (by omega)
 have hs6 : B + 3 ≤ w6.heap.size := Nat.le_trans hs5 hT.size
 have HW := Lib.hid hw; have HL6 := Lib.hid hl; have HZ6 := Lib.hid hz; have HX6 := Lib.hid hx; have HT2 := Lib.hid hT
 clear hw hl hz hx hT
 go_upto_region 4 with (refine wpList_store_mid rfl 27 (.tmp 21) (.tmp 19) rfl (B + 2) 8 #[.int .i64 x2, .int .u32 (y2 : Int), .int .u32 (z2 : Int), .bool r2, .int .i64 s2, .int .i64 t2, .slice g2 M2 cc2] rfl rfl (there_row HX5.out (by simp)) (by kernel_rfl) (by kernel_rfl) ?_; rw [HW.out])
 clear HW HL5 HZ5 HX5 hE5
 have cX := cell_of_row _ _ 15 _ _ _ HL6.out
 go_wp2_with fail
 refine (HRV.out _ hE6).mono ?_
 rintro e w7 ⟨ro, rc, rfl, hO, hN⟩
 have hE7 := hE6.trans hN
 have HL7 := Lib.hid (hN.keep HL6.out); have HZ7 := Lib.hid (hN.keep HZ6.out); have HX7 := Lib.hid (hN.keep HX6.out)
 have hs7 : B + 3 ≤ w7.heap.size := Nat.le_trans hs6 hN.size
 have HO := Lib.hid hO; have HN67 := Lib.hid hN
 clear hN hO cX HL6 HZ6 HX6 hE6 HRV
 obtain ⟨w8, hw⟩ : ∃ D, w7.setCell ⟨B + 2, 15, none⟩ (.slice ro N3 rc) = D := ⟨_, rfl⟩
 have hT := Turn.set1 w7 (B + 2) 15 (.slice ro N3 rc)
 have hx : w8.heap[B + 2]? = some (.cells #[.string nm, .int .i64 x1, .int .u32 (y1 : Int), .int .u32 (z1 : Int), .bool r1, .int .i64 s1, .int .i64 t1, .slice g1 M1 cc1, .int .i64 x2, .int .u32 (y2 : Int), .int .u32 (z2 : Int), .bool r2, .int .i64 s2, .int .i64 t2, .slice g2 M2 cc2, .slice ro N3 rc, .slice oo N4 oc, .int .i64 md] 31 (0, 0)) := by rw [← hw]; exact ifs_set HX7.out
 rw [hw] at hT
 have hE8 : Ext w w8 := Turn.after hE7 hT (fun b hb e => by have := HB.out; omega)
 have hl := hT.heap HL7.out (by omega)
 have hz := hT.heap HZ7.out (by omega)
 have hs8 : B + 3 ≤ w8.heap.size := Nat.le_trans hs7 hT.size
 have HW := Lib.hid hw; have HL8 := Lib.hid hl; have HZ8 := Lib.hid hz; have HX8 := Lib.hid hx; have HT3 := Lib.hid hT
 clear hw hl hz hx hT
 have cS := cell_of_row _ _ 15 _ _ _ HX7.out
 have fS := froz_row HX7.out (o := 15) (by simp)
 go_upto_region 5 with (fail)
 rw [HW.out]
 clear HW cS fS HL7 HZ7 HX7 hE7
 obtain ⟨w9, hw⟩ : ∃ D, w8.setCell ⟨B + 2, 16, none⟩ (.slice none 0 0) = D := ⟨_, rfl⟩
 have hT := Turn.set1 w8 (B + 2) 16 (.slice none 0 0)
 have hx : w9.heap[B + 2]? = some (.cells #[.string nm, .int .i64 x1, .int .u32 (y1 : Int), .int .u32 (z1 : Int), .bool r1, .int .i64 s1, .int .i64 t1, .slice g1 M1 cc1, .int .i64 x2, .int .u32 (y2 : Int), .int .u32 (z2 : Int), .bool r2, .int .i64 s2, .int .i64 t2, .slice g2 M2 cc2, .slice ro N3 rc, .slice none 0 0, .int .i64 md] 31 (0, 0)) := by rw [← hw]; exact outs_set HX8.out
 rw [hw] at hT
 have hE9 : Ext w w9 := Turn.after hE8 hT (fun b hb e => by have := HB.out; omega)
 have hl := hT.heap HL8.out (by omega)
 have hz := hT.heap HZ8.out (by omega)
 have hs9 : B + 3 ≤ w9.heap.size := Nat.le_trans hs8 hT.size
 have HW := Lib.hid hw; have HL9 := Lib.hid hl; have HZ9 := Lib.hid hz; have HX9 := Lib.hid hx; have HT4 := Lib.hid hT
 clear hw hl hz hx hT
 have cS := cell_of_row _ _ 16 _ _ _ HX8.out
 have fS := froz_row HX8.out (o := 16) (by simp)
 go_upto_region 6 with (fail)
 rw [HW.out]
 clear HW cS fS HL8 HZ8 HX8 hE8
 have hT39 : Turn (fun b => b = B + 2) w3 w9 := HT1.out.trans ((Ext.of HNN2.out).trans (HT2.out.trans ((Ext.of HN67.out).trans (HT3.out.trans HT4.out))))
 have hT59 : Turn (fun b => b = B + 2) w5 w9 := HT2.out.trans ((Ext.of HN67.out).trans (HT3.out.trans HT4.out))
 have hT79 : Turn (fun b => b = B + 2) w7 w9 := HT3.out.trans HT4.out
 have HT39 := Lib.hid hT39; have HT59 := Lib.hid hT59; have HT79 := Lib.hid hT79
 clear hT39 hT59 hT79 HT1 HT2 HT3 HT4 HNN1 HNN2 HN67
 obtain ⟨S9, hS9⟩ : ∃ x, w9.heap.size = x := ⟨_, rfl⟩
 have HS9 := Lib.hid hS9
 rw [hS9] at hs9
 clear hS9
 have cX := fun j => cell_of_row _ _ j _ _ _ HL9.out
 have hw0 : IntKind.i64.wrap ((N4 : Int) - 1) = (N4 : Int) - 1 := IntWalk.i64_in _ (by omega)
 go_wp2
 clear hw0 cX
 refine wp_loop (fun a W => ∃ (k : Nat) (i : Int) (ao : Option Addr) (c : Nat), k ≤ N4 ∧ i = (N4 : Int) - 1 - (k : Int) ∧ a.defers = [] ∧ (a.tmps.size = 73 ∧ a.tmps.getD 1 undef = .pointer (some ⟨B, 0, none⟩) ∧ a.tmps.getD 2 undef = .pointer (some ⟨B + 1, 0, none⟩) ∧ a.tmps.getD 3 undef = .pointer (some ⟨B + 2, 0, none⟩) ∧ a.tmps.getD 4 undef = .int .i64 N3 ∧ a.tmps.getD 5 undef = .int .i64 i) ∧ W.heap[B]? = some (.cells #[.string nm, .int .i64 k1, .int .u32 (p1 : Int), .int .u32 (m1 : Int), .bool n1, .int .i64 a1, .int .i64 b1, .slice o1 N1 c1, .int .i64 k2, .int .u32 (p2 : Int), .int .u32 (m2 : Int), .bool n2, .int .i64 a2, .int .i64 b2, .slice o2 N2 c2, .slice io N3 ic, .slice oo N4 oc, .int .i64 md] 31 (0, 0)) ∧ W.heap[B + 1]? = some (.cells #[.string ⟨#[]⟩, .int .i64 0, .int .u32 0, .int .u32 0, .bool false, .int .i64 0, .int .i64 0, .slice none 0 0, .int .i64 0, .int .u32 0, .int .u32 0, .bool false, .int .i64 0, .int .i64 0, .slice none 0 0, .slice none 0 0, .slice none 0 0, .int .i64 0] 31 (0, 0)) ∧ W.heap[B + 2]? = some (.cells #[.string nm, .int .i64 x1, .int .u32 (y1 : Int), .int .u32 (z1 : Int), .bool r1, .int .i64 s1, .int .i64 t1, .slice g1 M1 cc1, .int .i64 x2, .int .u32 (y2 : Int), .int .u32 (z2 : Int), .bool r2, .int .i64 s2, .int .i64 t2, .slice g2 M2 cc2, .slice ro N3 rc, .slice ao k c, .int .i64 md] 31 (0, 0)) ∧ W.ownsRow S9 62 6 (.slice ao k c) k (outL (((l.outs.map (mirOut N3)).reverse).take k)) ∧ Turn (fun b => b = B + 2) w9 W)
  (fun a _ => (intOf (a.tmps.getD 5 undef) + 1).toNat) ?_ ?_
 ·exact ⟨0, _, none, 0, by omega, by simp, rfl, ⟨rfl, rfl, rfl, rfl, rfl, rfl⟩, HL9.out, HZ9.out, HX9.out, World.ownsRow_nil _ _ _ _, Turn.refl _ _⟩
 rintro ⟨t, _⟩ W ⟨k, i, ao, c, hk, hi, hds, ⟨hsz, f1, f2, f3, f4, f5⟩, hl, hz, hx, ho, hT⟩
 subst hds
 obtain ⟨u', hu⟩ := frame_fun hsz
 obtain ⟨u, rfl⟩ : ∃ x, x = u' := ⟨_, rfl⟩
 have hu' : t = #[u 0, u 1, u 2, u 3, u 4, u 5, u 6, u 7, u 8, u 9, u 10, u 11, u 12, u 13, u 14, u 15, u 16, u 17, u 18, u 19, u 20, u 21, u 22, u 23, u 24, u 25, u 26, u 27, u 28, u 29, u 30, u 31, u 32, u 33, u 34, u 35, u 36, u 37, u 38, u 39, u 40, u 41, u 42, u 43, u 44, u 45, u 46, u 47, u 48, u 49, u 50, u 51, u 52, u 53, u 54, u 55, u 56, u 57, u 58, u 59, u 60, u 61, u 62, u 63, u 64, u 65, u 66, u 67, u 68, u 69, u 70, u 71, u 72] := hu
 clear hu
 subst hu'
 change u 1 = _ at f1
 change u 2 = _ at f2
 change u 3 = _ at f3
 change u 4 = _ at f4
 change u 5 = _ at f5
 rw [f1, f2, f3, f4, f5]
 clear f1 f2 f3 f4 f5 hsz
 have HL := Lib.hid hl; have HZ := Lib.hid hz; have HX := Lib.hid hx; have HOW := Lib.hid ho
 have hsW : S9 ≤ W.heap.size := by have := hT.size; have := HS9.out; omega
 have HTW := Lib.hid hT
 clear hl hz hx ho hT
 by_cases hkN : k < N4
 ·obtain ⟨j, hj⟩ : ∃ j, N4 - 1 - k = j := ⟨_, rfl⟩
  obtain rfl : i = (j : Int) := by omega
  have h1 : (0 : Int) ≤ (j : Int) := by omega
  have hjn : (j : Int) < (N4 : Int) := by omega
  have hjl : j < l.outs.length := by rw [HN4.out]; omega
  have hEW : Ext w W := Turn.after hE9 HTW.out (fun b hb e => by have := HB.out; omega)
  obtain ⟨g, off, c9, hq, hg, hok, d0, d1, d2, d3, d4, d5⟩ := (HOU.out.ext hEW).at hjl
  simp only [Value.slice.injEq] at hq
  obtain ⟨rfl, hq2, rfl⟩ := hq
  clear hq2 hok
  have hsn := mirs_take (l := l.outs) (k := k) N3 (by rw [HN4.out]; exact hkN)
  have hjj : l.outs[l.outs.length - 1 - k]'(by rw [HN4.out]; omega) = l.outs[j] := by congr 1; rw [HN4.out]; exact hj
  rw [hjj] at hsn
  have hfit := HFI.out _ (List.getElem_mem hjl)
  obtain ⟨⟨fr, cl, ⟨sa, sb⟩, tk, ofi⟩, hxx⟩ : ∃ x, l.outs[j] = x := ⟨_, rfl⟩
  rw [hxx] at d0 d1 d2 d3 d4 d5 hsn hfit
  dsimp only at d0 d1 d2 d3 d4 d5
  have hfp := fit_parts hfit
  rw [HN3.out] at hfp
  obtain ⟨hf1, hf2⟩ := hfp
  dsimp only at hf1 hf2
  have hf0 : -1 ≤ fr := by unfold fitB at hfit; simp only [Bool.and_eq_true, decide_eq_true_eq] at hfit; exact hfit.1.1.1.1.1.1.1.1
  have HSN := Lib.hid hsn; have HI := Lib.hid hi; have HF2 := Lib.hid hf2
  clear hsn hi hjj hfit hxx hf2 hjl
  have cX := cell_of_row _ _ 16 _ _ _ HL.out
  have hwj : IntKind.i64.wrap ((j : Int) - 1) = (j : Int) - 1 := IntWalk.i64_in _ (by omega)
  obtain ⟨V, hV⟩ : ∃ D, W.alloc (.cells #[.int .i64 fr, .int .u32 (cl : Int), .int .u32 (sa : Int), .int .u32 (sb : Int), .int .u32 (tk : Int), .int .i64 ofi] 62) = D := ⟨_, rfl⟩
  have hEV : Ext W V := by rw [← hV]; exact (Turn.refl _ W).alloc _
  have hxv : V.heap[W.heap.size]? = some (.cells #[.int .i64 fr, .int .u32 (cl : Int), .int .u32 (sa : Int), .int .u32 (sb : Int), .int .u32 (tk : Int), .int .i64 ofi] 62 (0, 0)) := by rw [← hV]; exact new_at rfl
  have HV := Lib.hid hV
  clear hV
  go_upto_region 11 with (fail)
  rw [HV.out]
  obtain ⟨X, hX⟩ : ∃ x, W.heap.size = x := ⟨_, rfl⟩
  rw [hX] at hxv ⊢
  have HXS := Lib.hid hX
  clear HV hX cX d0 d1 d2 d3 d4 d5
  have HXV := Lib.hid hxv
  clear hxv
  have hwk : IntKind.i64.wrap ((N3 : Int) - 1) = (N3 : Int) - 1 := IntWalk.i64_in _ (by omega)
  by_cases hfr : 0 ≤ fr
  ·have hwf : IntKind.i64.wrap ((N3 : Int) - 1 - fr) = (N3 : Int) - 1 - fr := IntWalk.i64_in _ (by omega)
   have cE := fun j => cell_of_row _ _ j _ _ _ HXV.out
   have fE := froz_row HXV.out (o := 0) (by simp)
   obtain ⟨V2, hV⟩ : ∃ D, V.setCell ⟨X, 0, none⟩ (.int .i64 ((N3 : Int) - 1 - fr)) = D := ⟨_, rfl⟩
   have hTx := Turn.set1 V X 0 (.int .i64 ((N3 : Int) - 1 - fr))
   have hx := out0_set (z0 := .int .i64 ((N3 : Int) - 1 - fr)) HXV.out
   rw [hV] at hTx hx
   have hEV2 : Ext W V2 := Turn.after hEV hTx (fun b hb e => by have := HXS.out; omega)
   have HVW := Lib.hid hV; have HXV2 := Lib.hid hx
   clear hV hx hTx hEV
   have hEV := hEV2
   clear hEV2
   go_upto_region 13 with (fail)
   rw [HVW.out]
   clear cE fE HVW hwf
   by_cases htk : tk = 0
   case pos =>
    subst htk
    have cE := fun j => cell_of_row _ _ j _ _ _ HXV2.out
    go_upto_region 15 with (fail)
    clear cE
    have hmx : mirOut N3 ⟨fr, cl, (sa, sb), 0, ofi⟩ = ⟨(N3 : Int) - 1 - fr, cl, (sa, sb), 0, ofi⟩ := by unfold mirOut; simp only [hfr, if_true]; try simp
    have hsn := HSN.out
    rw [hmx] at hsn
    have HSN2 := Lib.hid hsn
    clear hsn hmx
    have hTV : Turn (fun b => b = B + 2) W V2 := Ext.of hEV
    have hxb := hEV.keep HX.out
    have HXB := Lib.hid hxb; have HBX := Lib.hid HXV2.out
    have hoV := own_ext HOW.out hEV
    have HOV := Lib.hid hoV
    have cB := cell_of_row _ _ 16 _ _ _ HXB.out
    have cE := fun j => cell_of_row _ _ j _ _ _ HBX.out
    have hsV : S9 ≤ V2.heap.size := Nat.le_trans hsW hEV.size
    clear hxb hoV
    go_wp2_with (at_builtin; refine append_row rfl (.tmp 62) (.tmp 64) 29 rfl S9 62 _ 6 32 Tryz.underlying29 @infoO rfl (by decide) _ _ _ rfl (own_ext HOV.out ((Turn.refl _ V2).alloc _)) ⟨V2.heap.size, 0, none⟩ 1 1 (outCells ⟨(N3 : Int) - 1 - fr, cl, (sa, sb), 0, ofi⟩) rfl rfl (new_cells' rfl) (outL_one _) (by unfold maxLen; omega) (by omega) (Nat.le_trans hsV (Turn.alloc (Turn.refl (fun _ => False) _) _).size) ?_)
    intro ao' c' V9 hO9 hT9 hB9
    have hE9' : Ext V2 (V2.alloc (.cells #[.int .i64 ((N3 : Int) - 1 - fr), .int .u32 (cl : Int), .int .u32 (sa : Int), .int .u32 (sb : Int), .int .u32 ((0 : Nat) : Int), .int .i64 (ofi)] 62)) := (Turn.refl _ V2).alloc _
    have hne : ∀ b, (Value.slice ao k c).ownBlock = some b → S9 ≤ b := fun b e => (HOV.out.lt _ e).1
    have hl9 := hT9.heap (hE9'.keep (hEV.keep HL.out)) (fun e => by have := hne _ e; omega)
    have hz9 := hT9.heap (hE9'.keep (hEV.keep HZ.out)) (fun e => by have := hne _ e; omega)
    have hx9 := hT9.heap (hE9'.keep HXB.out) (fun e => by have := hne _ e; omega)
    obtain ⟨V10, hw⟩ : ∃ D, V9.setCell ⟨B + 2, 16, none⟩ (.slice ao' (k + 1) c') = D := ⟨_, rfl⟩
    have hT := Turn.set1 V9 (B + 2) 16 (.slice ao' (k + 1) c')
    have hx10 : V10.heap[B + 2]? = some (.cells #[.string nm, .int .i64 x1, .int .u32 (y1 : Int), .int .u32 (z1 : Int), .bool r1, .int .i64 s1, .int .i64 t1, .slice g1 M1 cc1, .int .i64 x2, .int .u32 (y2 : Int), .int .u32 (z2 : Int), .bool r2, .int .i64 s2, .int .i64 t2, .slice g2 M2 cc2, .slice ro N3 rc, .slice ao' (k + 1) c', .int .i64 md] 31 (0, 0)) := by rw [← hw]; exact outs_set hx9
    rw [hw] at hT
    have hl10 := hT.heap hl9 (by omega)
    have hz10 := hT.heap hz9 (by omega)
    have hbx : ∀ b, (Value.slice ao' (k + 1) c').ownBlock = some b → S9 ≤ b := fun b e => (hO9.lt _ e).1
    have ho10 := own_keep hO9 hT (fun g hg e => by have := hbx g hg; omega)
    have hT10 : Turn (fun b => b = B + 2) w9 V10 := (Turn.after (HTW.out.trans (Turn.trans hTV (Ext.of hE9'))) hT9 (fun b hb e => by have := hne _ e; have := HS9.out; omega)).trans hT
    have HL10 := Lib.hid hl10; have HZ10 := Lib.hid hz10; have HX10 := Lib.hid hx10; have HO10 := Lib.hid ho10; have HT10 := Lib.hid hT10; have HW := Lib.hid hw
    have cS := cell_of_row _ _ 16 _ _ _ hx9
    have fS := froz_row hx9 (o := 16) (by simp)
    clear hl10 hz10 hx10 ho10 hT10 hw hT hl9 hz9 hx9 hO9 hT9 hB9 hE9' hne hbx cB cE hTV hEV
    go_wp2
    try rw [HW.out]
    exact ⟨⟨k + 1, _, ao', c', by omega, by have := HI.out; push_cast; omega, by first | rfl | trivial, ⟨rfl, rfl, rfl, rfl, rfl, rfl⟩, HL10.out, HZ10.out, HX10.out, by rw [HSN2.out, outL_app]; first | exact HO10.out | (simpa [outL] using HO10.out), HT10.out⟩, by first | (simp [intOf]; done) | (simp [intOf]; omega)⟩
   obtain ⟨ho1, ho2⟩ := HF2.out htk
   have htk2 : ((tk : Int) != 0) = true := by rw [bne_iff_ne]; omega
   have htk3 : ¬ (tk : Int) = 0 := by omega
   have hwo : IntKind.i64.wrap ((N3 : Int) - 1 - ofi) = (N3 : Int) - 1 - ofi := IntWalk.i64_in _ (by omega)
   have cE := fun j => cell_of_row _ _ j _ _ _ HXV2.out
   have fE := froz_row HXV2.out (o := 5) (by simp)
   obtain ⟨V3, hV⟩ : ∃ D, V2.setCell ⟨X, 5, none⟩ (.int .i64 ((N3 : Int) - 1 - ofi)) = D := ⟨_, rfl⟩
   have hTx := Turn.set1 V2 X 5 (.int .i64 ((N3 : Int) - 1 - ofi))
   have hx := out5_set (z0 := .int .i64 ((N3 : Int) - 1 - ofi)) HXV2.out
   rw [hV] at hTx hx
   have hEV3 : Ext W V3 := Turn.after hEV hTx (fun b hb e => by have := HXS.out; omega)
   have HVW := Lib.hid hV; have HXV3 := Lib.hid hx
   clear hV hx hTx hEV
   have hEV := hEV3
   clear hEV3
   go_upto_region 15 with (fail)
   rw [HVW.out]
   clear cE fE HVW
   have hmx : mirOut N3 ⟨fr, cl, (sa, sb), tk, ofi⟩ = ⟨(N3 : Int) - 1 - fr, cl, (sa, sb), tk, (N3 : Int) - 1 - ofi⟩ := by unfold mirOut; simp only [hfr, if_true]; try simp [htk]
   have hsn := HSN.out
   rw [hmx] at hsn
   have HSN2 := Lib.hid hsn
   clear hsn hmx
   have hTV : Turn (fun b => b = B + 2) W V3 := Ext.of hEV
   have hxb := hEV.keep HX.out
   have HXB := Lib.hid hxb; have HBX := Lib.hid HXV3.out
   have hoV := own_ext HOW.out hEV
   have HOV := Lib.hid hoV
   have cB := cell_of_row _ _ 16 _ _ _ HXB.out
   have cE := fun j => cell_of_row _ _ j _ _ _ HBX.out
   have hsV : S9 ≤ V3.heap.size := Nat.le_trans hsW hEV.size
   clear hxb hoV
   go_wp2_with (at_builtin; refine append_row rfl (.tmp 62) (.tmp 64) 29 rfl S9 62 _ 6 32 Tryz.underlying29 @infoO rfl (by decide) _ _ _ rfl (own_ext HOV.out ((Turn.refl _ V3).alloc _)) ⟨V3.heap.size, 0, none⟩ 1 1 (outCells ⟨(N3 : Int) - 1 - fr, cl, (sa, sb), tk, (N3 : Int) - 1 - ofi⟩) rfl rfl (new_cells' rfl) (outL_one _) (by unfold maxLen; omega) (by omega) (Nat.le_trans hsV (Turn.alloc (Turn.refl (fun _ => False) _) _).size) ?_)
   intro ao' c' V9 hO9 hT9 hB9
   have hE9' : Ext V3 (V3.alloc (.cells #[.int .i64 ((N3 : Int) - 1 - fr), .int .u32 (cl : Int), .int .u32 (sa : Int), .int .u32 (sb : Int), .int .u32 (tk : Int), .int .i64 ((N3 : Int) - 1 - ofi)] 62)) := (Turn.refl _ V3).alloc _
   have hne : ∀ b, (Value.slice ao k c).ownBlock = some b → S9 ≤ b := fun b e => (HOV.out.lt _ e).1
   have hl9 := hT9.heap (hE9'.keep (hEV.keep HL.out)) (fun e => by have := hne _ e; omega)
   have hz9 := hT9.heap (hE9'.keep (hEV.keep HZ.out)) (fun e => by have := hne _ e; omega)
   have hx9 := hT9.heap (hE9'.keep HXB.out) (fun e => by have := hne _ e; omega)
   obtain ⟨V10, hw⟩ : ∃ D, V9.setCell ⟨B + 2, 16, none⟩ (.slice ao' (k + 1) c') = D := ⟨_, rfl⟩
   have hT := Turn.set1 V9 (B + 2) 16 (.slice ao' (k + 1) c')
   have hx10 : V10.heap[B + 2]? = some (.cells #[.string nm, .int .i64 x1, .int .u32 (y1 : Int), .int .u32 (z1 : Int), .bool r1, .int .i64 s1, .int .i64 t1, .slice g1 M1 cc1, .int .i64 x2, .int .u32 (y2 : Int), .int .u32 (z2 : Int), .bool r2, .int .i64 s2, .int .i64 t2, .slice g2 M2 cc2, .slice ro N3 rc, .slice ao' (k + 1) c', .int .i64 md] 31 (0, 0)) := by rw [← hw]; exact outs_set hx9
   rw [hw] at hT
   have hl10 := hT.heap hl9 (by omega)
   have hz10 := hT.heap hz9 (by omega)
   have hbx : ∀ b, (Value.slice ao' (k + 1) c').ownBlock = some b → S9 ≤ b := fun b e => (hO9.lt _ e).1
   have ho10 := own_keep hO9 hT (fun g hg e => by have := hbx g hg; omega)
   have hT10 : Turn (fun b => b = B + 2) w9 V10 := (Turn.after (HTW.out.trans (Turn.trans hTV (Ext.of hE9'))) hT9 (fun b hb e => by have := hne _ e; have := HS9.out; omega)).trans hT
   have HL10 := Lib.hid hl10; have HZ10 := Lib.hid hz10; have HX10 := Lib.hid hx10; have HO10 := Lib.hid ho10; have HT10 := Lib.hid hT10; have HW := Lib.hid hw
   have cS := cell_of_row _ _ 16 _ _ _ hx9
   have fS := froz_row hx9 (o := 16) (by simp)
   clear hl10 hz10 hx10 ho10 hT10 hw hT hl9 hz9 hx9 hO9 hT9 hB9 hE9' hne hbx cB cE hTV hEV
   go_wp2
   try rw [HW.out]
   exact ⟨⟨k + 1, _, ao', c', by omega, by have := HI.out; push_cast; omega, by first | rfl | trivial, ⟨rfl, rfl, rfl, rfl, rfl, rfl⟩, HL10.out, HZ10.out, HX10.out, by rw [HSN2.out, outL_app]; first | exact HO10.out | (simpa [outL] using HO10.out), HT10.out⟩, by first | (simp [intOf]; done) | (simp [intOf]; omega)⟩
  ·have hfr2 : ¬ fr ≥ 0 := hfr
   have cE := fun j => cell_of_row _ _ j _ _ _ HXV.out
   go_upto_region 13 with (fail)
   clear cE
   by_cases htk : tk = 0
   case pos =>
    subst htk
    have cE := fun j => cell_of_row _ _ j _ _ _ HXV.out
    go_upto_region 15 with (fail)
    clear cE
    have hmx : mirOut N3 ⟨fr, cl, (sa, sb), 0, ofi⟩ = ⟨fr, cl, (sa, sb), 0, ofi⟩ := by unfold mirOut; simp only [hfr, if_false]; try simp
    have hsn := HSN.out
    rw [hmx] at hsn
    have HSN2 := Lib.hid hsn
    clear hsn hmx
    have hTV : Turn (fun b => b = B + 2) W V := Ext.of hEV
    have hxb := hEV.keep HX.out
    have HXB := Lib.hid hxb; have HBX := Lib.hid HXV.out
    have hoV := own_ext HOW.out hEV
    have HOV := Lib.hid hoV
    have cB := cell_of_row _ _ 16 _ _ _ HXB.out
    have cE := fun j => cell_of_row _ _ j _ _ _ HBX.out
    have hsV : S9 ≤ V.heap.size := Nat.le_trans hsW hEV.size
    clear hxb hoV
    go_wp2_with (at_builtin; refine append_row rfl (.tmp 62) (.tmp 64) 29 rfl S9 62 _ 6 32 Tryz.underlying29 @infoO rfl (by decide) _ _ _ rfl (own_ext HOV.out ((Turn.refl _ V).alloc _)) ⟨V.heap.size, 0, none⟩ 1 1 (outCells ⟨fr, cl, (sa, sb), 0, ofi⟩) rfl rfl (new_cells' rfl) (outL_one _) (by unfold maxLen; omega) (by omega) (Nat.le_trans hsV (Turn.alloc (Turn.refl (fun _ => False) _) _).size) ?_)
    intro ao' c' V9 hO9 hT9 hB9
    have hE9' : Ext V (V.alloc (.cells #[.int .i64 (fr), .int .u32 (cl : Int), .int .u32 (sa : Int), .int .u32 (sb : Int), .int .u32 ((0 : Nat) : Int), .int .i64 (ofi)] 62)) := (Turn.refl _ V).alloc _
    have hne : ∀ b, (Value.slice ao k c).ownBlock = some b → S9 ≤ b := fun b e => (HOV.out.lt _ e).1
    have hl9 := hT9.heap (hE9'.keep (hEV.keep HL.out)) (fun e => by have := hne _ e; omega)
    have hz9 := hT9.heap (hE9'.keep (hEV.keep HZ.out)) (fun e => by have := hne _ e; omega)
    have hx9 := hT9.heap (hE9'.keep HXB.out) (fun e => by have := hne _ e; omega)
    obtain ⟨V10, hw⟩ : ∃ D, V9.setCell ⟨B + 2, 16, none⟩ (.slice ao' (k + 1) c') = D := ⟨_, rfl⟩
    have hT := Turn.set1 V9 (B + 2) 16 (.slice ao' (k + 1) c')
    have hx10 : V10.heap[B + 2]? = some (.cells #[.string nm, .int .i64 x1, .int .u32 (y1 : Int), .int .u32 (z1 : Int), .bool r1, .int .i64 s1, .int .i64 t1, .slice g1 M1 cc1, .int .i64 x2, .int .u32 (y2 : Int), .int .u32 (z2 : Int), .bool r2, .int .i64 s2, .int .i64 t2, .slice g2 M2 cc2, .slice ro N3 rc, .slice ao' (k + 1) c', .int .i64 md] 31 (0, 0)) := by rw [← hw]; exact outs_set hx9
    rw [hw] at hT
    have hl10 := hT.heap hl9 (by omega)
    have hz10 := hT.heap hz9 (by omega)
    have hbx : ∀ b, (Value.slice ao' (k + 1) c').ownBlock = some b → S9 ≤ b := fun b e => (hO9.lt _ e).1
    have ho10 := own_keep hO9 hT (fun g hg e => by have := hbx g hg; omega)
    have hT10 : Turn (fun b => b = B + 2) w9 V10 := (Turn.after (HTW.out.trans (Turn.trans hTV (Ext.of hE9'))) hT9 (fun b hb e => by have := hne _ e; have := HS9.out; omega)).trans hT
    have HL10 := Lib.hid hl10; have HZ10 := Lib.hid hz10; have HX10 := Lib.hid hx10; have HO10 := Lib.hid ho10; have HT10 := Lib.hid hT10; have HW := Lib.hid hw
    have cS := cell_of_row _ _ 16 _ _ _ hx9
    have fS := froz_row hx9 (o := 16) (by simp)
    clear hl10 hz10 hx10 ho10 hT10 hw hT hl9 hz9 hx9 hO9 hT9 hB9 hE9' hne hbx cB cE hTV hEV
    go_wp2
    try rw [HW.out]
    exact ⟨⟨k + 1, _, ao', c', by omega, by have := HI.out; push_cast; omega, by first | rfl | trivial, ⟨rfl, rfl, rfl, rfl, rfl, rfl⟩, HL10.out, HZ10.out, HX10.out, by rw [HSN2.out, outL_app]; first | exact HO10.out | (simpa [outL] using HO10.out), HT10.out⟩, by first | (simp [intOf]; done) | (simp [intOf]; omega)⟩
   obtain ⟨ho1, ho2⟩ := HF2.out htk
   have htk2 : ((tk : Int) != 0) = true := by rw [bne_iff_ne]; omega
   have htk3 : ¬ (tk : Int) = 0 := by omega
   have hwo : IntKind.i64.wrap ((N3 : Int) - 1 - ofi) = (N3 : Int) - 1 - ofi := IntWalk.i64_in _ (by omega)
   have cE := fun j => cell_of_row _ _ j _ _ _ HXV.out
   have fE := froz_row HXV.out (o := 5) (by simp)
   obtain ⟨V3, hV⟩ : ∃ D, V.setCell ⟨X, 5, none⟩ (.int .i64 ((N3 : Int) - 1 - ofi)) = D := ⟨_, rfl⟩
   have hTx := Turn.set1 V X 5 (.int .i64 ((N3 : Int) - 1 - ofi))
   have hx := out5_set (z0 := .int .i64 ((N3 : Int) - 1 - ofi)) HXV.out
   rw [hV] at hTx hx
   have hEV3 : Ext W V3 := Turn.after hEV hTx (fun b hb e => by have := HXS.out; omega)
   have HVW := Lib.hid hV; have HXV3 := Lib.hid hx
   clear hV hx hTx hEV
   have hEV := hEV3
   clear hEV3
   go_upto_region 15 with (fail)
   rw [HVW.out]
   clear cE fE HVW
   have hmx : mirOut N3 ⟨fr, cl, (sa, sb), tk, ofi⟩ = ⟨fr, cl, (sa, sb), tk, (N3 : Int) - 1 - ofi⟩ := by unfold mirOut; simp only [hfr, if_false]; try simp [htk]
   have hsn := HSN.out
   rw [hmx] at hsn
   have HSN2 := Lib.hid hsn
   clear hsn hmx
   have hTV : Turn (fun b => b = B + 2) W V3 := Ext.of hEV
   have hxb := hEV.keep HX.out
   have HXB := Lib.hid hxb; have HBX := Lib.hid HXV3.out
   have hoV := own_ext HOW.out hEV
   have HOV := Lib.hid hoV
   have cB := cell_of_row _ _ 16 _ _ _ HXB.out
   have cE := fun j => cell_of_row _ _ j _ _ _ HBX.out
   have hsV : S9 ≤ V3.heap.size := Nat.le_trans hsW hEV.size
   clear hxb hoV
   go_wp2_with (at_builtin; refine append_row rfl (.tmp 62) (.tmp 64) 29 rfl S9 62 _ 6 32 Tryz.underlying29 @infoO rfl (by decide) _ _ _ rfl (own_ext HOV.out ((Turn.refl _ V3).alloc _)) ⟨V3.heap.size, 0, none⟩ 1 1 (outCells ⟨fr, cl, (sa, sb), tk, (N3 : Int) - 1 - ofi⟩) rfl rfl (new_cells' rfl) (outL_one _) (by unfold maxLen; omega) (by omega) (Nat.le_trans hsV (Turn.alloc (Turn.refl (fun _ => False) _) _).size) ?_)
   intro ao' c' V9 hO9 hT9 hB9
   have hE9' : Ext V3 (V3.alloc (.cells #[.int .i64 (fr), .int .u32 (cl : Int), .int .u32 (sa : Int), .int .u32 (sb : Int), .int .u32 (tk : Int), .int .i64 ((N3 : Int) - 1 - ofi)] 62)) := (Turn.refl _ V3).alloc _
   have hne : ∀ b, (Value.slice ao k c).ownBlock = some b → S9 ≤ b := fun b e => (HOV.out.lt _ e).1
   have hl9 := hT9.heap (hE9'.keep (hEV.keep HL.out)) (fun e => by have := hne _ e; omega)
   have hz9 := hT9.heap (hE9'.keep (hEV.keep HZ.out)) (fun e => by have := hne _ e; omega)
   have hx9 := hT9.heap (hE9'.keep HXB.out) (fun e => by have := hne _ e; omega)
   obtain ⟨V10, hw⟩ : ∃ D, V9.setCell ⟨B + 2, 16, none⟩ (.slice ao' (k + 1) c') = D := ⟨_, rfl⟩
   have hT := Turn.set1 V9 (B + 2) 16 (.slice ao' (k + 1) c')
   have hx10 : V10.heap[B + 2]? = some (.cells #[.string nm, .int .i64 x1, .int .u32 (y1 : Int), .int .u32 (z1 : Int), .bool r1, .int .i64 s1, .int .i64 t1, .slice g1 M1 cc1, .int .i64 x2, .int .u32 (y2 : Int), .int .u32 (z2 : Int), .bool r2, .int .i64 s2, .int .i64 t2, .slice g2 M2 cc2, .slice ro N3 rc, .slice ao' (k + 1) c', .int .i64 md] 31 (0, 0)) := by rw [← hw]; exact outs_set hx9
   rw [hw] at hT
   have hl10 := hT.heap hl9 (by omega)
   have hz10 := hT.heap hz9 (by omega)
   have hbx : ∀ b, (Value.slice ao' (k + 1) c').ownBlock = some b → S9 ≤ b := fun b e => (hO9.lt _ e).1
   have ho10 := own_keep hO9 hT (fun g hg e => by have := hbx g hg; omega)
   have hT10 : Turn (fun b => b = B + 2) w9 V10 := (Turn.after (HTW.out.trans (Turn.trans hTV (Ext.of hE9'))) hT9 (fun b hb e => by have := hne _ e; have := HS9.out; omega)).trans hT
   have HL10 := Lib.hid hl10; have HZ10 := Lib.hid hz10; have HX10 := Lib.hid hx10; have HO10 := Lib.hid ho10; have HT10 := Lib.hid hT10; have HW := Lib.hid hw
   have cS := cell_of_row _ _ 16 _ _ _ hx9
   have fS := froz_row hx9 (o := 16) (by simp)
   clear hl10 hz10 hx10 ho10 hT10 hw hT hl9 hz9 hx9 hO9 hT9 hB9 hE9' hne hbx cB cE hTV hEV
   go_wp2
   try rw [HW.out]
   exact ⟨⟨k + 1, _, ao', c', by omega, by have := HI.out; push_cast; omega, by first | rfl | trivial, ⟨rfl, rfl, rfl, rfl, rfl, rfl⟩, HL10.out, HZ10.out, HX10.out, by rw [HSN2.out, outL_app]; first | exact HO10.out | (simpa [outL] using HO10.out), HT10.out⟩, by first | (simp [intOf]; done) | (simp [intOf]; omega)⟩
 ·obtain rfl : k = N4 := by omega
  obtain rfl : i = -1 := by omega
  have h1 : ¬ (0 : Int) ≤ -1 := by omega
  have hEW : Ext w W := Turn.after hE9 HTW.out (fun b hb e => by have := HB.out; omega)
  have hlen : (((l.outs.map (mirOut N3)).reverse).take k) = (l.outs.map (mirOut N3)).reverse := List.take_of_length_le (by rw [List.length_reverse, List.length_map, HN4.out]; exact Nat.le_refl _)
  have hoo := HOW.out
  rw [hlen] at hoo
  have HOO := Lib.hid hoo
  clear hoo hlen HOW hi
  obtain ⟨V1, hw⟩ : ∃ D, W.setCell ⟨B + 2, 17, none⟩ (.int .i64 2) = D := ⟨_, rfl⟩
  have hT := Turn.set1 W (B + 2) 17 (.int .i64 2)
  have hx : V1.heap[B + 2]? = some (.cells #[.string nm, .int .i64 x1, .int .u32 (y1 : Int), .int .u32 (z1 : Int), .bool r1, .int .i64 s1, .int .i64 t1, .slice g1 M1 cc1, .int .i64 x2, .int .u32 (y2 : Int), .int .u32 (z2 : Int), .bool r2, .int .i64 s2, .int .i64 t2, .slice g2 M2 cc2, .slice ro N3 rc, .slice ao k c, .int .i64 2] 31 (0, 0)) := by rw [← hw]; exact mode_set HX.out
  rw [hw] at hT
  have hl := hT.heap HL.out (by omega)
  have hz := hT.heap HZ.out (by omega)
  have HW := Lib.hid hw; have HL1 := Lib.hid hl; have HZ1 := Lib.hid hz; have HX1 := Lib.hid hx; have HTA := Lib.hid hT
  clear hw hl hz hx hT
  have cS := cell_of_row _ _ 17 _ _ _ HX.out
  have fS := froz_row HX.out (o := 17) (by simp)
  go_upto_region 17 with (fail)
  rw [HW.out]
  clear HW cS fS
  have cM := cell_of_row _ _ 17 _ _ _ HL1.out
  by_cases hmd : md = 2
  ·subst hmd
   obtain ⟨V2, hw⟩ : ∃ D, V1.setCell ⟨B + 2, 17, none⟩ (.int .i64 3) = D := ⟨_, rfl⟩
   have hT := Turn.set1 V1 (B + 2) 17 (.int .i64 3)
   have hx : V2.heap[B + 2]? = some (.cells #[.string nm, .int .i64 x1, .int .u32 (y1 : Int), .int .u32 (z1 : Int), .bool r1, .int .i64 s1, .int .i64 t1, .slice g1 M1 cc1, .int .i64 x2, .int .u32 (y2 : Int), .int .u32 (z2 : Int), .bool r2, .int .i64 s2, .int .i64 t2, .slice g2 M2 cc2, .slice ro N3 rc, .slice ao k c, .int .i64 3] 31 (0, 0)) := by rw [← hw]; exact mode_set HX1.out
   rw [hw] at hT
   have hz := hT.heap HZ1.out (by omega)
   have HW2 := Lib.hid hw; have HZ2 := Lib.hid hz; have HX2 := Lib.hid hx; have HTB := Lib.hid (HTA.out.trans hT)
   clear hw hz hx hT
   have cS := cell_of_row _ _ 17 _ _ _ HX1.out
   have fS := froz_row HX1.out (o := 17) (by simp)
   go_upto_region 19 with (fail)
   rw [HW2.out]
   clear HW2 cS fS cM
   have hT := Turn.setRow V2 (B + 1) #[.string nm, .int .i64 x1, .int .u32 (y1 : Int), .int .u32 (z1 : Int), .bool r1, .int .i64 s1, .int .i64 t1, .slice g1 M1 cc1, .int .i64 x2, .int .u32 (y2 : Int), .int .u32 (z2 : Int), .bool r2, .int .i64 s2, .int .i64 t2, .slice g2 M2 cc2, .slice ro N3 rc, .slice ao k c, .int .i64 3]
   have hr := setRow_heap _ _ _ #[.string nm, .int .i64 x1, .int .u32 (y1 : Int), .int .u32 (z1 : Int), .bool r1, .int .i64 s1, .int .i64 t1, .slice g1 M1 cc1, .int .i64 x2, .int .u32 (y2 : Int), .int .u32 (z2 : Int), .bool r2, .int .i64 s2, .int .i64 t2, .slice g2 M2 cc2, .slice ro N3 rc, .slice ao k c, .int .i64 3] _ _ HZ2.out
   obtain ⟨V9, hw⟩ : ∃ D, V2.setRow (B + 1) #[.string nm, .int .i64 x1, .int .u32 (y1 : Int), .int .u32 (z1 : Int), .bool r1, .int .i64 s1, .int .i64 t1, .slice g1 M1 cc1, .int .i64 x2, .int .u32 (y2 : Int), .int .u32 (z2 : Int), .bool r2, .int .i64 s2, .int .i64 t2, .slice g2 M2 cc2, .slice ro N3 rc, .slice ao k c, .int .i64 3] = D := ⟨_, rfl⟩
   rw [hw] at hT hr
   have hTT : Turn (fun b => b = B + 2 ∨ b = B + 1) W V9 := Turn.trans (Turn.mono HTB.out (fun b _ e => .inl e)) (hT.mono fun b _ e => .inr e)
   have HTT := Lib.hid hTT; have HR9 := Lib.hid hr; have HW := Lib.hid hw
   clear hTT hr hw hT
   go_wp2_with (first | (refine wpList_load_row rfl 31 (.tmp 3) rfl (B + 2) rfl _ _ _ _ HX2.out Tryz.underlying31 rfl Tryz.lawInfo ?_) | (refine wpList_store_row rfl 31 (.tmp 2) (.tmp 72) rfl (B + 1) #[.string nm, .int .i64 x1, .int .u32 (y1 : Int), .int .u32 (z1 : Int), .bool r1, .int .i64 s1, .int .i64 t1, .slice g1 M1 cc1, .int .i64 x2, .int .u32 (y2 : Int), .int .u32 (z2 : Int), .bool r2, .int .i64 s2, .int .i64 t2, .slice g2 M2 cc2, .slice ro N3 rc, .slice ao k c, .int .i64 3] rfl rfl _ _ HZ2.out (by kernel_rfl) rfl (by kernel_rfl) ?_; rw [HW.out]))
   have hEE : Ext w V9 := Turn.after hEW HTT.out (fun b hb e => by have := HB.out; omega)
   have t3 : Turn (fun b => b = B + 2 ∨ b = B + 1) w3 V9 := Turn.trans (Turn.mono (HT39.out.trans HTW.out) (fun b _ e => .inl e)) HTT.out
   have t5 : Turn (fun b => b = B + 2 ∨ b = B + 1) w5 V9 := Turn.trans (Turn.mono (HT59.out.trans HTW.out) (fun b _ e => .inl e)) HTT.out
   have t7 : Turn (fun b => b = B + 2 ∨ b = B + 1) w7 V9 := Turn.trans (Turn.mono (HT79.out.trans HTW.out) (fun b _ e => .inl e)) HTT.out
   have p1 := PatAt.mono (fun g hg => Nat.lt_of_lt_of_le hg.2 t3.size) (sep_at (HS1.out.keep t3 (fun b hb e => by have := hb.1; omega)))
   have p2 := PatAt.mono (fun g hg => Nat.lt_of_lt_of_le hg.2 t5.size) (sep_at (HS2.out.keep t5 (fun b hb e => by have := hb.1; omega)))
   have q1 := own_keep HO.out t7 (fun g hg e => by have := (HO.out.lt _ hg).1; omega)
   have q2 := own_keep HOO.out HTT.out (fun g hg e => by have := (HOO.out.lt _ hg).1; omega)
   have hwd : WordAt V9 (.slice ro N3 rc) l.ifs.reverse := own_word (by rw [List.length_reverse, HN3.out]; exact q1) (fun s hs => HIF.out.2 s (List.mem_reverse.1 hs))
   have hou : OutsAt V9 (.slice ao k c) (mirLaw l).outs := ⟨by show Rd V9 _ ((l.outs.map (mirOut l.ifs.length)).reverse).length 6 (outL ((l.outs.map (mirOut l.ifs.length)).reverse)); rw [HN3.out, List.length_reverse, List.length_map, HN4.out]; exact Rd.of_own q2, fun x hx => by
  obtain ⟨y, hy, rfl⟩ := List.mem_map.1 (List.mem_reverse.1 hx)
  exact mirOut_ok (HOU.out.2 y hy)⟩
   refine bodyPost_ret (law_result rfl rfl HR9.out rfl) rfl ?_
   refine ⟨[.string nm, .int .i64 x1, .int .u32 (y1 : Int), .int .u32 (z1 : Int), .bool r1, .int .i64 s1, .int .i64 t1, .slice g1 M1 cc1, .int .i64 x2, .int .u32 (y2 : Int), .int .u32 (z2 : Int), .bool r2, .int .i64 s2, .int .i64 t2, .slice g2 M2 cc2, .slice ro N3 rc, .slice ao k c, .int .i64 3], rfl, ⟨[.int .i64 x1, .int .u32 (y1 : Int), .int .u32 (z1 : Int), .bool r1, .int .i64 s1, .int .i64 t1, .slice g1 M1 cc1], [.int .i64 x2, .int .u32 (y2 : Int), .int .u32 (z2 : Int), .bool r2, .int .i64 s2, .int .i64 t2, .slice g2 M2 cc2], _, _, ?_, by show l.name.size ≤ maxLen; rw [HNM.out]; exact q0, p1, p2, hwd, hou⟩, hEE⟩
   rw [show (mirLaw l).name = nm from HNM.out, show (mirLaw l).mode = 3 from (by unfold mirLaw; simp [HMD.out])]
   rfl
  ·have hmb : (md == 2) = false := by simp; exact hmd
   go_upto_region 19 with (fail)
   clear cM
   have hT := Turn.setRow V1 (B + 1) #[.string nm, .int .i64 x1, .int .u32 (y1 : Int), .int .u32 (z1 : Int), .bool r1, .int .i64 s1, .int .i64 t1, .slice g1 M1 cc1, .int .i64 x2, .int .u32 (y2 : Int), .int .u32 (z2 : Int), .bool r2, .int .i64 s2, .int .i64 t2, .slice g2 M2 cc2, .slice ro N3 rc, .slice ao k c, .int .i64 2]
   have hr := setRow_heap _ _ _ #[.string nm, .int .i64 x1, .int .u32 (y1 : Int), .int .u32 (z1 : Int), .bool r1, .int .i64 s1, .int .i64 t1, .slice g1 M1 cc1, .int .i64 x2, .int .u32 (y2 : Int), .int .u32 (z2 : Int), .bool r2, .int .i64 s2, .int .i64 t2, .slice g2 M2 cc2, .slice ro N3 rc, .slice ao k c, .int .i64 2] _ _ HZ1.out
   obtain ⟨V9, hw⟩ : ∃ D, V1.setRow (B + 1) #[.string nm, .int .i64 x1, .int .u32 (y1 : Int), .int .u32 (z1 : Int), .bool r1, .int .i64 s1, .int .i64 t1, .slice g1 M1 cc1, .int .i64 x2, .int .u32 (y2 : Int), .int .u32 (z2 : Int), .bool r2, .int .i64 s2, .int .i64 t2, .slice g2 M2 cc2, .slice ro N3 rc, .slice ao k c, .int .i64 2] = D := ⟨_, rfl⟩
   rw [hw] at hT hr
   have hTT : Turn (fun b => b = B + 2 ∨ b = B + 1) W V9 := Turn.trans (Turn.mono HTA.out (fun b _ e => .inl e)) (hT.mono fun b _ e => .inr e)
   have HTT := Lib.hid hTT; have HR9 := Lib.hid hr; have HW := Lib.hid hw
   clear hTT hr hw hT
   go_wp2_with (first | (refine wpList_load_row rfl 31 (.tmp 3) rfl (B + 2) rfl _ _ _ _ HX1.out Tryz.underlying31 rfl Tryz.lawInfo ?_) | (refine wpList_store_row rfl 31 (.tmp 2) (.tmp 72) rfl (B + 1) #[.string nm, .int .i64 x1, .int .u32 (y1 : Int), .int .u32 (z1 : Int), .bool r1, .int .i64 s1, .int .i64 t1, .slice g1 M1 cc1, .int .i64 x2, .int .u32 (y2 : Int), .int .u32 (z2 : Int), .bool r2, .int .i64 s2, .int .i64 t2, .slice g2 M2 cc2, .slice ro N3 rc, .slice ao k c, .int .i64 2] rfl rfl _ _ HZ1.out (by kernel_rfl) rfl (by kernel_rfl) ?_; rw [HW.out]))
   have hEE : Ext w V9 := Turn.after hEW HTT.out (fun b hb e => by have := HB.out; omega)
   have t3 : Turn (fun b => b = B + 2 ∨ b = B + 1) w3 V9 := Turn.trans (Turn.mono (HT39.out.trans HTW.out) (fun b _ e => .inl e)) HTT.out
   have t5 : Turn (fun b => b = B + 2 ∨ b = B + 1) w5 V9 := Turn.trans (Turn.mono (HT59.out.trans HTW.out) (fun b _ e => .inl e)) HTT.out
   have t7 : Turn (fun b => b = B + 2 ∨ b = B + 1) w7 V9 := Turn.trans (Turn.mono (HT79.out.trans HTW.out) (fun b _ e => .inl e)) HTT.out
   have p1 := PatAt.mono (fun g hg => Nat.lt_of_lt_of_le hg.2 t3.size) (sep_at (HS1.out.keep t3 (fun b hb e => by have := hb.1; omega)))
   have p2 := PatAt.mono (fun g hg => Nat.lt_of_lt_of_le hg.2 t5.size) (sep_at (HS2.out.keep t5 (fun b hb e => by have := hb.1; omega)))
   have q1 := own_keep HO.out t7 (fun g hg e => by have := (HO.out.lt _ hg).1; omega)
   have q2 := own_keep HOO.out HTT.out (fun g hg e => by have := (HOO.out.lt _ hg).1; omega)
   have hwd : WordAt V9 (.slice ro N3 rc) l.ifs.reverse := own_word (by rw [List.length_reverse, HN3.out]; exact q1) (fun s hs => HIF.out.2 s (List.mem_reverse.1 hs))
   have hou : OutsAt V9 (.slice ao k c) (mirLaw l).outs := ⟨by show Rd V9 _ ((l.outs.map (mirOut l.ifs.length)).reverse).length 6 (outL ((l.outs.map (mirOut l.ifs.length)).reverse)); rw [HN3.out, List.length_reverse, List.length_map, HN4.out]; exact Rd.of_own q2, fun x hx => by
  obtain ⟨y, hy, rfl⟩ := List.mem_map.1 (List.mem_reverse.1 hx)
  exact mirOut_ok (HOU.out.2 y hy)⟩
   refine bodyPost_ret (law_result rfl rfl HR9.out rfl) rfl ?_
   refine ⟨[.string nm, .int .i64 x1, .int .u32 (y1 : Int), .int .u32 (z1 : Int), .bool r1, .int .i64 s1, .int .i64 t1, .slice g1 M1 cc1, .int .i64 x2, .int .u32 (y2 : Int), .int .u32 (z2 : Int), .bool r2, .int .i64 s2, .int .i64 t2, .slice g2 M2 cc2, .slice ro N3 rc, .slice ao k c, .int .i64 2], rfl, ⟨[.int .i64 x1, .int .u32 (y1 : Int), .int .u32 (z1 : Int), .bool r1, .int .i64 s1, .int .i64 t1, .slice g1 M1 cc1], [.int .i64 x2, .int .u32 (y2 : Int), .int .u32 (z2 : Int), .bool r2, .int .i64 s2, .int .i64 t2, .slice g2 M2 cc2], _, _, ?_, by show l.name.size ≤ maxLen; rw [HNM.out]; exact q0, p1, p2, hwd, hou⟩, hEE⟩
   rw [show (mirLaw l).name = nm from HNM.out, show (mirLaw l).mode = 2 from (by unfold mirLaw; simp [HMD.out, hmd])]
   rfl
end Go.Proofs.YtedhogbocifipaaGreatDoor
