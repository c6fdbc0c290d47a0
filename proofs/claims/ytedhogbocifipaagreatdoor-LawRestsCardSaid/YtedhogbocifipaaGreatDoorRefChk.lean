/- ablautref08.Check, check (printed by genrefchk.py). -/
import Derived.Test.YtedhogbocifipaaGreatDoorGa16
import Derived.Test.YtedhogbocifipaaGreatDoorGa24
import Derived.Test.YtedhogbocifipaaGreatDoorGa26
set_option maxRecDepth 100000
set_option maxHeartbeats 8000000
namespace Go.Proofs.YtedhogbocifipaaGreatDoor
open Go.RowKit Go.Ab
attribute [local go_sem] Oper.semAt_some wide_fn wide_depth

def sndsB (l : Wd) (i : Nat) : Bool := (l.take i).any fun s => !okS s
def outsB (n : Nat) (l : List OutD) (i : Nat) : Bool := (l.take i).any fun x => !fitB n x
theorem sndsB_all {l : Wd} {i : Nat} (h : l.length ≤ i) : sndsB l i = l.any fun s => !okS s := by unfold sndsB; rw [List.take_of_length_le h]
theorem outsB_all {n : Nat} {l : List OutD} {i : Nat} (h : l.length ≤ i) : outsB n l i = l.any fun x => !fitB n x := by unfold outsB; rw [List.take_of_length_le h]
theorem sndsB_succ {l : Wd} {i : Nat} (h : i < l.length) (h0 : sndsB l i = false) (h1 : okS l[i] = true) : sndsB l (i + 1) = false := by
 unfold sndsB at h0 ⊢; rw [List.take_succ_eq_append_getElem h, List.any_append, h0]; simp [h1]
theorem outsB_succ {n : Nat} {l : List OutD} {i : Nat} (h : i < l.length) (h0 : outsB n l i = false) (h1 : fitB n l[i] = true) : outsB n l (i + 1) = false := by
 unfold outsB at h0 ⊢; rw [List.take_succ_eq_append_getElem h, List.any_append, h0]; simp [h1]

theorem rlcheck_any {w : World} {l : LawD} {cs : List Value} (hl : LawAt w l cs) :
  Calls Tryz.prog 18 #[.agg cs.toArray] w fun e w' => e = .returned (.int .i64 (lawE l)) ∧ Ext w w' := by
 obtain ⟨nm, k1, p1, m1, n1, a1, b1, o1, N1, c1, k2, p2, m2, n2, a2, b2, o2, N2, c2, io, N3, ic, oo, N4, oc, md, rfl, HLA, HPL, HPR, HIF, HOU, HNM, HN1, HN2, HN3, HN4, HMD, q0, q1, q2, q3, q4⟩ := law_gen hl
 have hs := string_list nm
 have hns : nm.data.toList.length ≤ 9223372036854775807 := by rw [Array.length_toList]; exact q0
 have HNA : Hid (∀ V, Ext w V → Calls Tryz.prog 49 #[.string nm] V fun e w' => e = .returned (.bool (nameB nm)) ∧ Ext V w') := Lib.hid fun V _ => by
  have := rname_any nm.data.toList hns V
  rw [← hs] at this
  exact this.mono fun e w' h => ⟨h.1, by rw [← h.2]; exact Turn.refl _ _⟩
 have HPA : Hid (∀ V, Ext w V → Calls Tryz.prog 36 #[.agg #[.int .i64 k1, .int .u32 (p1 : Int), .int .u32 (m1 : Int), .bool n1, .int .i64 a1, .int .i64 b1, .slice o1 N1 c1]] V fun e w' => e = .returned (.int .i64 (chkP l.left)) ∧ Ext V w') :=
  Lib.hid fun V hE => refcheck_any (HPL.out.ext hE)
 have HPB : Hid (∀ V, Ext w V → Calls Tryz.prog 36 #[.agg #[.int .i64 k2, .int .u32 (p2 : Int), .int .u32 (m2 : Int), .bool n2, .int .i64 a2, .int .i64 b2, .slice o2 N2 c2]] V fun e w' => e = .returned (.int .i64 (chkP l.right)) ∧ Ext V w') :=
  Lib.hid fun V hE => refcheck_any (HPR.out.ext hE)
 have HF : Hid (lawE l = if nameB nm = false then 17 else if chkP l.left ≠ 0 then 17 else if chkP l.right ≠ 0 then 17 else if 4 < N3 then 17 else if 6 < N4 then 17 else if N3 + N4 = 0 then 17 else if md < 1 ∨ 3 < md then 17 else if (l.ifs.any fun s => !okS s) = true then 17 else if (l.outs.any fun x => !fitB N3 x) = true then 17 else 0) := Lib.hid (by
  rw [lawE_prog, HNM.out, HN3.out, HN4.out, HMD.out])
 obtain ⟨R, hR⟩ : ∃ R, lawE l = R := ⟨_, rfl⟩
 rw [hR] at HF ⊢
 obtain ⟨nb, hnb⟩ : ∃ x, nameB nm = x := ⟨_, rfl⟩
 obtain ⟨c1', hc1⟩ : ∃ x, chkP l.left = x := ⟨_, rfl⟩
 obtain ⟨c2', hc2⟩ : ∃ x, chkP l.right = x := ⟨_, rfl⟩
 rw [hnb] at HNA HF
 rw [hc1] at HPA HF
 rw [hc2] at HPB HF
 clear hl hs hns hR hnb hc1 hc2 HLA HPL HPR HNM HN1 HN2 HMD
 go_enter Tryz.func18, Tryz.ntmps18
 go_upto_region 1 with (fail)
 obtain ⟨w1, hw1⟩ : ∃ D, w.alloc (.cells #[.string nm, .int .i64 k1, .int .u32 (p1 : Int), .int .u32 (m1 : Int), .bool n1, .int .i64 a1, .int .i64 b1, .slice o1 N1 c1, .int .i64 k2, .int .u32 (p2 : Int), .int .u32 (m2 : Int), .bool n2, .int .i64 a2, .int .i64 b2, .slice o2 N2 c2, .slice io N3 ic, .slice oo N4 oc, .int .i64 md] 31) = D := ⟨_, rfl⟩
 have hE1 : Ext w w1 := by rw [← hw1]; exact (Turn.refl _ w).alloc _
 have hl1 : w1.heap[w.heap.size]? = some (.cells #[.string nm, .int .i64 k1, .int .u32 (p1 : Int), .int .u32 (m1 : Int), .bool n1, .int .i64 a1, .int .i64 b1, .slice o1 N1 c1, .int .i64 k2, .int .u32 (p2 : Int), .int .u32 (m2 : Int), .bool n2, .int .i64 a2, .int .i64 b2, .slice o2 N2 c2, .slice io N3 ic, .slice oo N4 oc, .int .i64 md] 31 (0, 0)) := by rw [← hw1]; exact new_at rfl
 rw [hw1]
 obtain ⟨B, hB⟩ : ∃ b, w.heap.size = b := ⟨_, rfl⟩
 rw [hB] at hl1 ⊢
 have HL1 := Lib.hid hl1
 have cX := fun j => cell_of_row _ _ j _ _ _ HL1.out
 clear hw1 hB hl1
 go_wp2_with fail
 refine (HNA.out w1 hE1).mono ?_
 rintro e w2 ⟨rfl, hN⟩
 have hE2 := hE1.trans hN
 have HL2 := Lib.hid (hN.keep HL1.out)
 have cX := fun j => cell_of_row _ _ j _ _ _ HL2.out
 clear hN HL1 hE1 HNA
 cases nb
 ·have HR : Hid (R = 17) := Lib.hid (by rw [HF.out]; rfl)
  clear HF
  go_wp2
  go_ret
  exact ⟨by rw [HR.out]; rfl, hE2⟩
 go_wp2_with fail
 refine (HPA.out w2 hE2).mono ?_
 rintro e w3 ⟨rfl, hN⟩
 have hE3 := hE2.trans hN
 have HL3 := Lib.hid (hN.keep HL2.out)
 have cX := fun j => cell_of_row _ _ j _ _ _ HL3.out
 clear hN HL2 hE2 HPA
 by_cases hz1 : c1' = 0
 case neg =>
  have hz2 : (c1' != 0) = true := by rw [bne_iff_ne]; exact hz1
  have HR : Hid (R = 17) := Lib.hid (by rw [HF.out, if_neg (by decide), if_pos hz1])
  clear HF
  go_wp2
  go_ret
  exact ⟨by rw [HR.out]; rfl, hE3⟩
 subst hz1
 go_wp2_with fail
 refine (HPB.out w3 hE3).mono ?_
 rintro e w4 ⟨rfl, hN⟩
 have hE4 := hE3.trans hN
 have HL4 := Lib.hid (hN.keep HL3.out)
 have cX := fun j => cell_of_row _ _ j _ _ _ HL4.out
 clear hN HL3 hE3 HPB
 by_cases hz1 : c2' = 0
 case neg =>
  have hz2 : (c2' != 0) = true := by rw [bne_iff_ne]; exact hz1
  have HR : Hid (R = 17) := Lib.hid (by rw [HF.out, if_neg (by decide), if_neg (by decide), if_pos hz1])
  clear HF
  go_wp2
  go_ret
  exact ⟨by rw [HR.out]; rfl, hE4⟩
 subst hz1
 have HF2 : Hid (R = if 4 < N3 then 17 else if 6 < N4 then 17 else if N3 + N4 = 0 then 17 else if md < 1 ∨ 3 < md then 17 else if (l.ifs.any fun s => !okS s) = true then 17 else if (l.outs.any fun x => !fitB N3 x) = true then 17 else 0) := Lib.hid (by rw [HF.out]; rfl)
 clear HF
 by_cases h3 : 4 < N3
 ·have h31 : (4 : Int) < (N3 : Int) := by omega
  have HR : Hid (R = 17) := Lib.hid (by rw [HF2.out, if_pos h3])
  clear HF2
  go_wp2
  go_ret
  exact ⟨by rw [HR.out]; rfl, hE4⟩
 by_cases h4 : 6 < N4
 ·have h31 : ¬ (4 : Int) < (N3 : Int) := by omega
  have h41 : (6 : Int) < (N4 : Int) := by omega
  have HR : Hid (R = 17) := Lib.hid (by rw [HF2.out, if_neg h3, if_pos h4])
  clear HF2
  go_wp2
  go_ret
  exact ⟨by rw [HR.out]; rfl, hE4⟩
 have h31 : ¬ (4 : Int) < (N3 : Int) := by omega
 have h41 : ¬ (6 : Int) < (N4 : Int) := by omega
 by_cases h5 : N3 + N4 = 0
 ·have h51 : ((N3 : Int) + (N4 : Int) == 0) = true := by rw [beq_iff_eq]; omega
  have HR : Hid (R = 17) := Lib.hid (by rw [HF2.out, if_neg h3, if_neg h4, if_pos h5])
  clear HF2 h5
  go_wp2
  go_ret
  exact ⟨by rw [HR.out]; rfl, hE4⟩
 have h51 : ((N3 : Int) + (N4 : Int) == 0) = false := by rw [beq_eq_false_iff_ne]; omega
 by_cases h6 : md < 1
 ·have HR : Hid (R = 17) := Lib.hid (by rw [HF2.out, if_neg h3, if_neg h4, if_neg h5, if_pos (.inl h6)])
  clear HF2 h5
  go_wp2
  go_ret
  exact ⟨by rw [HR.out]; rfl, hE4⟩
 by_cases h7 : 3 < md
 ·have HR : Hid (R = 17) := Lib.hid (by rw [HF2.out, if_neg h3, if_neg h4, if_neg h5, if_pos (.inr h7)])
  clear HF2 h5
  go_wp2
  go_ret
  exact ⟨by rw [HR.out]; rfl, hE4⟩
 have HF3 : Hid (R = if (l.ifs.any fun s => !okS s) = true then 17 else if (l.outs.any fun x => !fitB N3 x) = true then 17 else 0) := Lib.hid (by rw [HF2.out, if_neg h3, if_neg h4, if_neg h5, if_neg (fun q => q.elim h6 h7)])
 clear HF2 h5
 go_wp2
 clear cX
 refine wp_loop (fun a V => ∃ (i : Nat), i ≤ N3 ∧ a.defers = [] ∧ (a.tmps.size = 82 ∧ a.tmps.getD 1 undef = .pointer (some ⟨B, 0, none⟩) ∧ a.tmps.getD 3 undef = .int .i64 i) ∧ sndsB l.ifs i = false ∧ Ext w4 V)
  (fun a _ => N3 - (intOf (a.tmps.getD 3 undef)).toNat) ?_ ?_
 ·exact ⟨0, by omega, rfl, ⟨rfl, rfl, rfl⟩, by simp [sndsB], Turn.refl _ _⟩
 rintro ⟨t, _⟩ V ⟨i, hi, hds, ⟨hsz, f1, f3⟩, hall, hEV⟩
 subst hds
 obtain ⟨u', hu⟩ := frame_fun hsz
 obtain ⟨u, rfl⟩ : ∃ x, x = u' := ⟨_, rfl⟩
 have hu' : t = #[u 0, u 1, u 2, u 3, u 4, u 5, u 6, u 7, u 8, u 9, u 10, u 11, u 12, u 13, u 14, u 15, u 16, u 17, u 18, u 19, u 20, u 21, u 22, u 23, u 24, u 25, u 26, u 27, u 28, u 29, u 30, u 31, u 32, u 33, u 34, u 35, u 36, u 37, u 38, u 39, u 40, u 41, u 42, u 43, u 44, u 45, u 46, u 47, u 48, u 49, u 50, u 51, u 52, u 53, u 54, u 55, u 56, u 57, u 58, u 59, u 60, u 61, u 62, u 63, u 64, u 65, u 66, u 67, u 68, u 69, u 70, u 71, u 72, u 73, u 74, u 75, u 76, u 77, u 78, u 79, u 80, u 81] := hu
 clear hu
 subst hu'
 change u 1 = _ at f1
 change u 3 = _ at f3
 rw [f1, f3]
 clear f1 f3 hsz
 have HALL := Lib.hid hall
 clear hall
 have hLV := hEV.keep HL4.out
 have cX := fun j => cell_of_row _ _ j _ _ _ hLV
 have hE5 := hE4.trans hEV
 by_cases hin : i < N3
 ·have h1 : (i : Int) < (N3 : Int) := by omega
  have hil : i < l.ifs.length := by rw [HN3.out]; exact hin
  obtain ⟨g, off, c', hq, hg, d0, d1⟩ := (HIF.out.ext hE5).at hil
  simp only [Value.slice.injEq] at hq
  obtain ⟨rfl, hz, rfl⟩ := hq
  clear hz
  have hgd : l.ifs.getD i (0, 0) = l.ifs[i] := by rw [List.getD_eq_getElem?_getD, List.getElem?_eq_getElem hil]; rfl
  have hlt := HIF.out.2 _ (List.getElem_mem hil)
  rw [hgd] at d0 d1
  have hc := rv_any (s := l.ifs[i]) hlt V
  obtain ⟨b, hb⟩ : ∃ b, okS l.ifs[i] = b := ⟨_, rfl⟩
  rw [hb] at hc
  obtain ⟨s, hse⟩ : ∃ s, l.ifs[i] = s := ⟨_, rfl⟩
  have HB : Hid (okS l.ifs[i] = b) := Lib.hid hb
  rw [hse] at d0 d1 hc
  obtain ⟨s1, s2⟩ := s
  dsimp only at d0 d1
  have HC := Lib.hid hc
  have HIL := Lib.hid hil
  clear hc hse hb hgd hlt
  go_wp2_with fail
  refine HC.out.mono ?_
  rintro e V2 ⟨rfl, hN⟩
  have hE6 := hEV.trans hN
  have hE7 := hE4.trans hE6
  clear HC d0 d1 hN cX hLV
  cases b
  ·have hany : (l.ifs.any fun s => !okS s) = true := List.any_eq_true.2 ⟨_, List.getElem_mem HIL.out, by rw [HB.out]; rfl⟩
   have HR : Hid (R = 17) := Lib.hid (by rw [HF3.out, if_pos hany])
   clear hany
   go_wp2
   go_ret
   exact ⟨by rw [HR.out]; rfl, hE7⟩
  ·have hnext := sndsB_succ HIL.out HALL.out HB.out
   have HNX := Lib.hid hnext
   clear hnext
   go_wp2
   exact ⟨⟨i + 1, by omega, by first | rfl | trivial, ⟨rfl, rfl, rfl⟩, HNX.out, hE6⟩, by simp [intOf]; omega⟩
 obtain rfl : N3 = i := by omega
 have h1 : ¬ (N3 : Int) < (N3 : Int) := by omega
 have hsn := HALL.out
 rw [sndsB_all (by rw [HN3.out]; exact Nat.le_refl _)] at hsn
 have HF4 : Hid (R = if (l.outs.any fun x => !fitB N3 x) = true then 17 else 0) := Lib.hid (by rw [HF3.out, if_neg (by rw [hsn]; decide)])
 clear hsn HF3 HALL
 go_wp2
 clear cX
 have HLV := Lib.hid hLV
 clear hLV
 refine wp_loop (fun a V2 => ∃ (j : Nat), j ≤ N4 ∧ a.defers = [] ∧ (a.tmps.size = 82 ∧ a.tmps.getD 1 undef = .pointer (some ⟨B, 0, none⟩) ∧ a.tmps.getD 4 undef = .int .i64 j) ∧ outsB N3 l.outs j = false ∧ Ext V V2)
  (fun a _ => N4 - (intOf (a.tmps.getD 4 undef)).toNat) ?_ ?_
 ·exact ⟨0, by omega, rfl, ⟨rfl, rfl, rfl⟩, by simp [outsB], Turn.refl _ _⟩
 obtain ⟨VV, hVV⟩ : ∃ D, V = D := ⟨_, rfl⟩
 rw [hVV]
 rw [hVV] at HLV hE5
 clear hVV hEV V
 rintro ⟨t, _⟩ V ⟨j, hj, hds, ⟨hsz, f1, f4⟩, hall, hEV⟩
 subst hds
 obtain ⟨u', hu⟩ := frame_fun hsz
 obtain ⟨u, rfl⟩ : ∃ x, x = u' := ⟨_, rfl⟩
 have hu' : t = #[u 0, u 1, u 2, u 3, u 4, u 5, u 6, u 7, u 8, u 9, u 10, u 11, u 12, u 13, u 14, u 15, u 16, u 17, u 18, u 19, u 20, u 21, u 22, u 23, u 24, u 25, u 26, u 27, u 28, u 29, u 30, u 31, u 32, u 33, u 34, u 35, u 36, u 37, u 38, u 39, u 40, u 41, u 42, u 43, u 44, u 45, u 46, u 47, u 48, u 49, u 50, u 51, u 52, u 53, u 54, u 55, u 56, u 57, u 58, u 59, u 60, u 61, u 62, u 63, u 64, u 65, u 66, u 67, u 68, u 69, u 70, u 71, u 72, u 73, u 74, u 75, u 76, u 77, u 78, u 79, u 80, u 81] := hu
 clear hu
 subst hu'
 change u 1 = _ at f1
 change u 4 = _ at f4
 rw [f1, f4]
 clear f1 f4 hsz
 have HALL := Lib.hid hall
 clear hall
 have hL9 := hEV.keep HLV.out
 have hE6 := hE5.trans hEV
 by_cases hjn : j < N4
 case neg =>
  obtain rfl : j = N4 := by omega
  have h1 : ¬ (j : Int) < (j : Int) := by omega
  have cX := fun j => cell_of_row _ _ j _ _ _ hL9
  have hsn := HALL.out
  rw [outsB_all (by rw [HN4.out]; exact Nat.le_refl _)] at hsn
  have HR : Hid (R = 0) := Lib.hid (by rw [HF4.out, if_neg (by rw [hsn]; decide)])
  clear hsn
  go_wp2
  go_ret
  exact ⟨by rw [HR.out]; rfl, hE6⟩
 have h1 : (j : Int) < (N4 : Int) := by omega
 have hil : j < l.outs.length := by rw [HN4.out]; exact hjn
 obtain ⟨g, off, c', hq, hg, hok, d0, d1, d2, d3, d4, d5⟩ := (HOU.out.ext hE6).at hil
 simp only [Value.slice.injEq] at hq
 obtain ⟨rfl, hz, rfl⟩ := hq
 clear hz
 have hc := fun (D : World) => rfits_any hok N3 q3 D
 obtain ⟨b, hb⟩ : ∃ b, fitB N3 l.outs[j] = b := ⟨_, rfl⟩
 simp only [hb] at hc
 have HB : Hid (fitB N3 l.outs[j] = b) := Lib.hid hb
 obtain ⟨x, hx⟩ : ∃ x, l.outs[j] = x := ⟨_, rfl⟩
 rw [hx] at d0 d1 d2 d3 d4 d5 hc
 obtain ⟨x0, x1, ⟨x2, x3⟩, x4, x5⟩ := x
 unfold outCells at hc
 dsimp only at d0 d1 d2 d3 d4 d5 hc
 have HC := Lib.hid hc; have HIL := Lib.hid hil
 have hcs : ∀ (D : World), Ext V D → D.cell? ⟨B, 15, none⟩ = some (.slice io N3 ic) ∧ D.cell? ⟨B, 16, none⟩ = some (.slice (some ⟨g, off, none⟩) N4 oc) ∧ D.cell? ⟨g, off + j * 6, none⟩ = some (.int .i64 x0) ∧ D.cell? ⟨g, off + j * 6 + 1, none⟩ = some (.int .u32 (x1 : Int)) ∧ D.cell? ⟨g, off + j * 6 + 2, none⟩ = some (.int .u32 (x2 : Int)) ∧ D.cell? ⟨g, off + j * 6 + 3, none⟩ = some (.int .u32 (x3 : Int)) ∧ D.cell? ⟨g, off + j * 6 + 4, none⟩ = some (.int .u32 (x4 : Int)) ∧ D.cell? ⟨g, off + j * 6 + 5, none⟩ = some (.int .i64 x5) := by
  intro D hD
  have h0 := hD.keep hL9
  exact ⟨cell_of_row _ _ 15 _ _ _ h0, cell_of_row _ _ 16 _ _ _ h0, hD.cell_some d0 id, hD.cell_some d1 id, hD.cell_some d2 id, hD.cell_some d3 id, hD.cell_some d4 id, hD.cell_some d5 id⟩
 have HS := Lib.hid hcs
 have cX := cell_of_row _ _ 16 _ _ _ hL9
 clear hc hb hx hok d0 d1 d2 d3 d4 d5 hcs hL9
 go_upto_region 13 with (fail)
 clear cX
 refine wp_region_held_drew (S := fun D => D.cell? ⟨B, 15, none⟩ = some (.slice io N3 ic) ∧ D.cell? ⟨B, 16, none⟩ = some (.slice (some ⟨g, off, none⟩) N4 oc) ∧ D.cell? ⟨g, off + j * 6, none⟩ = some (.int .i64 x0) ∧ D.cell? ⟨g, off + j * 6 + 1, none⟩ = some (.int .u32 (x1 : Int)) ∧ D.cell? ⟨g, off + j * 6 + 2, none⟩ = some (.int .u32 (x2 : Int)) ∧ D.cell? ⟨g, off + j * 6 + 3, none⟩ = some (.int .u32 (x3 : Int)) ∧ D.cell? ⟨g, off + j * 6 + 4, none⟩ = some (.int .u32 (x4 : Int)) ∧ D.cell? ⟨g, off + j * 6 + 5, none⟩ = some (.int .i64 x5)) (by kernel_rfl) (HS.out _ (Turn.drew (Turn.refl _ V))) ?_
 intro hS0
 refine tkH (i := 0) (d := 72) (v := ?_) rfl (Or.inl ⟨by rfl, ?_⟩) hS0 ?_
 rotate_left
 ·intro w hSw; (try dsimp only at hSw); go_simp; try with_reducible rfl
 try simp only [Act.put, pq]
 refine tkH (i := 1) (d := 73) (v := ?_) rfl (Or.inl ⟨by rfl, ?_⟩) hS0 ?_
 rotate_left
 ·intro w hSw; (try dsimp only at hSw); go_simp; try with_reducible rfl
 try simp only [Act.put, pq]
 refine tkH (i := 2) (d := 74) (v := ?_) rfl (Or.inl ⟨by rfl, ?_⟩) hS0 ?_
 rotate_left
 ·intro w hSw; (try dsimp only at hSw); go_simp; try with_reducible rfl
 try simp only [Act.put, pq]
 refine tkH (i := 3) (d := 75) (v := ?_) rfl (Or.inl ⟨by rfl, ?_⟩) hS0 ?_
 rotate_left
 ·intro w hSw; (try dsimp only at hSw); go_simp; try with_reducible rfl
 try simp only [Act.put, pq]
 refine tkH (i := 4) (d := 76) (v := ?_) rfl (Or.inl ⟨by rfl, ?_⟩) hS0 ?_
 rotate_left
 ·intro w hSw; (try dsimp only at hSw); go_simp; try with_reducible rfl
 try simp only [Act.put, pq]
 refine tkH (i := 5) (d := 77) (v := ?_) rfl (Or.inl ⟨by rfl, ?_⟩) hS0 ?_
 rotate_left
 ·intro w hSw; (try dsimp only at hSw); go_simp; try with_reducible rfl
 try simp only [Act.put, pq]
 refine tkH (i := 6) (d := 78) (v := ?_) rfl (Or.inl ⟨by rfl, ?_⟩) hS0 ?_
 rotate_left
 ·intro w hSw; (try dsimp only at hSw); go_simp; try with_reducible rfl
 try simp only [Act.put, pq]
 refine tkH (i := 7) (d := 79) (v := ?_) rfl (Or.inl ⟨by rfl, ?_⟩) hS0 ?_
 rotate_left
 ·intro w hSw; (try dsimp only at hSw); go_simp; try with_reducible rfl
 try simp only [Act.put, pq]
 refine wpAnyH_ready (rs := [8]) (by kernel_rfl) (by simp) ?_
 refine AllReadyH.cons rfl (fun K hK => ?_) AllReadyH.nil
 (try rw [if_pos (show Region.wanted _ _ = true from rfl)])
 go_simp
 refine (HC.out _).mono ?_
 rintro e w5 ⟨rfl, hN⟩
 have hw5 : Ext V w5 := Turn.trans (Turn.drew (Turn.refl _ V)) hN
 refine hK.out _ _ (HS.out _ hw5) (fun hS1 => ?_)
 clear hK K hN
 refine tkH (i := 9) (d := 81) (v := ?_) rfl (Or.inl ⟨by rfl, ?_⟩) hS1 ?_
 rotate_left
 ·intro w hSw; (try dsimp only at hSw); go_simp; try with_reducible rfl
 try simp only [Act.put, pq]
 refine wpAnyH_done (by kernel_rfl) ?_ _
 clear hS0 hS1 HS
 have hE7 := hEV.trans hw5
 have hE8 := hE5.trans hE7
 cases b
 ·have hany : (l.outs.any fun x => !fitB N3 x) = true := List.any_eq_true.2 ⟨_, List.getElem_mem HIL.out, by rw [HB.out]; rfl⟩
  have HR : Hid (R = 17) := Lib.hid (by rw [HF4.out, if_pos hany])
  clear hany
  go_wp2
  go_ret
  exact ⟨by rw [HR.out]; rfl, hE8⟩
 ·have hnext := outsB_succ HIL.out HALL.out HB.out
  have HNX := Lib.hid hnext
  clear hnext
  go_wp2
  exact ⟨⟨j + 1, by omega, by first | rfl | trivial, ⟨rfl, rfl, rfl⟩, HNX.out, hE7⟩, by simp [intOf]; omega⟩

theorem rlwcheck_any {w : World} {l : LawD} {cs : List Value} {v : Value} {ws : Wd} (hl : LawAt w l cs) (hv : WordAt w v ws) :
  Calls Tryz.prog 58 #[.agg cs.toArray, v] w fun e w' => e = .returned (.int .i64 (lawW l ws)) ∧ Ext w w' := by
 obtain ⟨vo, vc, rfl, _⟩ := hv.slice
 obtain ⟨vn, hvn⟩ : ∃ n, ws.length = n := ⟨_, rfl⟩
 rw [hvn] at hv ⊢
 have hw := fun (V : World) (hE : Ext w V) => rcheck_any (hv.ext hE)
 have hlc := fun (V : World) (hE : Ext w V) => rlcheck_any (hl.ext hE)
 obtain ⟨nm, k1, p1, m1, n1, a1, b1, o1, N1, c1, k2, p2, m2, n2, a2, b2, o2, N2, c2, io, N3, ic, oo, N4, oc, md, rfl, HLA, HPL, HPR, HIF, HOU, HNM, HN1, HN2, HN3, HN4, HMD, q0, q1, q2, q3, q4⟩ := law_gen hl
 have HF : Hid (lawW l ws = if lawE l = 0 then wE ws else lawE l) := Lib.hid (by unfold lawW lawE; cases lawB l <;> rfl)
 obtain ⟨R, hR⟩ : ∃ R, lawW l ws = R := ⟨_, rfl⟩
 obtain ⟨e1, he1⟩ : ∃ R, lawE l = R := ⟨_, rfl⟩
 obtain ⟨e2, he2⟩ : ∃ R, wE ws = R := ⟨_, rfl⟩
 rw [hR, he1, he2] at HF
 rw [he1] at hlc
 rw [he2] at hw
 rw [hR]
 have HW := Lib.hid hw; have HLC := Lib.hid hlc
 clear hvn hR he1 he2 hw hlc hv hl HLA HPL HPR HIF HOU HNM HN1 HN2 HN3 HN4 HMD
 have hE0 : Ext w (w.alloc (.cells #[.string nm, .int .i64 k1, .int .u32 (p1 : Int), .int .u32 (m1 : Int), .bool n1, .int .i64 a1, .int .i64 b1, .slice o1 N1 c1, .int .i64 k2, .int .u32 (p2 : Int), .int .u32 (m2 : Int), .bool n2, .int .i64 a2, .int .i64 b2, .slice o2 N2 c2, .slice io N3 ic, .slice oo N4 oc, .int .i64 md] 31)) := (Turn.refl _ w).alloc _
 go_enter Tryz.func58, Tryz.ntmps58
 go_wp2_with (refine wpList_load_row rfl 31 (.tmp 2) rfl w.heap.size rfl _ _ _ _ (new_at rfl) Tryz.underlying31 rfl Tryz.lawInfo ?_)
 refine (HLC.out _ hE0).mono ?_
 rintro e w1 ⟨rfl, hN⟩
 have hE1 := hE0.trans hN
 clear hN hE0
 by_cases hz1 : e1 = 0
 case neg =>
  have hz2 : (e1 != 0) = true := by rw [bne_iff_ne]; exact hz1
  have HR : Hid (R = e1) := Lib.hid (by rw [HF.out, if_neg hz1])
  clear HF
  go_wp2
  go_ret
  exact ⟨by rw [HR.out]; rfl, hE1⟩
 subst hz1
 have HR : Hid (R = e2) := Lib.hid (by rw [HF.out, if_pos rfl])
 go_wp2_with fail
 refine (HW.out _ hE1).mono ?_
 rintro e w2 ⟨rfl, hN⟩
 go_wp2
 go_ret
 exact ⟨by rw [HR.out]; rfl, hE1.trans hN⟩
end Go.Proofs.YtedhogbocifipaaGreatDoor
