/- law.run (printed by genlrun.py). law.fits. slices.ContainsFunc over sounds and over elements of Out; law.Check$1, Check$2 (printed by genhasfn.py). -/
import Derived.Test.YtamkkhlabfahmaaGreatDoorRunA
import Derived.Test.YtamkkhlabfahmaaGreatDoorGa14
import Derived.Test.YtamkkhlabfahmaaGreatDoorGa08
import Derived.Test.YtamkkhlabfahmaaGreatDoorGa09
set_option maxRecDepth 100000
set_option maxHeartbeats 8000000
namespace Go.Proofs.YtamkkhlabfahmaaGreatDoor
open Go.RowKit Go.Ab
attribute [local go_sem] Oper.semAt_some wide_fn wide_depth

theorem lrun_any {w : World} {l : LawD} {cs : List Value} {vo : Option Addr} {vn vc : Nat} (hl : LawAt w l cs) :
  Calls Tryz.prog 94 #[.agg cs.toArray, .slice vo vn vc] w fun e w' => ∃ Bk Bm, e = .returned (.func (.func 130) #[] #[.pointer (some ⟨w.heap.size + 1, 0, none⟩), .pointer (some ⟨w.heap.size, 0, none⟩), .pointer (some ⟨Bk, 0, none⟩), .pointer (some ⟨Bm, 0, none⟩)]) ∧
   LBx w' w.heap.size l cs ∧ SlBox w' (w.heap.size + 1) (.slice vo vn vc) ∧ w'.heap[Bk]? = some (.cells #[.int .i64 (l.ifs.length : Int)] 3 (0, 0)) ∧ w'.heap[Bm]? = some (.cells #[.int .i64 (l.outs.length : Int)] 3 (0, 0)) ∧ w.heap.size ≤ Bk ∧ w.heap.size ≤ Bm ∧ Ext w w' := by
 obtain ⟨nm, k1, p1, m1, n1, a1, b1, o1, N1, c1, k2, p2, m2, n2, a2, b2, o2, N2, c2, io, N3, ic, oo, N4, oc, md, rfl, HLA, HPL, HPR, HIF, HOU, HNM, HN1, HN2, HN3, HN4, HMD, q0, q1, q2, q3, q4⟩ := law_gen hl
 rw [HN3.out, HN4.out]
 clear hl
 go_enter Tryz.func94, Tryz.ntmps94
 go_upto_region 1 with (fail)
 obtain ⟨w1, hw1⟩ : ∃ D, (w.alloc (.cells #[.string nm, .int .i64 k1, .int .u32 (p1 : Int), .int .u32 (m1 : Int), .bool n1, .int .i64 a1, .int .i64 b1, .slice o1 N1 c1, .int .i64 k2, .int .u32 (p2 : Int), .int .u32 (m2 : Int), .bool n2, .int .i64 a2, .int .i64 b2, .slice o2 N2 c2, .slice io N3 ic, .slice oo N4 oc, .int .i64 md] 34)).alloc (.cells #[.slice vo vn vc] 32) = D := ⟨_, rfl⟩
 have hE1 : Ext w w1 := by rw [← hw1]; exact ((Turn.refl _ w).alloc _).alloc _
 have hl1 : w1.heap[w.heap.size]? = some (.cells #[.string nm, .int .i64 k1, .int .u32 (p1 : Int), .int .u32 (m1 : Int), .bool n1, .int .i64 a1, .int .i64 b1, .slice o1 N1 c1, .int .i64 k2, .int .u32 (p2 : Int), .int .u32 (m2 : Int), .bool n2, .int .i64 a2, .int .i64 b2, .slice o2 N2 c2, .slice io N3 ic, .slice oo N4 oc, .int .i64 md] 34 (0, 0)) := by rw [← hw1]; exact new_keep (new_at rfl)
 have hv1 : SlBox w1 (w.heap.size + 1) (.slice vo vn vc) := by rw [← hw1]; exact new_at (by simp)
 have hs1 : w1.heap.size = w.heap.size + 2 := by rw [← hw1]; simp
 rw [hw1]
 clear hw1
 obtain ⟨B, hB⟩ : ∃ b, w.heap.size = b := ⟨_, rfl⟩
 rw [hB] at hl1 hv1 hs1 ⊢
 have HB := Lib.hid hs1; have HBW := Lib.hid hB; have HL1 := Lib.hid hl1; have HV1 := Lib.hid hv1
 have hcs : ∀ (D : World), Turn (fun b => w1.heap.size ≤ b) w1 D → D.cell? ⟨B, 15, none⟩ = some (.slice io N3 ic) ∧ D.cell? ⟨B, 16, none⟩ = some (.slice oo N4 oc) := by
  intro D hD
  have h0 := hD.heap HL1.out (by have := HB.out; omega)
  exact ⟨cell_of_row _ _ 15 _ _ _ h0, cell_of_row _ _ 16 _ _ _ h0⟩
 have HS := Lib.hid hcs
 clear hcs hl1 hv1 hs1 hB
 refine wp_region_late (S := fun D => D.cell? ⟨B, 15, none⟩ = some (.slice io N3 ic) ∧ D.cell? ⟨B, 16, none⟩ = some (.slice oo N4 oc)) [] (by kernel_rfl) (HS.out _ (Turn.drew (Turn.refl _ w1))) ?_
 intro hS0
 refine tkE (i := 0) (d := 7) (v := ?_) rfl (Or.inl ⟨by rfl, ?_⟩) hS0 ?_
 rotate_left
 ·intro w hSw; (try dsimp only at hSw); go_simp; try with_reducible rfl
 try simp only [Act.put, pq]
 refine tkE (i := 1) (d := 8) (v := ?_) rfl (Or.inl ⟨by rfl, ?_⟩) hS0 ?_
 rotate_left
 ·intro w hSw; (try dsimp only at hSw); go_simp; try with_reducible rfl
 try simp only [Act.put, pq]
 refine tkE (i := 2) (d := 9) (v := ?_) rfl (Or.inl ⟨by rfl, ?_⟩) hS0 ?_
 rotate_left
 ·intro w hSw; (try dsimp only at hSw); go_simp; try with_reducible rfl
 try simp only [Act.put, pq]
 refine tkE (i := 3) (d := 10) (v := ?_) rfl (Or.inl ⟨by rfl, ?_⟩) hS0 ?_
 rotate_left
 ·intro w hSw; (try dsimp only at hSw); go_simp; try with_reducible rfl
 try simp only [Act.put, pq]
 refine tkE (i := 4) (d := 11) (v := ?_) rfl (Or.inl ⟨by rfl, ?_⟩) hS0 ?_
 rotate_left
 ·intro w hSw; (try dsimp only at hSw); go_simp; try with_reducible rfl
 try simp only [Act.put, pq]
 refine tkE (i := 5) (d := 12) (v := ?_) rfl (Or.inl ⟨by rfl, ?_⟩) hS0 ?_
 rotate_left
 ·intro w hSw; (try dsimp only at hSw); go_simp; try with_reducible rfl
 try simp only [Act.put, pq]
 refine wpAnyE_ready (rs := [6, 7]) (by kernel_rfl) (by simp) ?_
 refine AllReadyE.cons rfl (fun K hK => ?_) (AllReadyE.cons rfl (fun K hK => ?_) AllReadyE.nil)
 ·(try rw [if_pos (show Region.wanted _ _ = true from rfl)])
  go_simp
  have hE2 : Ext w1 ((w1.drew).alloc (.cells #[.int .i64 0] 3)) := Turn.alloc (Turn.drew (Turn.refl _ w1)) _
  refine hK.out _ _ (HS.out _ (Ext.of hE2)) (fun hS2 => ?_)
  clear hK K
  try simp only [Act.put, pq]
  refine wpAnyE_ready (rs := [7]) (by kernel_rfl) (by simp) ?_
  refine AllReadyE.cons rfl (fun K hK => ?_) AllReadyE.nil
  (try rw [if_pos (show Region.wanted _ _ = true from rfl)])
  go_simp
  have hE3 : Ext w1 ((w1.drew.alloc (.cells #[.int .i64 0] 3)).alloc (.cells #[.int .i64 0] 3)) := Turn.alloc (hE2) _
  refine hK.out _ _ (HS.out _ (Ext.of hE3)) (fun hS3 => ?_)
  clear hK K
  try simp only [Act.put, pq]
  rw [HB.out, show B + 2 + 1 = B + 3 from rfl]
  obtain ⟨w3, hw3⟩ : ∃ D, ((w1.alloc (.cells #[.int .i64 0] 3)).alloc (.cells #[.int .i64 0] 3)).drew = D := ⟨_, rfl⟩
  have hE13 : Ext w1 w3 := by rw [← hw3]; exact (((Turn.refl _ w1).alloc _).alloc _).drew
  have hz2 : w3.heap[B + 2]? = some (.cells #[.int .i64 0] 3 (0, 0)) := by rw [← hw3]; exact drew_keep (new_keep (new_at HB.out.symm))
  have hz3 : w3.heap[B + 3]? = some (.cells #[.int .i64 0] 3 (0, 0)) := by rw [← hw3]; exact drew_keep (new_at (by simp [HB.out]))
  rw [hw3]
  clear hw3 hS2 hS3 hE2 hE3
  refine wpAnyE_ready (rs := [8]) (by kernel_rfl) (by simp) ?_
  refine AllReadyE.cons rfl (fun K hK => ?_) AllReadyE.nil
  (try rw [if_pos (show Region.wanted _ _ = true from rfl)])
  have cK := cell_of_one hz2
  have fK := free_of_one hz2
  go_simp
  have hT4 : Turn (fun b => b = B + 2) w3 (w3.setCell ⟨B + 2, 0, none⟩ (.int .i64 (N3 : Int))) := Turn.set1 w3 (B + 2) 0 _
  have hm4 := hT4.heap hz3 (by omega)
  have hk4 := cell1_set (.int .i64 (N3 : Int)) hz2
  refine hK.out _ _ (HS.out _ ((Ext.of hE13).trans (hT4.mono (fun b hb e => by have := HB.out; omega)))) (fun hS4 => ?_)
  clear hK K cK fK
  (try change wpAnyE _ _ _ _ _ _ _ _ (Act.put _ none _) _)
  (try simp only [Act.put])
  obtain ⟨w4, hw4⟩ : ∃ D, w3.setCell ⟨B + 2, 0, none⟩ (.int .i64 (N3 : Int)) = D := ⟨_, rfl⟩
  rw [hw4] at hT4 hm4 hk4 hS4 ⊢
  clear hw4
  refine wpAnyE_ready (rs := [9]) (by kernel_rfl) (by simp) ?_
  refine AllReadyE.cons rfl (fun K hK => ?_) AllReadyE.nil
  (try rw [if_pos (show Region.wanted _ _ = true from rfl)])
  have cM := cell_of_one hm4
  have fM := free_of_one hm4
  go_simp
  have hT5 : Turn (fun b => b = B + 3) w4 (w4.setCell ⟨B + 3, 0, none⟩ (.int .i64 (N4 : Int))) := Turn.set1 w4 (B + 3) 0 _
  have hk5 := hT5.heap hk4 (by omega)
  have hm5 := cell1_set (.int .i64 (N4 : Int)) hm4
  refine hK.out _ _ (HS.out _ (((Ext.of hE13).trans (hT4.mono (fun b hb e => by have := HB.out; omega))).trans (hT5.mono (fun b hb e => by have := HB.out; omega)))) (fun _ => ?_)
  clear hK K cM fM
  (try change wpAnyE _ _ _ _ _ _ _ _ (Act.put _ none _) _)
  (try simp only [Act.put])
  refine wpAnyE_done (by kernel_rfl) ?_ _
  have hEE : Ext w1 (w4.setCell ⟨B + 3, 0, none⟩ (.int .i64 (N4 : Int))) := Turn.after (Turn.after hE13 hT4 (fun b hb e => by have := HB.out; omega)) hT5 (fun b hb e => by have := HB.out; omega)
  obtain ⟨w5, hw5⟩ : ∃ D, w4.setCell ⟨B + 3, 0, none⟩ (.int .i64 (N4 : Int)) = D := ⟨_, rfl⟩
  rw [hw5] at hk5 hm5 hEE ⊢
  clear hw5 hT4 hT5 hm4 hk4 hS4 hE13 hz2 hz3
  go_wp2
  go_ret
  refine ⟨B + 2, B + 3, ?_⟩
  rw [HBW.out]
  exact ⟨rfl, ⟨hEE.keep HL1.out, HLA.out.ext (hE1.trans hEE)⟩, hEE.keep HV1.out, hk5, hm5, by omega, by omega, hE1.trans hEE⟩
 ·(try rw [if_pos (show Region.wanted _ _ = true from rfl)])
  go_simp
  have hE2 : Ext w1 ((w1.drew).alloc (.cells #[.int .i64 0] 3)) := Turn.alloc (Turn.drew (Turn.refl _ w1)) _
  refine hK.out _ _ (HS.out _ (Ext.of hE2)) (fun hS2 => ?_)
  clear hK K
  try simp only [Act.put, pq]
  refine wpAnyE_ready (rs := [6]) (by kernel_rfl) (by simp) ?_
  refine AllReadyE.cons rfl (fun K hK => ?_) AllReadyE.nil
  (try rw [if_pos (show Region.wanted _ _ = true from rfl)])
  go_simp
  have hE3 : Ext w1 ((w1.drew.alloc (.cells #[.int .i64 0] 3)).alloc (.cells #[.int .i64 0] 3)) := Turn.alloc (hE2) _
  refine hK.out _ _ (HS.out _ (Ext.of hE3)) (fun hS3 => ?_)
  clear hK K
  try simp only [Act.put, pq]
  rw [HB.out, show B + 2 + 1 = B + 3 from rfl]
  obtain ⟨w3, hw3⟩ : ∃ D, ((w1.alloc (.cells #[.int .i64 0] 3)).alloc (.cells #[.int .i64 0] 3)).drew = D := ⟨_, rfl⟩
  have hE13 : Ext w1 w3 := by rw [← hw3]; exact (((Turn.refl _ w1).alloc _).alloc _).drew
  have hz2 : w3.heap[B + 2]? = some (.cells #[.int .i64 0] 3 (0, 0)) := by rw [← hw3]; exact drew_keep (new_keep (new_at HB.out.symm))
  have hz3 : w3.heap[B + 3]? = some (.cells #[.int .i64 0] 3 (0, 0)) := by rw [← hw3]; exact drew_keep (new_at (by simp [HB.out]))
  rw [hw3]
  clear hw3 hS2 hS3 hE2 hE3
  refine wpAnyE_ready (rs := [8]) (by kernel_rfl) (by simp) ?_
  refine AllReadyE.cons rfl (fun K hK => ?_) AllReadyE.nil
  (try rw [if_pos (show Region.wanted _ _ = true from rfl)])
  have cK := cell_of_one hz3
  have fK := free_of_one hz3
  go_simp
  have hT4 : Turn (fun b => b = B + 3) w3 (w3.setCell ⟨B + 3, 0, none⟩ (.int .i64 (N3 : Int))) := Turn.set1 w3 (B + 3) 0 _
  have hm4 := hT4.heap hz2 (by omega)
  have hk4 := cell1_set (.int .i64 (N3 : Int)) hz3
  refine hK.out _ _ (HS.out _ ((Ext.of hE13).trans (hT4.mono (fun b hb e => by have := HB.out; omega)))) (fun hS4 => ?_)
  clear hK K cK fK
  (try change wpAnyE _ _ _ _ _ _ _ _ (Act.put _ none _) _)
  (try simp only [Act.put])
  obtain ⟨w4, hw4⟩ : ∃ D, w3.setCell ⟨B + 3, 0, none⟩ (.int .i64 (N3 : Int)) = D := ⟨_, rfl⟩
  rw [hw4] at hT4 hm4 hk4 hS4 ⊢
  clear hw4
  refine wpAnyE_ready (rs := [9]) (by kernel_rfl) (by simp) ?_
  refine AllReadyE.cons rfl (fun K hK => ?_) AllReadyE.nil
  (try rw [if_pos (show Region.wanted _ _ = true from rfl)])
  have cM := cell_of_one hm4
  have fM := free_of_one hm4
  go_simp
  have hT5 : Turn (fun b => b = B + 2) w4 (w4.setCell ⟨B + 2, 0, none⟩ (.int .i64 (N4 : Int))) := Turn.set1 w4 (B + 2) 0 _
  have hk5 := hT5.heap hk4 (by omega)
  have hm5 := cell1_set (.int .i64 (N4 : Int)) hm4
  refine hK.out _ _ (HS.out _ (((Ext.of hE13).trans (hT4.mono (fun b hb e => by have := HB.out; omega))).trans (hT5.mono (fun b hb e => by have := HB.out; omega)))) (fun _ => ?_)
  clear hK K cM fM
  (try change wpAnyE _ _ _ _ _ _ _ _ (Act.put _ none _) _)
  (try simp only [Act.put])
  refine wpAnyE_done (by kernel_rfl) ?_ _
  have hEE : Ext w1 (w4.setCell ⟨B + 2, 0, none⟩ (.int .i64 (N4 : Int))) := Turn.after (Turn.after hE13 hT4 (fun b hb e => by have := HB.out; omega)) hT5 (fun b hb e => by have := HB.out; omega)
  obtain ⟨w5, hw5⟩ : ∃ D, w4.setCell ⟨B + 2, 0, none⟩ (.int .i64 (N4 : Int)) = D := ⟨_, rfl⟩
  rw [hw5] at hk5 hm5 hEE ⊢
  clear hw5 hT4 hT5 hm4 hk4 hS4 hE13 hz2 hz3
  go_wp2
  go_ret
  refine ⟨B + 3, B + 2, ?_⟩
  rw [HBW.out]
  exact ⟨rfl, ⟨hEE.keep HL1.out, HLA.out.ext (hE1.trans hEE)⟩, hEE.keep HV1.out, hk5, hm5, by omega, by omega, hE1.trans hEE⟩


theorem or_zero {a b : Nat} : a ||| b = 0 ↔ a = 0 ∧ b = 0 := by
 constructor
 ·intro h
  have h1 := Nat.left_le_or (n := a) (m := b)
  have h2 := Nat.right_le_or (n := a) (m := b)
  omega
 ·rintro ⟨rfl, rfl⟩; rfl
theorem and_or_zero {a b c : Nat} : a &&& (b ||| c) = 0 ↔ a &&& b = 0 ∧ a &&& c = 0 := by rw [Nat.and_or_distrib_left, or_zero]
theorem high_zero {a b : Nat} (ha : a < 4294967296) (hb : b < 4294967296) : andn (a ||| b) 16777215 = 0 ↔ a < 16777216 ∧ b < 16777216 := by
 have hab : a ||| b < 4294967296 := Nat.or_lt_two_pow (n := 32) ha hb
 constructor
 ·intro h
  have key : ∀ i, 24 ≤ i → (a ||| b).testBit i = false := fun i hi => by
   by_cases h32 : i < 32
   ·have := congrArg (fun v => Nat.testBit v i) h
    simp only [Nat.zero_testBit] at this
    rw [andn_bit _ hab, show (16777215 : Nat) = 2 ^ 24 - 1 from rfl, Nat.testBit_two_pow_sub_one] at this
    simpa [show ¬ i < 24 by omega] using this
   ·exact high32 hab (by omega)
  have hlt : a ||| b < 2 ^ 24 := Nat.lt_pow_two_of_testBit _ fun i hi => key i hi
  have h1 := Nat.left_le_or (n := a) (m := b)
  have h2 := Nat.right_le_or (n := a) (m := b)
  omega
 ·rintro ⟨h1, h2⟩
  have hlt : a ||| b < 2 ^ 24 := Nat.or_lt_two_pow (n := 24) (by simpa using h1) (by simpa using h2)
  apply Nat.eq_of_testBit_eq
  intro i
  rw [andn_bit _ hab, Nat.zero_testBit, show (16777215 : Nat) = 2 ^ 24 - 1 from rfl, Nat.testBit_two_pow_sub_one]
  by_cases hi : i < 24
  ·simp [hi]
  ·rw [Nat.testBit_lt_two_pow (Nat.lt_of_lt_of_le hlt (Nat.pow_le_pow_right (by decide) (by omega)))]; rfl
/-- fitB as the program asks. -/
theorem fit_prog {k : Nat} {x : OutD} (hx : OutOk x) : fitB k x = if x.frm < -1 ∨ (k : Int) ≤ x.frm then false else if okS x.st = false then false else if andn (x.cl ||| x.tk) 16777215 ≠ 0 then false else if x.cl &&& (x.st.1 ||| x.st.2) ≠ 0 then false else
  if x.tk &&& ((x.st.1 ||| x.st.2) ||| x.cl) ≠ 0 then false else if x.tk = 0 then decide (x.ofi = 0) else (decide (0 ≤ x.ofi) && decide (x.ofi < k)) := by
 have hh := high_zero hx.1 hx.2.2
 have ho := and_or_zero (a := x.tk) (b := x.st.1 ||| x.st.2) (c := x.cl)
 unfold fitB
 by_cases h1 : x.frm < -1 ∨ (k : Int) ≤ x.frm
 ·rw [if_pos h1]
  rcases h1 with h1 | h1
  ·rw [show decide (-1 ≤ x.frm) = false by rw [decide_eq_false_iff_not]; omega]; simp
  ·rw [show decide (x.frm < (k : Int)) = false by rw [decide_eq_false_iff_not]; omega]; simp
 rw [if_neg h1, show decide (-1 ≤ x.frm) = true by rw [decide_eq_true_iff]; omega, show decide (x.frm < (k : Int)) = true by rw [decide_eq_true_iff]; omega]
 by_cases h2 : okS x.st = false
 ·rw [if_pos h2, h2]; simp
 rw [if_neg h2, show okS x.st = true by simpa using h2]
 by_cases h3 : andn (x.cl ||| x.tk) 16777215 = 0
 ·rw [if_neg (show ¬ (andn (x.cl ||| x.tk) 16777215 ≠ 0) from fun q => q h3), decide_eq_true (hh.1 h3).1, decide_eq_true (hh.1 h3).2]
  by_cases h4 : x.cl &&& (x.st.1 ||| x.st.2) = 0
  ·rw [if_neg (show ¬ (x.cl &&& (x.st.1 ||| x.st.2) ≠ 0) from fun q => q h4), decide_eq_true h4]
   by_cases h5 : x.tk &&& ((x.st.1 ||| x.st.2) ||| x.cl) = 0
   ·rw [if_neg (show ¬ (x.tk &&& ((x.st.1 ||| x.st.2) ||| x.cl) ≠ 0) from fun q => q h5), decide_eq_true (ho.1 h5).1, decide_eq_true (ho.1 h5).2]; simp only [Bool.and_self, Bool.true_and]
   ·rw [if_pos h5]
    by_cases h6 : x.tk &&& (x.st.1 ||| x.st.2) = 0
    ·rw [show decide (x.tk &&& x.cl = 0) = false by rw [decide_eq_false_iff_not]; exact fun h7 => h5 (ho.2 ⟨h6, h7⟩)]; simp
    ·rw [decide_eq_false h6]; simp
  ·rw [if_pos h4, decide_eq_false h4]; simp
 ·rw [if_pos h3]
  by_cases h6 : x.cl < 16777216
  ·rw [show decide (x.tk < 16777216) = false by rw [decide_eq_false_iff_not]; exact fun h7 => h3 (hh.2 ⟨h6, h7⟩)]; simp
  ·rw [decide_eq_false h6]; simp

theorem fits_any {x : OutD} (hx : OutOk x) (k : Nat) (_hk : k ≤ 9223372036854775807) (w : World) :
  Calls Tryz.prog 97 #[.agg (outCells x).toArray, .int .i64 (k : Int)] w fun e w' => e = .returned (.bool (fitB k x)) ∧ Ext w w' := by
 have HF := Lib.hid (fit_prog (k := k) hx)
 obtain ⟨fr, cl, ⟨sa, sb⟩, tk, ofi⟩ := x
 obtain ⟨hcl, ⟨hsa, hsb⟩, htk⟩ := hx
 dsimp only at hcl hsa hsb htk HF
 have hv := fun (D : World) => fvalid_any (s := (sa, sb)) ⟨hsa, hsb⟩ D
 have o1 := u32_or_nat sa sb hsa hsb
 have hs : sa ||| sb < 4294967296 := Nat.or_lt_two_pow (n := 32) hsa hsb
 obtain ⟨s, hse⟩ : ∃ s, sa ||| sb = s := ⟨_, rfl⟩
 rw [hse] at o1 hs HF
 have o2 := u32_or_nat cl tk hcl htk
 have hct : cl ||| tk < 4294967296 := Nat.or_lt_two_pow (n := 32) hcl htk
 obtain ⟨ct, hcte⟩ : ∃ s, cl ||| tk = s := ⟨_, rfl⟩
 rw [hcte] at o2 hct HF
 have o3 : bits .andNot .u32 (ct : Int) 16777215 = ((andn ct 16777215 : Nat) : Int) := andn32 ct 16777215 hct (by omega)
 obtain ⟨e, hee⟩ : ∃ s, andn ct 16777215 = s := ⟨_, rfl⟩
 rw [hee] at o3 HF
 have o4 := u32_and_nat cl s hcl hs
 obtain ⟨f, hfe⟩ : ∃ y, cl &&& s = y := ⟨_, rfl⟩
 rw [hfe] at o4 HF
 have o5 := u32_or_nat s cl hs hcl
 have hsc : s ||| cl < 4294967296 := Nat.or_lt_two_pow (n := 32) hs hcl
 obtain ⟨g, hge⟩ : ∃ y, s ||| cl = y := ⟨_, rfl⟩
 rw [hge] at o5 HF hsc
 have o6 := u32_and_nat tk g htk hsc
 obtain ⟨h, hhe⟩ : ∃ y, tk &&& g = y := ⟨_, rfl⟩
 rw [hhe] at o6 HF
 obtain ⟨b, hbe⟩ : ∃ y, okS (sa, sb) = y := ⟨_, rfl⟩
 rw [hbe] at hv HF
 have HV := Lib.hid hv
 obtain ⟨R, hR⟩ : ∃ R, fitB k { frm := fr, cl := cl, st := (sa, sb), tk := tk, ofi := ofi } = R := ⟨_, rfl⟩
 rw [hR] at HF ⊢
 clear hse hcte hee hfe hge hhe hbe hv hR
 unfold outCells
 dsimp only
 go_enter Tryz.func97, Tryz.ntmps97
 go_upto_region 1 with (fail)
 obtain ⟨w1, hw1⟩ : ∃ D, w.alloc (.cells #[.int .i64 fr, .int .u32 (cl : Int), .int .u32 (sa : Int), .int .u32 (sb : Int), .int .u32 (tk : Int), .int .i64 ofi] 30) = D := ⟨_, rfl⟩
 have hE1 : Ext w w1 := by rw [← hw1]; exact (Turn.refl _ w).alloc _
 have hb1 : w1.heap[w.heap.size]? = some (.cells #[.int .i64 fr, .int .u32 (cl : Int), .int .u32 (sa : Int), .int .u32 (sb : Int), .int .u32 (tk : Int), .int .i64 ofi] 30 (0, 0)) := by rw [← hw1]; exact new_at rfl
 (try rw [hw1])
 obtain ⟨B, hB⟩ : ∃ y, w.heap.size = y := ⟨_, rfl⟩
 rw [hB] at hb1 ⊢
 have cX := fun j => cell_of_row _ _ j _ _ _ hb1
 have HB1 := Lib.hid hb1
 clear hw1 hB hb1
 by_cases h1 : fr < -1
 ·have HR : Hid (R = false) := Lib.hid (by rw [HF.out, if_pos (.inl h1)])
  clear HF
  go_wp2
  go_ret
  exact ⟨by rw [HR.out]; rfl, hE1⟩
 by_cases h2 : (k : Int) ≤ fr
 ·have HR : Hid (R = false) := Lib.hid (by rw [HF.out, if_pos (.inr h2)])
  clear HF
  go_wp2
  go_ret
  exact ⟨by rw [HR.out]; rfl, hE1⟩
 have HF2 : Hid (R = if b = false then false else if e ≠ 0 then false else if f ≠ 0 then false else if h ≠ 0 then false else if tk = 0 then decide (ofi = 0) else (decide (0 ≤ ofi) && decide (ofi < k))) := Lib.hid (by rw [HF.out, if_neg (fun q => q.elim h1 h2)])
 clear HF
 go_wp2_with fail
 refine (HV.out _).mono ?_
 rintro e' w2 ⟨rfl, hN⟩
 have hE2 := hE1.trans hN
 have cX2 := fun j => cell_of_row _ _ j _ _ _ (hN.keep HB1.out)
 clear cX hN HB1
 cases b
 ·have HR : Hid (R = false) := Lib.hid (by rw [HF2.out]; rfl)
  clear HF2
  go_wp2
  go_ret
  exact ⟨by rw [HR.out]; rfl, hE2⟩
 by_cases he0 : e = 0
 case neg =>
  have he1 : ((e : Int) != 0) = true := by rw [bne_iff_ne]; omega
  have HR : Hid (R = false) := Lib.hid (by rw [HF2.out, if_neg (by decide), if_pos he0])
  clear HF2
  go_wp2
  go_ret
  exact ⟨by rw [HR.out]; rfl, hE2⟩
 subst he0
 by_cases hf0 : f = 0
 case neg =>
  have he1 : ((f : Int) != 0) = true := by rw [bne_iff_ne]; omega
  have HR : Hid (R = false) := Lib.hid (by rw [HF2.out, if_neg (by decide), if_neg (by decide), if_pos hf0])
  clear HF2
  go_wp2
  go_ret
  exact ⟨by rw [HR.out]; rfl, hE2⟩
 subst hf0
 by_cases hh0 : h = 0
 case neg =>
  have he1 : ((h : Int) != 0) = true := by rw [bne_iff_ne]; omega
  have HR : Hid (R = false) := Lib.hid (by rw [HF2.out, if_neg (by decide), if_neg (by decide), if_neg (by decide), if_pos hh0])
  clear HF2
  go_wp2
  go_ret
  exact ⟨by rw [HR.out]; rfl, hE2⟩
 subst hh0
 have HF3 : Hid (R = if tk = 0 then decide (ofi = 0) else (decide (0 ≤ ofi) && decide (ofi < k))) := Lib.hid (by rw [HF2.out]; rfl)
 clear HF2
 by_cases ht0 : tk = 0
 ·have ht1 : ((tk : Int) == 0) = true := by rw [beq_iff_eq]; omega
  have HR : Hid (R = decide (ofi = 0)) := Lib.hid (by rw [HF3.out, if_pos ht0])
  obtain ⟨q, hq⟩ : ∃ q, decide (ofi = 0) = q := ⟨_, rfl⟩
  have hq2 : (ofi == 0) = q := by rw [← hq]; rfl
  rw [hq] at HR
  clear HF3 hq ht0
  go_wp2
  go_ret
  exact ⟨by rw [HR.out]; rfl, hE2⟩
 ·have ht1 : ((tk : Int) == 0) = false := by rw [beq_eq_false_iff_ne]; omega
  have HR : Hid (R = (decide (0 ≤ ofi) && decide (ofi < k))) := Lib.hid (by rw [HF3.out, if_neg ht0])
  clear HF3
  by_cases hq0 : 0 ≤ ofi
  ·have HR2 : Hid (R = decide (ofi < k)) := Lib.hid (by rw [HR.out, decide_eq_true hq0]; rfl)
   go_wp2
   go_ret
   exact ⟨by rw [HR2.out]; rfl, hE2⟩
  ·have hq1 : ¬ (0 : Int) ≤ ofi := hq0
   have HR2 : Hid (R = false) := Lib.hid (by rw [HR.out, decide_eq_false hq0]; rfl)
   go_wp2
   go_ret
   exact ⟨by rw [HR2.out]; rfl, hE2⟩


theorem index_out {w : World} {ao : Option Addr} {N cap : Nat} {l : List OutD} (hl : OutsAt w (.slice ao N cap) l) (hN : l.length = N) (hlm : N ≤ maxLen) (fn : Nat) (lb : Array Value) (hen : ∀ args w, (callFunc fn args).run Tryz.prog w = .ok (.enter fn args) w)
  (F : OutD → Bool) (hF : ∀ x ∈ l, ∀ V, Ext w V → Calls Tryz.prog fn (#[.agg (outCells x).toArray] ++ lb) V fun e w' => e = .returned (.bool (F x)) ∧ Ext V w') :
  Calls Tryz.prog 135 #[.slice ao N cap, .func (.func fn) #[] lb] w fun e w' => ∃ z : Int, e = .returned (.int .i64 z) ∧ decide (0 ≤ z) = l.any F ∧ Ext w w' := by
 unfold maxLen at hlm
 have HL := Lib.hid hl; have HF := Lib.hid hF; have HN := Lib.hid hN; have HEN := Lib.hid hen
 clear hl hF hN hen
 go_enter Tryz.func135, Tryz.ntmps135
 go_wp2
 refine wp_loop (fun a W => ∃ (k : Nat), k ≤ N ∧ a.defers = [] ∧ (a.tmps.size = 19 ∧ a.tmps.getD 0 undef = .slice ao N cap ∧ a.tmps.getD 1 undef = .func (.func fn) #[] lb ∧ a.tmps.getD 7 undef = .int .i64 N ∧ a.tmps.getD 8 undef = .int .i64 k) ∧ (l.take k).any F = false ∧ Ext w W)
  (fun a _ => N - (intOf (a.tmps.getD 8 undef)).toNat) ?_ ?_
 ·exact ⟨0, by omega, rfl, ⟨rfl, rfl, rfl, rfl, rfl⟩, by simp, Turn.refl _ _⟩
 rintro ⟨t, _⟩ W ⟨k, hk, hds, ⟨hsz, f0, f1, f7, f8⟩, hall, hE⟩
 subst hds
 obtain ⟨u', hu⟩ := frame_fun hsz
 obtain ⟨u, rfl⟩ : ∃ x, x = u' := ⟨_, rfl⟩
 have hu' : t = #[u 0, u 1, u 2, u 3, u 4, u 5, u 6, u 7, u 8, u 9, u 10, u 11, u 12, u 13, u 14, u 15, u 16, u 17, u 18] := hu
 clear hu
 subst hu'
 change u 0 = _ at f0
 change u 1 = _ at f1
 change u 7 = _ at f7
 change u 8 = _ at f8
 rw [f0, f1, f7, f8]
 clear f0 f1 f7 f8 hsz
 have HALL := Lib.hid hall
 clear hall
 by_cases hkN : k < N
 ·have h1 : (k : Int) < (N : Int) := by omega
  have hkl : k < l.length := by rw [HN.out]; exact hkN
  obtain ⟨g, off, c', hq, hg, _, d0, d1, d2, d3, d4, d5⟩ := (HL.out.ext hE).at hkl
  simp only [Value.slice.injEq] at hq
  obtain ⟨rfl, hz, rfl⟩ := hq
  clear hz
  have hc := HF.out _ (List.getElem_mem hkl) W hE
  obtain ⟨x, hx⟩ : ∃ x, l[k] = x := ⟨_, rfl⟩
  have HX : Hid (l[k] = x) := Lib.hid hx
  rw [hx] at d0 d1 d2 d3 d4 d5 hc
  unfold outCells at hc
  obtain ⟨b, hb⟩ : ∃ b, F x = b := ⟨_, rfl⟩
  rw [hb] at hc
  have HB : Hid (F l[k] = b) := Lib.hid (by rw [hx]; exact hb)
  have HC := Lib.hid hc
  clear hc hx hb
  have hen := HEN.out
  go_wp2_with fail
  clear hen
  refine HC.out.mono ?_
  rintro e W2 ⟨rfl, hE2⟩
  have hE02 := hE.trans hE2
  clear HC hE hE2 d0 d1 d2 d3 d4 d5
  cases b
  ·have hfin : (l.take (k + 1)).any F = false := by
    rw [List.take_succ_eq_append_getElem hkl, List.any_append, HALL.out]; simp [HB.out]
   have HFI := Lib.hid hfin
   clear hfin
   go_wp2
   exact ⟨⟨k + 1, by omega, by first | rfl | trivial, ⟨rfl, rfl, rfl, rfl, rfl⟩, HFI.out, hE02⟩, by simp [intOf]; omega⟩
  ·have hfin : l.any F = true := List.any_eq_true.2 ⟨_, List.getElem_mem hkl, HB.out⟩
   have HFI := Lib.hid hfin
   clear hfin
   go_wp2
   go_ret
   exact ⟨_, rfl, by rw [HFI.out]; simp, hE02⟩
 ·obtain rfl : k = N := by omega
  have h1 : ¬ (k : Int) < (k : Int) := by omega
  have hfin : l.any F = false := by have := HALL.out; rwa [List.take_of_length_le (by rw [HN.out]; exact Nat.le_refl _)] at this
  have HFI := Lib.hid hfin
  clear hfin
  go_wp2
  go_ret
  exact ⟨_, rfl, by rw [HFI.out]; simp, hE⟩
theorem contains_out {w : World} {ao : Option Addr} {N cap : Nat} {l : List OutD} (hl : OutsAt w (.slice ao N cap) l) (hN : l.length = N) (hlm : N ≤ maxLen) (fn : Nat) (lb : Array Value) (hen : ∀ args w, (callFunc fn args).run Tryz.prog w = .ok (.enter fn args) w)
  (F : OutD → Bool) (hF : ∀ x ∈ l, ∀ V, Ext w V → Calls Tryz.prog fn (#[.agg (outCells x).toArray] ++ lb) V fun e w' => e = .returned (.bool (F x)) ∧ Ext V w') :
  Calls Tryz.prog 103 #[.slice ao N cap, .func (.func fn) #[] lb] w fun e w' => e = .returned (.bool (l.any F)) ∧ Ext w w' := by
 have hi := index_out hl hN hlm (cap := cap) fn lb hen F hF
 have HI := Lib.hid hi
 clear hi hF hl hen hN
 go_enter Tryz.func103, Tryz.ntmps103
 go_wp2_with fail
 refine HI.out.mono ?_
 rintro e w2 ⟨z, rfl, hz, hE⟩
 have HZ := Lib.hid hz
 clear hz
 go_wp2
 go_ret
 exact ⟨by rw [← HZ.out]; rfl, hE⟩

theorem index_snd {w : World} {ao : Option Addr} {N cap : Nat} {l : List (Nat × Nat)} (hl : WordAt w (.slice ao N cap) l) (hN : l.length = N) (hlm : N ≤ maxLen) (fn : Nat) (lb : Array Value) (hen : ∀ args w, (callFunc fn args).run Tryz.prog w = .ok (.enter fn args) w)
  (F : (Nat × Nat) → Bool) (hF : ∀ x ∈ l, ∀ V, Ext w V → Calls Tryz.prog fn (#[sV x] ++ lb) V fun e w' => e = .returned (.bool (F x)) ∧ Ext V w') :
  Calls Tryz.prog 134 #[.slice ao N cap, .func (.func fn) #[] lb] w fun e w' => ∃ z : Int, e = .returned (.int .i64 z) ∧ decide (0 ≤ z) = l.any F ∧ Ext w w' := by
 unfold maxLen at hlm
 have HL := Lib.hid hl; have HF := Lib.hid hF; have HN := Lib.hid hN; have HEN := Lib.hid hen
 clear hl hF hN hen
 go_enter Tryz.func134, Tryz.ntmps134
 go_wp2
 refine wp_loop (fun a W => ∃ (k : Nat), k ≤ N ∧ a.defers = [] ∧ (a.tmps.size = 19 ∧ a.tmps.getD 0 undef = .slice ao N cap ∧ a.tmps.getD 1 undef = .func (.func fn) #[] lb ∧ a.tmps.getD 7 undef = .int .i64 N ∧ a.tmps.getD 8 undef = .int .i64 k) ∧ (l.take k).any F = false ∧ Ext w W)
  (fun a _ => N - (intOf (a.tmps.getD 8 undef)).toNat) ?_ ?_
 ·exact ⟨0, by omega, rfl, ⟨rfl, rfl, rfl, rfl, rfl⟩, by simp, Turn.refl _ _⟩
 rintro ⟨t, _⟩ W ⟨k, hk, hds, ⟨hsz, f0, f1, f7, f8⟩, hall, hE⟩
 subst hds
 obtain ⟨u', hu⟩ := frame_fun hsz
 obtain ⟨u, rfl⟩ : ∃ x, x = u' := ⟨_, rfl⟩
 have hu' : t = #[u 0, u 1, u 2, u 3, u 4, u 5, u 6, u 7, u 8, u 9, u 10, u 11, u 12, u 13, u 14, u 15, u 16, u 17, u 18] := hu
 clear hu
 subst hu'
 change u 0 = _ at f0
 change u 1 = _ at f1
 change u 7 = _ at f7
 change u 8 = _ at f8
 rw [f0, f1, f7, f8]
 clear f0 f1 f7 f8 hsz
 have HALL := Lib.hid hall
 clear hall
 by_cases hkN : k < N
 ·have h1 : (k : Int) < (N : Int) := by omega
  have hkl : k < l.length := by rw [HN.out]; exact hkN
  obtain ⟨g, off, c', hq, hg, d0, d1⟩ := (HL.out.ext hE).at hkl
  simp only [Value.slice.injEq] at hq
  obtain ⟨rfl, hz, rfl⟩ := hq
  clear hz
  have hgd : l.getD k (0, 0) = l[k] := by rw [List.getD_eq_getElem?_getD, List.getElem?_eq_getElem hkl]; rfl
  rw [hgd] at d0 d1
  have hc := HF.out _ (List.getElem_mem hkl) W hE
  obtain ⟨x, hx⟩ : ∃ x, l[k] = x := ⟨_, rfl⟩
  rw [hx] at d0 d1 hc
  obtain ⟨x1, x2⟩ := x
  dsimp only at d0 d1
  obtain ⟨b, hb⟩ : ∃ b, F (x1, x2) = b := ⟨_, rfl⟩
  rw [hb] at hc
  have HB : Hid (F l[k] = b) := Lib.hid (by rw [hx]; exact hb)
  have HC := Lib.hid hc
  clear hc hx hb hgd
  have hen := HEN.out
  go_wp2_with fail
  clear hen
  refine HC.out.mono ?_
  rintro e W2 ⟨rfl, hE2⟩
  have hE02 := hE.trans hE2
  clear HC hE hE2 d0 d1
  cases b
  ·have hfin : (l.take (k + 1)).any F = false := by
    rw [List.take_succ_eq_append_getElem hkl, List.any_append, HALL.out]; simp [HB.out]
   have HFI := Lib.hid hfin
   clear hfin
   go_wp2
   exact ⟨⟨k + 1, by omega, by first | rfl | trivial, ⟨rfl, rfl, rfl, rfl, rfl⟩, HFI.out, hE02⟩, by simp [intOf]; omega⟩
  ·have hfin : l.any F = true := List.any_eq_true.2 ⟨_, List.getElem_mem hkl, HB.out⟩
   have HFI := Lib.hid hfin
   clear hfin
   go_wp2
   go_ret
   exact ⟨_, rfl, by rw [HFI.out]; simp, hE02⟩
 ·obtain rfl : k = N := by omega
  have h1 : ¬ (k : Int) < (k : Int) := by omega
  have hfin : l.any F = false := by have := HALL.out; rwa [List.take_of_length_le (by rw [HN.out]; exact Nat.le_refl _)] at this
  have HFI := Lib.hid hfin
  clear hfin
  go_wp2
  go_ret
  exact ⟨_, rfl, by rw [HFI.out]; simp, hE⟩
theorem contains_snd {w : World} {ao : Option Addr} {N cap : Nat} {l : List (Nat × Nat)} (hl : WordAt w (.slice ao N cap) l) (hN : l.length = N) (hlm : N ≤ maxLen) (fn : Nat) (lb : Array Value) (hen : ∀ args w, (callFunc fn args).run Tryz.prog w = .ok (.enter fn args) w)
  (F : (Nat × Nat) → Bool) (hF : ∀ x ∈ l, ∀ V, Ext w V → Calls Tryz.prog fn (#[sV x] ++ lb) V fun e w' => e = .returned (.bool (F x)) ∧ Ext V w') :
  Calls Tryz.prog 102 #[.slice ao N cap, .func (.func fn) #[] lb] w fun e w' => e = .returned (.bool (l.any F)) ∧ Ext w w' := by
 have hi := index_snd hl hN hlm (cap := cap) fn lb hen F hF
 have HI := Lib.hid hi
 clear hi hF hl hen hN
 go_enter Tryz.func102, Tryz.ntmps102
 go_wp2_with fail
 refine HI.out.mono ?_
 rintro e w2 ⟨z, rfl, hz, hE⟩
 have HZ := Lib.hid hz
 clear hz
 go_wp2
 go_ret
 exact ⟨by rw [← HZ.out]; rfl, hE⟩

theorem badout_any {x : OutD} (hx : OutOk x) {k Bk : Nat} (hk : k ≤ 9223372036854775807) {w : World} (hb : w.heap[Bk]? = some (.cells #[.int .i64 (k : Int)] 3 (0, 0))) :
  Calls Tryz.prog 96 #[.agg (outCells x).toArray, .pointer (some ⟨Bk, 0, none⟩)] w fun e w' => e = .returned (.bool (!fitB k x)) ∧ Ext w w' := by
 have hE1 : Ext w (w.alloc (.cells (outCells x).toArray 30)) := (Turn.refl _ w).alloc _
 have cB := cell_of_one (hE1.keep hb)
 have hc := fits_any hx k hk (w.alloc (.cells (outCells x).toArray 30))
 obtain ⟨b, hbe⟩ : ∃ b, fitB k x = b := ⟨_, rfl⟩
 rw [hbe] at hc ⊢
 have HC := Lib.hid hc; have HE := Lib.hid hE1
 clear hbe hc hE1 hb
 unfold outCells at HC cB HE ⊢
 go_enter Tryz.func96, Tryz.ntmps96
 go_wp2_with fail
 refine HC.out.mono ?_
 rintro e w2 ⟨rfl, hE⟩
 have hE2 := HE.out.trans hE
 cases b
 all_goals
  go_wp2
  go_ret
  exact ⟨rfl, hE2⟩
theorem invsnd_any {s : Nat × Nat} (hs : lt32 s) (w : World) :
  Calls Tryz.prog 98 #[sV s] w fun e w' => e = .returned (.bool (!okS s)) ∧ Ext w w' := by
 have hE1 : Ext w (w.alloc (.cells #[.int .u32 (s.1 : Int), .int .u32 (s.2 : Int)] 24)) := (Turn.refl _ w).alloc _
 have hc := fvalid_any hs (w.alloc (.cells #[.int .u32 (s.1 : Int), .int .u32 (s.2 : Int)] 24))
 obtain ⟨b, hbe⟩ : ∃ b, okS s = b := ⟨_, rfl⟩
 rw [hbe] at hc ⊢
 have HC := Lib.hid hc; have HE := Lib.hid hE1
 clear hbe hc hE1
 go_enter Tryz.func98, Tryz.ntmps98
 go_wp2_with fail
 refine HC.out.mono ?_
 rintro e w2 ⟨rfl, hE⟩
 have hE2 := HE.out.trans hE
 cases b
 all_goals
  go_wp2
  go_ret
  exact ⟨rfl, hE2⟩
end Go.Proofs.YtamkkhlabfahmaaGreatDoor
