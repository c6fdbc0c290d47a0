/- ablautref06.alike, Equal (printed by genreflike.py). -/
import Derived.Test.YtedhogbocifipaaGreatDoorGa26
import Derived.Test.YtedhogbocifipaaGreatDoorEqual
set_option maxRecDepth 100000
set_option maxHeartbeats 16000000
namespace Go.Proofs.YtedhogbocifipaaGreatDoor
open Go.RowKit Go.Ab
attribute [local go_sem] Oper.semAt_some wide_fn wide_depth

def RLikeOk (p : Pat) : Prop := ∀ (K : Nat → Prop) (w : World) (q : Pat) (cs ds : List Value), PatAt K w p cs → PatAt K w q ds →
 Calls Tryz.prog 100 #[.agg cs.toArray, .agg ds.toArray] w fun e w' => e = .returned (.bool (likeP p q)) ∧ Ext w w'

theorem rlike_step (k : Int) (pl mi : Nat) (nt : Bool) (mn mx : Int) (l : List Pat) (ih : ∀ p ∈ l, RLikeOk p) : RLikeOk (.node k pl mi nt mn mx l) := by
 intro K w q cs ds hp hq
 unfold PatAt at hp
 obtain ⟨ao, cap, rfl, hpl, hmi, hlc, hcm, hl⟩ := hp
 obtain ⟨qk, qpl, qmi, qnt, qmn, qmx, r⟩ := q
 unfold PatAt at hq
 obtain ⟨bo, bcap, rfl, hql, hqi, hrc, hbm, hr⟩ := hq
 have hlm : l.length ≤ maxLen := Nat.le_trans hlc hcm
 have hrm : r.length ≤ maxLen := Nat.le_trans hrc hbm
 have HE : Hid (likeP (.node k pl mi nt mn mx l) (.node qk qpl qmi qnt qmn qmx r) = (k == qk && (pl == qpl && mi == qmi) && nt == qnt && mn == qmn && mx == qmx && likeL l r)) := Lib.hid (likeP_eq ..)
 have hE1 : Ext w ((w.alloc (.cells (patCells k pl mi nt mn mx ao l.length cap).toArray 27)).alloc (.cells (patCells qk qpl qmi qnt qmn qmx bo r.length bcap).toArray 27)) := ((Turn.refl _ w).alloc _).alloc _
 have hlen : l.length ≠ r.length → likeL l r = false := fun h => by
  cases hh : likeL l r with
  | false => rfl
  | true => exact absurd (likeL_len hh) h
 unfold patCells at hE1 ⊢
 obtain ⟨N, hN⟩ : ∃ N, l.length = N := ⟨_, rfl⟩
 obtain ⟨M, hM⟩ : ∃ M, r.length = M := ⟨_, rfl⟩
 rw [hN] at hlm hlen hE1 ⊢
 rw [hM] at hrm hlen hE1 ⊢
 unfold maxLen at hlm hrm
 have HN := Lib.hid hN; have HM := Lib.hid hM; have HL := Lib.hid hl; have HR := Lib.hid hr; have IH := Lib.hid ih; have HLEN := Lib.hid hlen
 clear hN hM hl hr ih hlc hcm hrc hbm hlen
 obtain ⟨Z, hZ⟩ : ∃ b, likeP (.node k pl mi nt mn mx l) (.node qk qpl qmi qnt qmn qmx r) = b := ⟨_, rfl⟩
 rw [hZ] at HE ⊢
 clear hZ
 by_cases e1 : k = qk
 case neg =>
  have q1 : (k == qk) = false := by rw [beq_eq_false_iff_ne]; exact e1
  rw [q1] at HE
  go_enter Tryz.func100, Tryz.ntmps100
  go_wp2_with fail
  go_ret
  exact ⟨by rw [HE.out]; simp, hE1⟩
 by_cases e6 : pl = qpl
 case neg =>
  subst e1
  have q1 : ((pl : Int) == (qpl : Int)) = false := by rw [beq_eq_false_iff_ne]; omega
  have q2 : (pl == qpl) = false := by rw [beq_eq_false_iff_ne]; exact e6
  rw [q2] at HE
  clear q2 e6
  go_enter Tryz.func100, Tryz.ntmps100
  go_wp2_with fail
  go_ret
  exact ⟨by rw [HE.out]; simp, hE1⟩
 by_cases e7 : mi = qmi
 case neg =>
  subst e1; subst e6
  have q1 : ((mi : Int) == (qmi : Int)) = false := by rw [beq_eq_false_iff_ne]; omega
  have q2 : (mi == qmi) = false := by rw [beq_eq_false_iff_ne]; exact e7
  rw [q2] at HE
  clear q2 e7
  go_enter Tryz.func100, Tryz.ntmps100
  go_wp2_with fail
  go_ret
  exact ⟨by rw [HE.out]; simp, hE1⟩
 by_cases e3 : nt = qnt
 case neg =>
  subst e1; subst e6; subst e7
  have q1 : (nt == qnt) = false := by rw [beq_eq_false_iff_ne]; exact e3
  rw [q1] at HE
  go_enter Tryz.func100, Tryz.ntmps100
  go_wp2_with fail
  go_ret
  exact ⟨by rw [HE.out]; simp, hE1⟩
 by_cases e4 : mn = qmn
 case neg =>
  subst e1; subst e6; subst e7; subst e3
  have q1 : (mn == qmn) = false := by rw [beq_eq_false_iff_ne]; exact e4
  rw [q1] at HE
  go_enter Tryz.func100, Tryz.ntmps100
  go_wp2_with fail
  go_ret
  exact ⟨by rw [HE.out]; simp, hE1⟩
 by_cases e5 : mx = qmx
 case neg =>
  subst e1; subst e6; subst e7; subst e3; subst e4
  have q1 : (mx == qmx) = false := by rw [beq_eq_false_iff_ne]; exact e5
  rw [q1] at HE
  go_enter Tryz.func100, Tryz.ntmps100
  go_wp2_with fail
  go_ret
  exact ⟨by rw [HE.out]; simp, hE1⟩
 subst e1; subst e6; subst e7; subst e3; subst e4; subst e5
 by_cases e8 : N = M
 case neg =>
  have q1 : ((N : Int) == (M : Int)) = false := by rw [beq_eq_false_iff_ne]; omega
  have q2 := HLEN.out e8
  rw [q2] at HE
  clear q2 e8
  go_enter Tryz.func100, Tryz.ntmps100
  go_wp2_with fail
  go_ret
  exact ⟨by rw [HE.out]; simp, hE1⟩
 subst e8
 have hz : Z = likeL l r := by rw [HE.out]; simp
 have HZ := Lib.hid hz
 clear HE HLEN hz hrm
 go_enter Tryz.func100, Tryz.ntmps100
 go_wp2_with fail
 have hx : ((w.alloc (.cells #[.int .i64 k, .int .u32 (pl : Int), .int .u32 (mi : Int), .bool nt, .int .i64 mn, .int .i64 mx, .slice ao N cap] 27)).alloc (.cells #[.int .i64 k, .int .u32 (pl : Int), .int .u32 (mi : Int), .bool nt, .int .i64 mn, .int .i64 mx, .slice bo N bcap] 27)).heap[w.heap.size]? = some (.cells #[.int .i64 k, .int .u32 (pl : Int), .int .u32 (mi : Int), .bool nt, .int .i64 mn, .int .i64 mx, .slice ao N cap] 27 (0, 0)) := new_keep (new_at rfl)
 have hy : ((w.alloc (.cells #[.int .i64 k, .int .u32 (pl : Int), .int .u32 (mi : Int), .bool nt, .int .i64 mn, .int .i64 mx, .slice ao N cap] 27)).alloc (.cells #[.int .i64 k, .int .u32 (pl : Int), .int .u32 (mi : Int), .bool nt, .int .i64 mn, .int .i64 mx, .slice bo N bcap] 27)).heap[w.heap.size + 1]? = some (.cells #[.int .i64 k, .int .u32 (pl : Int), .int .u32 (mi : Int), .bool nt, .int .i64 mn, .int .i64 mx, .slice bo N bcap] 27 (0, 0)) := new_at (by simp)
 clear hE1
 have hE1 : Ext w ((w.alloc (.cells #[.int .i64 k, .int .u32 (pl : Int), .int .u32 (mi : Int), .bool nt, .int .i64 mn, .int .i64 mx, .slice ao N cap] 27)).alloc (.cells #[.int .i64 k, .int .u32 (pl : Int), .int .u32 (mi : Int), .bool nt, .int .i64 mn, .int .i64 mx, .slice bo N bcap] 27)) := ((Turn.refl _ w).alloc _).alloc _
 generalize ((w.alloc (.cells #[.int .i64 k, .int .u32 (pl : Int), .int .u32 (mi : Int), .bool nt, .int .i64 mn, .int .i64 mx, .slice ao N cap] 27)).alloc (.cells #[.int .i64 k, .int .u32 (pl : Int), .int .u32 (mi : Int), .bool nt, .int .i64 mn, .int .i64 mx, .slice bo N bcap] 27)) = w1 at hx hy hE1 ⊢
 generalize w.heap.size = B at hx hy ⊢
 have HX := Lib.hid hx; have HY := Lib.hid hy
 clear hx hy
 refine wp_loop (fun a W => ∃ (i : Nat), i ≤ N ∧ a.defers = [] ∧ (a.tmps.size = 67 ∧ a.tmps.getD 2 undef = .pointer (some ⟨B, 0, none⟩) ∧ a.tmps.getD 3 undef = .pointer (some ⟨B + 1, 0, none⟩) ∧ a.tmps.getD 5 undef = .int .i64 i) ∧ likeL (l.drop i) (r.drop i) = Z ∧ Ext w1 W)
  (fun a _ => N - (intOf (a.tmps.getD 5 undef)).toNat) ?_ ?_
 ·exact ⟨0, by omega, rfl, ⟨rfl, rfl, rfl, rfl⟩, HZ.out.symm, Turn.refl _ _⟩
 clear HZ
 rintro ⟨t, _⟩ W ⟨i, hi, hds, ⟨hsz, f2, f3, f5⟩, hall, hE⟩
 subst hds
 obtain ⟨u', hu⟩ := frame_fun hsz
 obtain ⟨u, rfl⟩ : ∃ x, x = u' := ⟨_, rfl⟩
 have hu' : t = #[u 0, u 1, u 2, u 3, u 4, u 5, u 6, u 7, u 8, u 9, u 10, u 11, u 12, u 13, u 14, u 15, u 16, u 17, u 18, u 19, u 20, u 21, u 22, u 23, u 24, u 25, u 26, u 27, u 28, u 29, u 30, u 31, u 32, u 33, u 34, u 35, u 36, u 37, u 38, u 39, u 40, u 41, u 42, u 43, u 44, u 45, u 46, u 47, u 48, u 49, u 50, u 51, u 52, u 53, u 54, u 55, u 56, u 57, u 58, u 59, u 60, u 61, u 62, u 63, u 64, u 65, u 66] := hu
 clear hu
 subst hu'
 change u 2 = _ at f2
 change u 3 = _ at f3
 change u 5 = _ at f5
 rw [f2, f3, f5]
 clear f2 f3 f5 hsz
 have HALL := Lib.hid hall
 clear hall
 have hxW := hE.keep HX.out
 have hyW := hE.keep HY.out
 have cX := fun j => cell_of_row _ _ j _ _ _ hxW
 have cY := fun j => cell_of_row _ _ j _ _ _ hyW
 by_cases hiN : i < N
 ·have h1 : (i : Int) < (N : Int) := by omega
  have hil : i < l.length := by rw [HN.out]; exact hiN
  have hir : i < r.length := by rw [HM.out]; exact hiN
  obtain ⟨g, off, c, rfl, hg, hgl, hra, hp⟩ := (HL.out.ext (hE1.trans hE)).get i hil
  obtain ⟨g', off', c', rfl, hg', hgl', hra', hp'⟩ := (HR.out.ext (hE1.trans hE)).get i hir
  rw [Nat.zero_add] at hra hra'
  obtain ⟨qo, qcap, hcq, _, _, _⟩ := patAt_cells hp
  obtain ⟨qo', qcap', hcq', _, _, _⟩ := patAt_cells hp'
  have hcs : ∀ (D : World), Ext W D → D.cell? ⟨B, 6, none⟩ = some (.slice (some ⟨g, off, none⟩) N cap) ∧ D.cell? ⟨B + 1, 6, none⟩ = some (.slice (some ⟨g', off', none⟩) N bcap) ∧ D.cell? ⟨g, off + i * 7, none⟩ = some (.int .i64 l[i].k) ∧ D.cell? ⟨g, off + i * 7 + 1, none⟩ = some (.int .u32 (l[i].pl : Int)) ∧ D.cell? ⟨g, off + i * 7 + 2, none⟩ = some (.int .u32 (l[i].mi : Int)) ∧ D.cell? ⟨g, off + i * 7 + 3, none⟩ = some (.bool l[i].nt) ∧ D.cell? ⟨g, off + i * 7 + 4, none⟩ = some (.int .i64 l[i].mn) ∧ D.cell? ⟨g, off + i * 7 + 5, none⟩ = some (.int .i64 l[i].mx) ∧ D.cell? ⟨g, off + i * 7 + 6, none⟩ = some (.slice qo l[i].l.length qcap) ∧ D.cell? ⟨g', off' + i * 7, none⟩ = some (.int .i64 r[i].k) ∧ D.cell? ⟨g', off' + i * 7 + 1, none⟩ = some (.int .u32 (r[i].pl : Int)) ∧ D.cell? ⟨g', off' + i * 7 + 2, none⟩ = some (.int .u32 (r[i].mi : Int)) ∧ D.cell? ⟨g', off' + i * 7 + 3, none⟩ = some (.bool r[i].nt) ∧ D.cell? ⟨g', off' + i * 7 + 4, none⟩ = some (.int .i64 r[i].mn) ∧ D.cell? ⟨g', off' + i * 7 + 5, none⟩ = some (.int .i64 r[i].mx) ∧ D.cell? ⟨g', off' + i * 7 + 6, none⟩ = some (.slice qo' r[i].l.length qcap') := by
   intro D hD
   obtain ⟨c0, c1, c2, c3, c4, c5, c6⟩ := patCells_at (rangeAt_turn hD hra id) hcq
   obtain ⟨d0, d1, d2, d3, d4, d5, d6⟩ := patCells_at (rangeAt_turn hD hra' id) hcq'
   exact ⟨by simp [World.cell?, hD.keep hxW], by simp [World.cell?, hD.keep hyW], c0, c1, c2, c3, c4, c5, c6, d0, d1, d2, d3, d4, d5, d6⟩
  have hd := likeL_drop hil hir
  rw [HALL.out] at hd
  have hc := fun V (hE2 : Ext W V) => IH.out _ (List.getElem_mem hil) K V r[i] c c' (hp.ext hE2) (hp'.ext hE2)
  obtain ⟨lb, hlb⟩ : ∃ b, likeP l[i] r[i] = b := ⟨_, rfl⟩
  rw [hlb] at hc hd
  rw [hcq, hcq'] at hc
  unfold patCells at hc
  have HC := Lib.hid hc; have HD := Lib.hid hd; have HS := Lib.hid hcs
  clear hc hra hra' hp hp' hcq hcq' hd hlb hcs cX cY hxW hyW
  have cX := (HS.out W (Turn.refl _ W)).1
  have b1 : (0 : Int) ≤ (i : Int) := by omega
  go_wp2_with fail
  refine wp_region_held_drew (S := fun D => D.cell? ⟨B, 6, none⟩ = some (.slice (some ⟨g, off, none⟩) N cap) ∧ D.cell? ⟨B + 1, 6, none⟩ = some (.slice (some ⟨g', off', none⟩) N bcap) ∧ D.cell? ⟨g, off + i * 7, none⟩ = some (.int .i64 l[i].k) ∧ D.cell? ⟨g, off + i * 7 + 1, none⟩ = some (.int .u32 (l[i].pl : Int)) ∧ D.cell? ⟨g, off + i * 7 + 2, none⟩ = some (.int .u32 (l[i].mi : Int)) ∧ D.cell? ⟨g, off + i * 7 + 3, none⟩ = some (.bool l[i].nt) ∧ D.cell? ⟨g, off + i * 7 + 4, none⟩ = some (.int .i64 l[i].mn) ∧ D.cell? ⟨g, off + i * 7 + 5, none⟩ = some (.int .i64 l[i].mx) ∧ D.cell? ⟨g, off + i * 7 + 6, none⟩ = some (.slice qo l[i].l.length qcap) ∧ D.cell? ⟨g', off' + i * 7, none⟩ = some (.int .i64 r[i].k) ∧ D.cell? ⟨g', off' + i * 7 + 1, none⟩ = some (.int .u32 (r[i].pl : Int)) ∧ D.cell? ⟨g', off' + i * 7 + 2, none⟩ = some (.int .u32 (r[i].mi : Int)) ∧ D.cell? ⟨g', off' + i * 7 + 3, none⟩ = some (.bool r[i].nt) ∧ D.cell? ⟨g', off' + i * 7 + 4, none⟩ = some (.int .i64 r[i].mn) ∧ D.cell? ⟨g', off' + i * 7 + 5, none⟩ = some (.int .i64 r[i].mx) ∧ D.cell? ⟨g', off' + i * 7 + 6, none⟩ = some (.slice qo' r[i].l.length qcap')) (by kernel_rfl) (HS.out _ (Turn.drew (Turn.refl _ W))) ?_
  intro hS0
  refine tkH (i := 0) (d := 55) (v := ?_) rfl (Or.inl ⟨by rfl, ?_⟩) hS0 ?_
  rotate_left
  ·intro w hSw; (try dsimp only at hSw); go_simp; try with_reducible rfl
  try simp only [Act.put, pq]
  refine tkH (i := 1) (d := 56) (v := ?_) rfl (Or.inl ⟨by rfl, ?_⟩) hS0 ?_
  rotate_left
  ·intro w hSw; (try dsimp only at hSw); go_simp; try with_reducible rfl
  try simp only [Act.put, pq]
  refine tkH (i := 2) (d := 57) (v := ?_) rfl (Or.inl ⟨by rfl, ?_⟩) hS0 ?_
  rotate_left
  ·intro w hSw; (try dsimp only at hSw); go_simp; try with_reducible rfl
  try simp only [Act.put, pq]
  refine tkH (i := 3) (d := 58) (v := ?_) rfl (Or.inl ⟨by rfl, ?_⟩) hS0 ?_
  rotate_left
  ·intro w hSw; (try dsimp only at hSw); go_simp; try with_reducible rfl
  try simp only [Act.put, pq]
  refine tkH (i := 4) (d := 59) (v := ?_) rfl (Or.inl ⟨by rfl, ?_⟩) hS0 ?_
  rotate_left
  ·intro w hSw; (try dsimp only at hSw); go_simp; try with_reducible rfl
  try simp only [Act.put, pq]
  refine tkH (i := 5) (d := 60) (v := ?_) rfl (Or.inl ⟨by rfl, ?_⟩) hS0 ?_
  rotate_left
  ·intro w hSw; (try dsimp only at hSw); go_simp; try with_reducible rfl
  try simp only [Act.put, pq]
  refine tkH (i := 6) (d := 61) (v := ?_) rfl (Or.inl ⟨by rfl, ?_⟩) hS0 ?_
  rotate_left
  ·intro w hSw; (try dsimp only at hSw); go_simp; try with_reducible rfl
  try simp only [Act.put, pq]
  refine tkH (i := 7) (d := 62) (v := ?_) rfl (Or.inl ⟨by rfl, ?_⟩) hS0 ?_
  rotate_left
  ·intro w hSw; (try dsimp only at hSw); go_simp; try with_reducible rfl
  try simp only [Act.put, pq]
  refine tkH (i := 8) (d := 63) (v := ?_) rfl (Or.inl ⟨by rfl, ?_⟩) hS0 ?_
  rotate_left
  ·intro w hSw; (try dsimp only at hSw); go_simp; try with_reducible rfl
  try simp only [Act.put, pq]
  refine tkH (i := 9) (d := 64) (v := ?_) rfl (Or.inl ⟨by rfl, ?_⟩) hS0 ?_
  rotate_left
  ·intro w hSw; (try dsimp only at hSw); go_simp; try with_reducible rfl
  try simp only [Act.put, pq]
  refine wpAnyH_ready (rs := [10]) (by kernel_rfl) (by simp) ?_
  refine AllReadyH.cons rfl (fun K hK => ?_) AllReadyH.nil
  (try rw [if_pos (show Region.wanted _ _ = true from rfl)])
  go_simp
  refine (HC.out _ (Turn.drew (Turn.refl _ W))).mono ?_
  rintro e W2 ⟨rfl, hE2⟩
  have hW2 : Ext W W2 := Turn.trans (Turn.drew (Turn.refl _ W)) hE2
  refine hK.out _ _ (HS.out _ hW2) (fun hS2 => ?_)
  clear hK K hE2
  refine tkH (i := 11) (d := 66) (v := ?_) rfl (Or.inl ⟨by rfl, ?_⟩) hS2 ?_
  rotate_left
  ·intro w hSw; (try dsimp only at hSw); go_simp; try with_reducible rfl
  try simp only [Act.put, pq]
  refine wpAnyH_done (by kernel_rfl) ?_ _
  clear hS0 HC cX
  cases lb
  ·go_wp2
   go_ret
   exact ⟨by rw [HD.out, Bool.false_and]; rfl, hE1.trans (hE.trans hW2)⟩
  ·have hd : likeL (l.drop (i + 1)) (r.drop (i + 1)) = Z := by rw [HD.out, Bool.true_and]
   have HD2 := Lib.hid hd
   clear hd
   go_wp2
   exact ⟨⟨i + 1, by omega, by first | rfl | trivial, ⟨rfl, rfl, rfl, rfl⟩, HD2.out, hE.trans hW2⟩, by simp [intOf]; omega⟩
 ·obtain rfl : i = N := by omega
  have h1 : ¬ (i : Int) < (i : Int) := by omega
  have hfin : Z = true := by
   rw [← HALL.out, List.drop_of_length_le (by rw [HN.out]; exact Nat.le_refl _), List.drop_of_length_le (by rw [HM.out]; exact Nat.le_refl _)]; exact likeL_nil
  have HFI := Lib.hid hfin
  clear hfin hxW hyW
  go_wp2
  go_ret
  exact ⟨by rw [HFI.out]; rfl, hE1.trans hE⟩

mutual
theorem rlike_all : ∀ p : Pat, RLikeOk p
 | .node k pl mi nt mn mx l => rlike_step k pl mi nt mn mx l (rlike_alls l)
theorem rlike_alls : ∀ l : List Pat, ∀ p ∈ l, RLikeOk p
 | [], _, h => by cases h
 | q :: l, p, h => (List.mem_cons.1 h).elim (fun e => e ▸ rlike_all q) (fun h => rlike_alls l p h)
end

mutual
theorem likeP_refl : ∀ p : Pat, likeP p p = true
 | .node k pl mi nt mn mx l => by
  rw [likeP_eq]
  simp only [Pat.k, Pat.pl, Pat.mi, Pat.nt, Pat.mn, Pat.mx, Pat.l, beq_self_eq_true, Bool.and_self, Bool.true_and]
  exact likeL_refl l
theorem likeL_refl : ∀ l : List Pat, likeL l l = true
 | [] => likeL_nil
 | p :: l => by rw [likeL_cons, likeP_refl p, likeL_refl l]; rfl
end
theorem equalV_refl (p : Pat) : equalV p p = decide (chkP p = 0) := by unfold equalV; rw [likeP_refl, Bool.and_true, Bool.and_self]

theorem refequal_any {K : Nat → Prop} {w : World} {p q : Pat} {cs ds : List Value} (hp : PatAt K w p cs) (hq : PatAt K w q ds) :
  Calls Tryz.prog 75 #[.agg cs.toArray, .agg ds.toArray] w fun e w' => e = .returned (.bool (equalV p q)) ∧ Ext w w' := by
 have hck := fun (V : World) (hE : Ext w V) => refcheck_any (hp.ext hE)
 have hcq := fun (V : World) (hE : Ext w V) => refcheck_any (hq.ext hE)
 have hlk := fun (V : World) (hE : Ext w V) => rlike_all p K V q cs ds (hp.ext hE) (hq.ext hE)
 obtain ⟨ao, cap, rfl, hlc, hcm, _⟩ := patAt_cells hp
 obtain ⟨bo, bcap, rfl, hlc', hcm', _⟩ := patAt_cells hq
 clear hp hq hlc hcm hlc' hcm'
 obtain ⟨z, hz⟩ : ∃ z, chkP p = z := ⟨_, rfl⟩
 obtain ⟨y, hy⟩ : ∃ z, chkP q = z := ⟨_, rfl⟩
 obtain ⟨lb, hlb⟩ : ∃ b, likeP p q = b := ⟨_, rfl⟩
 have HE : Hid (equalV p q = (decide (z = 0) && decide (y = 0) && lb)) := Lib.hid (by unfold equalV; rw [hz, hy, hlb])
 have HCK := Lib.hid hck; have HCQ := Lib.hid hcq; have HLK := Lib.hid hlk
 rw [hz] at HCK
 rw [hy] at HCQ
 rw [hlb] at HLK
 clear hck hcq hlk hz hy hlb
 unfold patCells at HCK HCQ HLK ⊢
 go_enter Tryz.func75, Tryz.ntmps75
 go_wp2_with fail
 refine (HCK.out _ (((Turn.refl _ w).alloc _).alloc _)).mono ?_
 rintro e w2 ⟨rfl, hE2⟩
 have hE02 : Ext w w2 := Turn.trans (((Turn.refl _ w).alloc _).alloc _) hE2
 have hx : w2.heap[w.heap.size]? = some (.cells #[.int .i64 p.k, .int .u32 (p.pl : Int), .int .u32 (p.mi : Int), .bool p.nt, .int .i64 p.mn, .int .i64 p.mx, .slice ao p.l.length cap] 27 (0, 0)) := hE2.keep (new_keep (new_at rfl))
 have hx' : w2.heap[w.heap.size + 1]? = some (.cells #[.int .i64 q.k, .int .u32 (q.pl : Int), .int .u32 (q.mi : Int), .bool q.nt, .int .i64 q.mn, .int .i64 q.mx, .slice bo q.l.length bcap] 27 (0, 0)) := hE2.keep (new_at (by simp))
 have cX := fun j => cell_of_row _ _ j _ _ _ hx
 have cY := fun j => cell_of_row _ _ j _ _ _ hx'
 clear hE2
 by_cases hz0 : z = 0
 ·have hz1 : (z == 0) = true := by rw [beq_iff_eq]; exact hz0
  go_wp2_with fail
  refine (HCQ.out _ hE02).mono ?_
  rintro e w3 ⟨rfl, hE3⟩
  have hE03 := hE02.trans hE3
  have hx3 := hE3.keep hx
  have hx3' := hE3.keep hx'
  clear hE3 cX cY hx hx'
  have cX := fun j => cell_of_row _ _ j _ _ _ hx3
  have cY := fun j => cell_of_row _ _ j _ _ _ hx3'
  by_cases hy0 : y = 0
  ·have hy1 : (y == 0) = true := by rw [beq_iff_eq]; exact hy0
   go_wp2_with fail
   refine (HLK.out _ hE03).mono ?_
   rintro e w4 ⟨rfl, hE4⟩
   have hE04 := hE03.trans hE4
   clear hE4 cX cY hx3 hx3'
   go_wp2
   go_ret
   exact ⟨by rw [HE.out, decide_eq_true hz0, decide_eq_true hy0, Bool.true_and, Bool.true_and]; rfl, hE04⟩
  ·have hy1 : (y == 0) = false := by rw [beq_eq_false_iff_ne]; exact hy0
   go_wp2
   go_ret
   exact ⟨by rw [HE.out, decide_eq_false hy0, Bool.and_false, Bool.false_and]; rfl, hE03⟩
 ·have hz1 : (z == 0) = false := by rw [beq_eq_false_iff_ne]; exact hz0
  go_wp2
  go_ret
  exact ⟨by rw [HE.out, decide_eq_false hz0, Bool.false_and, Bool.false_and]; rfl, hE02⟩
end Go.Proofs.YtedhogbocifipaaGreatDoor
