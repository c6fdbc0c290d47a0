/- ablautref06.Table, patterns one after the other, and either of some (printed by gentable.py). ablautref06.Table, repeated patterns; all patterns (printed by gentable.py). ablautref06.Ends, Begins (printed by genrefends.py). -/
import Derived.Test.YtedhogbocifipaaGreatDoorGa28
import Derived.Test.YtedhogbocifipaaGreatDoorGa26
import Derived.Test.YtedhogbocifipaaGreatDoorGa09
set_option maxRecDepth 100000
set_option maxHeartbeats 8000000
namespace Go.Proofs.YtedhogbocifipaaGreatDoor
open Go.RowKit Go.Ab
attribute [local go_sem] Oper.semAt_some wide_fn wide_depth

theorem table_3 (pl mi : Nat) (nt : Bool) (mn mx : Int) (l : List Pat) (ih : ∀ p ∈ l, TableOk p) : TableOk (.node 3 pl mi nt mn mx l) := by
 intro K w cs v ws hp hv hn hall
 have hE1 : ∀ V : World, Ext w V → PatAt K V (.node 3 pl mi nt mn mx l) cs := fun V hE => hp.ext hE
 unfold PatAt at hp
 obtain ⟨ao, cap, rfl, hpl, hmi, hlc, hcm, hl⟩ := hp
 obtain ⟨bo, bcap, rfl, hbm⟩ := hv.slice
 rw [allN_eq] at hall
 obtain ⟨hnode, hkids0⟩ := hall
 have hkids : allNs l := hkids0
 rw [allNs_iff] at hkids
 clear hkids0
 have hrel := relP_node ws 3 pl mi nt mn mx l
 rw [if_neg (by decide), if_neg (by decide), if_neg (by decide), if_neg (by decide), if_neg (by decide)] at hrel
 unfold patCells
 obtain ⟨N, hN⟩ : ∃ N, l.length = N := ⟨_, rfl⟩
 obtain ⟨n, hnn⟩ : ∃ n, ws.length = n := ⟨_, rfl⟩
 have HNN := Lib.hid hnn; have HN := Lib.hid hN; have HV := Lib.hid hv; have HL := Lib.hid hl; have HKID := Lib.hid hkids; have HREL := Lib.hid hrel; have HNODE := Lib.hid hnode; have IH := Lib.hid ih
 have hlm : N ≤ maxLen := by rw [← hN]; exact Nat.le_trans hlc hcm
 have hbn : n ≤ 32 := by rw [← hnn]; exact hn
 unfold maxLen at hlm hbm
 show Calls Tryz.prog 129 #[.agg #[.int .i64 3, .int .u32 (pl : Int), .int .u32 (mi : Int), .bool nt, .int .i64 mn, .int .i64 mx, .slice ao l.length cap], .slice bo ws.length bcap] w _
 rw [hN, hnn]
 clear ih hv hl hkids hrel hnode hlc hcm hN hnn hn hbm hE1
 go_enter Tryz.func129, Tryz.ntmps129
 go_wp2_with (at_make; refine make_row1 rfl (.tmp 17) (.tmp 17) 129 rfl (w.heap.size + 1) 118 _ 8 Tryz.underlying129 Tryz.infoU rfl .i64 .i64 _ _ (n + 1) rfl rfl (by first | rfl | omega | simp) (by first | rfl | omega | simp) ?c1 ?c2 (by simp) ?_)
 case c1 => omega
 case c2 => unfold maxLen; omega
 intro w1 hO hE1
 obtain ⟨B, hB⟩ : ∃ r, w.heap.size = r := ⟨_, rfl⟩
 have hx1 : w1.heap[w.heap.size]? = some (.cells #[.int .i64 3, .int .u32 (pl : Int), .int .u32 (mi : Int), .bool nt, .int .i64 mn, .int .i64 mx, .slice ao N cap] 27 (0, 0)) := hE1.keep (new_at rfl)
 have hE01 : Ext w w1 := Turn.trans ((Turn.refl _ w).alloc _) hE1
 rw [hB] at hO hx1 ⊢
 rw [u64V_zero, show u64V (n + 1) (fun _ => 0) = u64V (n + 1) (fun a => if a < 0 then rowM (noB) a else 0) from u64V_congr fun a _ => by simp] at hO
 have HB := Lib.hid hB
 have HX := Lib.hid hx1
 clear hB hx1 hE1
 go_wp2
 refine wp_loop (fun a W => ∃ (k : Nat), k ≤ n + 1 ∧ a.defers = [] ∧ (a.tmps.size = 153 ∧ a.tmps.getD 1 undef = .slice bo n bcap ∧ a.tmps.getD 2 undef = .pointer (some ⟨B, 0, none⟩) ∧ a.tmps.getD 5 undef = .int .i64 n ∧ a.tmps.getD 6 undef = .slice (some ⟨B + 1, 0, none⟩) (n + 1) (n + 1) ∧ a.tmps.getD 7 undef = .int .i64 k) ∧ W.ownsRow (B + 1) 118 1 (.slice (some ⟨B + 1, 0, none⟩) (n + 1) (n + 1)) (n + 1) (u64V (n + 1) (fun a => if a < k then rowM (noB) a else 0)) ∧ W.heap[B]? = some (.cells #[.int .i64 3, .int .u32 (pl : Int), .int .u32 (mi : Int), .bool nt, .int .i64 mn, .int .i64 mx, .slice ao N cap] 27 (0, 0)) ∧ Ext w W)
  (fun a _ => n + 1 - (intOf (a.tmps.getD 7 undef)).toNat) ?_ ?_
 ·exact ⟨0, by omega, rfl, ⟨rfl, rfl, rfl, rfl, rfl, rfl⟩, hO, HX.out, hE01⟩
 clear hO hE01 HX
 rintro ⟨t, _⟩ W ⟨k, hk, hds, ⟨hsz, f1, f2, f5, f6, f7⟩, hO, hx, hE⟩
 subst hds
 obtain ⟨u', hu⟩ := frame_fun hsz
 obtain ⟨u, rfl⟩ : ∃ x, x = u' := ⟨_, rfl⟩
 have hu' : t = #[u 0, u 1, u 2, u 3, u 4, u 5, u 6, u 7, u 8, u 9, u 10, u 11, u 12, u 13, u 14, u 15, u 16, u 17, u 18, u 19, u 20, u 21, u 22, u 23, u 24, u 25, u 26, u 27, u 28, u 29, u 30, u 31, u 32, u 33, u 34, u 35, u 36, u 37, u 38, u 39, u 40, u 41, u 42, u 43, u 44, u 45, u 46, u 47, u 48, u 49, u 50, u 51, u 52, u 53, u 54, u 55, u 56, u 57, u 58, u 59, u 60, u 61, u 62, u 63, u 64, u 65, u 66, u 67, u 68, u 69, u 70, u 71, u 72, u 73, u 74, u 75, u 76, u 77, u 78, u 79, u 80, u 81, u 82, u 83, u 84, u 85, u 86, u 87, u 88, u 89, u 90, u 91, u 92, u 93, u 94, u 95, u 96, u 97, u 98, u 99, u 100, u 101, u 102, u 103, u 104, u 105, u 106, u 107, u 108, u 109, u 110, u 111, u 112, u 113, u 114, u 115, u 116, u 117, u 118, u 119, u 120, u 121, u 122, u 123, u 124, u 125, u 126, u 127, u 128, u 129, u 130, u 131, u 132, u 133, u 134, u 135, u 136, u 137, u 138, u 139, u 140, u 141, u 142, u 143, u 144, u 145, u 146, u 147, u 148, u 149, u 150, u 151, u 152] := hu
 clear hu
 subst hu'
 change u 1 = _ at f1
 change u 2 = _ at f2
 change u 5 = _ at f5
 change u 6 = _ at f6
 change u 7 = _ at f7
 rw [f1, f2, f5, f6, f7]
 clear f1 f2 f5 f6 f7 hsz
 have cX := fun j => cell_of_row _ _ j _ _ _ hx
 by_cases hkn : k < n + 1
 ·have h1 : (k : Int) ≤ (n : Int) := by omega
  have h2 : (k : Int) < (n : Int) + 1 := by omega
  have h3 : (k : Int) < 64 := by omega
  have hval : rowM (noB) k = 0 := rowM_no k
  rw [u64V_congr (g := fun a => if a < k + 1 then rowM (noB) a else 0) (fun i _ => by
   by_cases e : i = k
   ·rw [if_neg (by omega), if_pos (by omega), e, hval]
   ·by_cases h : i < k
    ·rw [if_pos h, if_pos (by omega)]
    ·rw [if_neg h, if_neg (by omega)])] at hO
  have HO := Lib.hid hO
  clear hO hval
  go_wp2
  exact ⟨⟨k + 1, by omega, by first | rfl | trivial, ⟨rfl, rfl, rfl, rfl, rfl, rfl⟩, HO.out, hx, hE⟩, by first | (simp [intOf]; done) | (simp [intOf]; omega)⟩
 ·obtain rfl : k = n + 1 := by omega
  have h1 : ¬ (((n + 1 : Nat) : Int) ≤ (n : Int)) := by omega
  clear hO cX
  have cX := fun j => cell_of_row _ _ j _ _ _ hx
  go_wp2_with fail
  refine (same_tab n hbn _).mono ?_
  rintro e W2 ⟨u0, rfl, hO, hE2⟩
  have hO := own_base (base' := w.heap.size) hO (by have := hE.size; exact this)
  have hx := hE2.keep hx
  have hE := hE.trans hE2
  have hr0 : rowM (idB n) = rowM (seqB ws (l.take 0) (idB n)) := by rw [List.take_zero, seqB]
  rw [hr0] at hO
  have HO := Lib.hid hO
  have HX := Lib.hid hx
  clear hr0 hO hE2 cX
  go_wp2
  refine wp_loop (fun a W => ∃ (i : Nat) (u6 : Value), i ≤ N ∧ a.defers = [] ∧ (a.tmps.size = 153 ∧ a.tmps.getD 1 undef = .slice bo n bcap ∧ a.tmps.getD 2 undef = .pointer (some ⟨B, 0, none⟩) ∧ a.tmps.getD 5 undef = .int .i64 n ∧ a.tmps.getD 6 undef = u6 ∧ a.tmps.getD 8 undef = .int .i64 i) ∧ W.ownsRow w.heap.size 118 1 u6 (n + 1) (u64V (n + 1) (rowM (seqB ws (l.take i) (idB n)))) ∧ W.heap[B]? = some (.cells #[.int .i64 3, .int .u32 (pl : Int), .int .u32 (mi : Int), .bool nt, .int .i64 mn, .int .i64 mx, .slice ao N cap] 27 (0, 0)) ∧ Ext w W)
   (fun a _ => N - (intOf (a.tmps.getD 8 undef)).toNat) ?_ ?_
  ·exact ⟨0, u0, by omega, rfl, ⟨rfl, rfl, rfl, rfl, rfl, rfl⟩, HO.out, HX.out, hE⟩
  clear HO HX hE
  rintro ⟨t, _⟩ W ⟨i, u6, hi, hds, ⟨hsz, f1, f2, f5, f6, f8⟩, hO, hx, hE⟩
  subst hds
  obtain ⟨u', hu⟩ := frame_fun hsz
  obtain ⟨u, rfl⟩ : ∃ x, x = u' := ⟨_, rfl⟩
  have hu' : t = #[u 0, u 1, u 2, u 3, u 4, u 5, u 6, u 7, u 8, u 9, u 10, u 11, u 12, u 13, u 14, u 15, u 16, u 17, u 18, u 19, u 20, u 21, u 22, u 23, u 24, u 25, u 26, u 27, u 28, u 29, u 30, u 31, u 32, u 33, u 34, u 35, u 36, u 37, u 38, u 39, u 40, u 41, u 42, u 43, u 44, u 45, u 46, u 47, u 48, u 49, u 50, u 51, u 52, u 53, u 54, u 55, u 56, u 57, u 58, u 59, u 60, u 61, u 62, u 63, u 64, u 65, u 66, u 67, u 68, u 69, u 70, u 71, u 72, u 73, u 74, u 75, u 76, u 77, u 78, u 79, u 80, u 81, u 82, u 83, u 84, u 85, u 86, u 87, u 88, u 89, u 90, u 91, u 92, u 93, u 94, u 95, u 96, u 97, u 98, u 99, u 100, u 101, u 102, u 103, u 104, u 105, u 106, u 107, u 108, u 109, u 110, u 111, u 112, u 113, u 114, u 115, u 116, u 117, u 118, u 119, u 120, u 121, u 122, u 123, u 124, u 125, u 126, u 127, u 128, u 129, u 130, u 131, u 132, u 133, u 134, u 135, u 136, u 137, u 138, u 139, u 140, u 141, u 142, u 143, u 144, u 145, u 146, u 147, u 148, u 149, u 150, u 151, u 152] := hu
  clear hu
  subst hu'
  change u 1 = _ at f1
  change u 2 = _ at f2
  change u 5 = _ at f5
  change u 6 = _ at f6
  change u 8 = _ at f8
  rw [f1, f2, f5, f6, f8]
  clear f1 f2 f5 f6 f8 hsz
  have cX := fun j => cell_of_row _ _ j _ _ _ hx
  by_cases hiN : i < N
  ·have h1 : (i : Int) < (N : Int) := by omega
   have hil : i < l.length := by rw [HN.out]; exact hiN
   obtain ⟨g, off, c, rfl, hg, hgl, hra, hq⟩ := (HL.out.ext hE).get i hil
   rw [Nat.zero_add] at hra
   obtain ⟨qo, qcap, hcq, _, _, _⟩ := patAt_cells hq
   obtain ⟨c0, c1, c2, c3, c4, c5, c6⟩ := patCells_at hra hcq
   have hc := IH.out _ (List.getElem_mem hil) K W c _ ws hq (HV.out.ext hE) (by rw [HNN.out]; exact hbn) (HKID.out _ (List.getElem_mem hil))
   rw [HNN.out] at hc
   have htk : l.take (i + 1) = l.take i ++ [l[i]] := List.take_succ_eq_append_getElem hil
   have hmono : Mono n (seqB ws (l.take i) (idB n)) := by
    have := seqB_mono ws (l.take i) (idB n) (by rw [HNN.out]; exact Mono.id n)
    rw [HNN.out] at this
    exact this
   have hnext : rowM (seqB ws (l.take (i + 1)) (idB n)) = rowM (comp (seqB ws (l.take i) (idB n)) (relP ws l[i])) := by
    rw [htk, seqB_snoc]
   rw [hcq] at hc
   unfold patCells at hc
   obtain ⟨R, hR⟩ : ∃ R, seqB ws (l.take i) (idB n) = R := ⟨_, rfl⟩
   obtain ⟨Q, hQ⟩ : ∃ R, relP ws l[i] = R := ⟨_, rfl⟩
   rw [hR] at hO hmono hnext
   rw [hQ] at hc hnext
   have HC := Lib.hid hc; have HM := Lib.hid hmono; have HNX := Lib.hid hnext; have HO := Lib.hid hO; have HX := Lib.hid hx
   clear hc hra hq hcq hmono hnext htk hR hQ hO
   go_wp2_with fail
   refine HC.out.mono ?_
   rintro e W2 ⟨u2, rfl, hO2, hE2⟩
   have hr1 := (RowsR.own HO.out).ext hE2
   have hr2 := RowsR.own hO2
   have hx2 := hE2.keep HX.out
   have hE := hE.trans hE2
   clear c0 c1 c2 c3 c4 c5 c6 HC cX hx hO2
   have cX := fun j => cell_of_row _ _ j _ _ _ hx2
   go_wp2_with fail
   refine (follow_tab hbn hr1 hr2 HM.out).mono ?_
   rintro e W3 ⟨u3, rfl, hO3, hE3⟩
   have hx3 := hE3.keep hx2
   have hE4 := hE.trans hE3
   have hO4 := own_base (base' := w.heap.size) hO3 (by have := hE.size; exact this)
   rw [← HNX.out] at hO4
   have HO4 := Lib.hid hO4; have HX3 := Lib.hid hx3
   clear hO3 hO4 hE3 hE hr1 hr2 cX hx2 hx3 HO HX
   go_wp2
   exact ⟨⟨i + 1, u3, by omega, by first | rfl | trivial, ⟨rfl, rfl, rfl, rfl, rfl, rfl⟩, HO4.out, HX3.out, hE4⟩, by simp [intOf]; omega⟩
  ·obtain rfl : i = N := by omega
   have h1 : ¬ (i : Int) < (i : Int) := by omega
   have hfin : rowM (seqB ws (l.take i) (idB n)) = rowM (relP ws (.node 3 pl mi nt mn mx l)) := by
    rw [HREL.out, List.take_of_length_le (by rw [HN.out]; exact Nat.le_refl _), HNN.out]
   rw [hfin] at hO
   have HO := Lib.hid hO
   clear hO hfin
   go_wp2
   go_ret
   exact ⟨_, rfl, HO.out, hE⟩

theorem table_4 (pl mi : Nat) (nt : Bool) (mn mx : Int) (l : List Pat) (ih : ∀ p ∈ l, TableOk p) : TableOk (.node 4 pl mi nt mn mx l) := by
 intro K w cs v ws hp hv hn hall
 have hE1 : ∀ V : World, Ext w V → PatAt K V (.node 4 pl mi nt mn mx l) cs := fun V hE => hp.ext hE
 unfold PatAt at hp
 obtain ⟨ao, cap, rfl, hpl, hmi, hlc, hcm, hl⟩ := hp
 obtain ⟨bo, bcap, rfl, hbm⟩ := hv.slice
 rw [allN_eq] at hall
 obtain ⟨hnode, hkids0⟩ := hall
 have hkids : allNs l := hkids0
 rw [allNs_iff] at hkids
 clear hkids0
 have hrel := relP_node ws 4 pl mi nt mn mx l
 rw [if_neg (by decide), if_neg (by decide), if_neg (by decide), if_pos rfl] at hrel
 unfold patCells
 obtain ⟨N, hN⟩ : ∃ N, l.length = N := ⟨_, rfl⟩
 obtain ⟨n, hnn⟩ : ∃ n, ws.length = n := ⟨_, rfl⟩
 have HNN := Lib.hid hnn; have HN := Lib.hid hN; have HV := Lib.hid hv; have HL := Lib.hid hl; have HKID := Lib.hid hkids; have HREL := Lib.hid hrel; have HNODE := Lib.hid hnode; have IH := Lib.hid ih
 have hlm : N ≤ maxLen := by rw [← hN]; exact Nat.le_trans hlc hcm
 have hbn : n ≤ 32 := by rw [← hnn]; exact hn
 unfold maxLen at hlm hbm
 show Calls Tryz.prog 129 #[.agg #[.int .i64 4, .int .u32 (pl : Int), .int .u32 (mi : Int), .bool nt, .int .i64 mn, .int .i64 mx, .slice ao l.length cap], .slice bo ws.length bcap] w _
 rw [hN, hnn]
 clear ih hv hl hkids hrel hnode hlc hcm hN hnn hn hbm hE1
 go_enter Tryz.func129, Tryz.ntmps129
 go_wp2_with (at_make; refine make_row1 rfl (.tmp 17) (.tmp 17) 129 rfl (w.heap.size + 1) 118 _ 8 Tryz.underlying129 Tryz.infoU rfl .i64 .i64 _ _ (n + 1) rfl rfl (by first | rfl | omega | simp) (by first | rfl | omega | simp) ?c1 ?c2 (by simp) ?_)
 case c1 => omega
 case c2 => unfold maxLen; omega
 intro w1 hO hE1
 obtain ⟨B, hB⟩ : ∃ r, w.heap.size = r := ⟨_, rfl⟩
 have hx1 : w1.heap[w.heap.size]? = some (.cells #[.int .i64 4, .int .u32 (pl : Int), .int .u32 (mi : Int), .bool nt, .int .i64 mn, .int .i64 mx, .slice ao N cap] 27 (0, 0)) := hE1.keep (new_at rfl)
 have hE01 : Ext w w1 := Turn.trans ((Turn.refl _ w).alloc _) hE1
 rw [hB] at hO hx1 ⊢
 rw [u64V_zero, show u64V (n + 1) (fun _ => 0) = u64V (n + 1) (fun a => if a < 0 then rowM (noB) a else 0) from u64V_congr fun a _ => by simp] at hO
 have HB := Lib.hid hB
 have HX := Lib.hid hx1
 clear hB hx1 hE1
 go_wp2
 refine wp_loop (fun a W => ∃ (k : Nat), k ≤ n + 1 ∧ a.defers = [] ∧ (a.tmps.size = 153 ∧ a.tmps.getD 1 undef = .slice bo n bcap ∧ a.tmps.getD 2 undef = .pointer (some ⟨B, 0, none⟩) ∧ a.tmps.getD 5 undef = .int .i64 n ∧ a.tmps.getD 6 undef = .slice (some ⟨B + 1, 0, none⟩) (n + 1) (n + 1) ∧ a.tmps.getD 7 undef = .int .i64 k) ∧ W.ownsRow (B + 1) 118 1 (.slice (some ⟨B + 1, 0, none⟩) (n + 1) (n + 1)) (n + 1) (u64V (n + 1) (fun a => if a < k then rowM (noB) a else 0)) ∧ W.heap[B]? = some (.cells #[.int .i64 4, .int .u32 (pl : Int), .int .u32 (mi : Int), .bool nt, .int .i64 mn, .int .i64 mx, .slice ao N cap] 27 (0, 0)) ∧ Ext w W)
  (fun a _ => n + 1 - (intOf (a.tmps.getD 7 undef)).toNat) ?_ ?_
 ·exact ⟨0, by omega, rfl, ⟨rfl, rfl, rfl, rfl, rfl, rfl⟩, hO, HX.out, hE01⟩
 clear hO hE01 HX
 rintro ⟨t, _⟩ W ⟨k, hk, hds, ⟨hsz, f1, f2, f5, f6, f7⟩, hO, hx, hE⟩
 subst hds
 obtain ⟨u', hu⟩ := frame_fun hsz
 obtain ⟨u, rfl⟩ : ∃ x, x = u' := ⟨_, rfl⟩
 have hu' : t = #[u 0, u 1, u 2, u 3, u 4, u 5, u 6, u 7, u 8, u 9, u 10, u 11, u 12, u 13, u 14, u 15, u 16, u 17, u 18, u 19, u 20, u 21, u 22, u 23, u 24, u 25, u 26, u 27, u 28, u 29, u 30, u 31, u 32, u 33, u 34, u 35, u 36, u 37, u 38, u 39, u 40, u 41, u 42, u 43, u 44, u 45, u 46, u 47, u 48, u 49, u 50, u 51, u 52, u 53, u 54, u 55, u 56, u 57, u 58, u 59, u 60, u 61, u 62, u 63, u 64, u 65, u 66, u 67, u 68, u 69, u 70, u 71, u 72, u 73, u 74, u 75, u 76, u 77, u 78, u 79, u 80, u 81, u 82, u 83, u 84, u 85, u 86, u 87, u 88, u 89, u 90, u 91, u 92, u 93, u 94, u 95, u 96, u 97, u 98, u 99, u 100, u 101, u 102, u 103, u 104, u 105, u 106, u 107, u 108, u 109, u 110, u 111, u 112, u 113, u 114, u 115, u 116, u 117, u 118, u 119, u 120, u 121, u 122, u 123, u 124, u 125, u 126, u 127, u 128, u 129, u 130, u 131, u 132, u 133, u 134, u 135, u 136, u 137, u 138, u 139, u 140, u 141, u 142, u 143, u 144, u 145, u 146, u 147, u 148, u 149, u 150, u 151, u 152] := hu
 clear hu
 subst hu'
 change u 1 = _ at f1
 change u 2 = _ at f2
 change u 5 = _ at f5
 change u 6 = _ at f6
 change u 7 = _ at f7
 rw [f1, f2, f5, f6, f7]
 clear f1 f2 f5 f6 f7 hsz
 have cX := fun j => cell_of_row _ _ j _ _ _ hx
 by_cases hkn : k < n + 1
 ·have h1 : (k : Int) ≤ (n : Int) := by omega
  have h2 : (k : Int) < (n : Int) + 1 := by omega
  have h3 : (k : Int) < 64 := by omega
  have hval : rowM (noB) k = 0 := rowM_no k
  rw [u64V_congr (g := fun a => if a < k + 1 then rowM (noB) a else 0) (fun i _ => by
   by_cases e : i = k
   ·rw [if_neg (by omega), if_pos (by omega), e, hval]
   ·by_cases h : i < k
    ·rw [if_pos h, if_pos (by omega)]
    ·rw [if_neg h, if_neg (by omega)])] at hO
  have HO := Lib.hid hO
  clear hO hval
  go_wp2
  exact ⟨⟨k + 1, by omega, by first | rfl | trivial, ⟨rfl, rfl, rfl, rfl, rfl, rfl⟩, HO.out, hx, hE⟩, by first | (simp [intOf]; done) | (simp [intOf]; omega)⟩
 ·obtain rfl : k = n + 1 := by omega
  have h1 : ¬ (((n + 1 : Nat) : Int) ≤ (n : Int)) := by omega
  clear cX
  rw [u64V_congr (g := rowM (altB ws (l.take 0))) (fun a ha => by rw [if_pos ha, List.take_zero, altB])] at hO
  have hO := own_base (base' := w.heap.size) hO (by have := HB.out; omega)
  have cX := fun j => cell_of_row _ _ j _ _ _ hx
  have HO := Lib.hid hO
  have HX := Lib.hid hx
  clear hO
  go_wp2
  refine wp_loop (fun a W => ∃ (i : Nat) (u6 : Value), i ≤ N ∧ a.defers = [] ∧ (a.tmps.size = 153 ∧ a.tmps.getD 1 undef = .slice bo n bcap ∧ a.tmps.getD 2 undef = .pointer (some ⟨B, 0, none⟩) ∧ a.tmps.getD 5 undef = .int .i64 n ∧ a.tmps.getD 6 undef = u6 ∧ a.tmps.getD 9 undef = .int .i64 i) ∧ W.ownsRow w.heap.size 118 1 u6 (n + 1) (u64V (n + 1) (rowM (altB ws (l.take i)))) ∧ W.heap[B]? = some (.cells #[.int .i64 4, .int .u32 (pl : Int), .int .u32 (mi : Int), .bool nt, .int .i64 mn, .int .i64 mx, .slice ao N cap] 27 (0, 0)) ∧ Ext w W)
   (fun a _ => N - (intOf (a.tmps.getD 9 undef)).toNat) ?_ ?_
  ·exact ⟨0, _, by omega, rfl, ⟨rfl, rfl, rfl, rfl, rfl, rfl⟩, HO.out, HX.out, hE⟩
  clear HO HX hE
  rintro ⟨t, _⟩ W ⟨i, u6, hi, hds, ⟨hsz, f1, f2, f5, f6, f9⟩, hO, hx, hE⟩
  subst hds
  obtain ⟨u', hu⟩ := frame_fun hsz
  obtain ⟨u, rfl⟩ : ∃ x, x = u' := ⟨_, rfl⟩
  have hu' : t = #[u 0, u 1, u 2, u 3, u 4, u 5, u 6, u 7, u 8, u 9, u 10, u 11, u 12, u 13, u 14, u 15, u 16, u 17, u 18, u 19, u 20, u 21, u 22, u 23, u 24, u 25, u 26, u 27, u 28, u 29, u 30, u 31, u 32, u 33, u 34, u 35, u 36, u 37, u 38, u 39, u 40, u 41, u 42, u 43, u 44, u 45, u 46, u 47, u 48, u 49, u 50, u 51, u 52, u 53, u 54, u 55, u 56, u 57, u 58, u 59, u 60, u 61, u 62, u 63, u 64, u 65, u 66, u 67, u 68, u 69, u 70, u 71, u 72, u 73, u 74, u 75, u 76, u 77, u 78, u 79, u 80, u 81, u 82, u 83, u 84, u 85, u 86, u 87, u 88, u 89, u 90, u 91, u 92, u 93, u 94, u 95, u 96, u 97, u 98, u 99, u 100, u 101, u 102, u 103, u 104, u 105, u 106, u 107, u 108, u 109, u 110, u 111, u 112, u 113, u 114, u 115, u 116, u 117, u 118, u 119, u 120, u 121, u 122, u 123, u 124, u 125, u 126, u 127, u 128, u 129, u 130, u 131, u 132, u 133, u 134, u 135, u 136, u 137, u 138, u 139, u 140, u 141, u 142, u 143, u 144, u 145, u 146, u 147, u 148, u 149, u 150, u 151, u 152] := hu
  clear hu
  subst hu'
  change u 1 = _ at f1
  change u 2 = _ at f2
  change u 5 = _ at f5
  change u 6 = _ at f6
  change u 9 = _ at f9
  rw [f1, f2, f5, f6, f9]
  clear f1 f2 f5 f6 f9 hsz
  have cX := fun j => cell_of_row _ _ j _ _ _ hx
  by_cases hiN : i < N
  ·have h1 : (i : Int) < (N : Int) := by omega
   have hil : i < l.length := by rw [HN.out]; exact hiN
   obtain ⟨g, off, c, rfl, hg, hgl, hra, hq⟩ := (HL.out.ext hE).get i hil
   rw [Nat.zero_add] at hra
   obtain ⟨qo, qcap, hcq, _, _, _⟩ := patAt_cells hq
   obtain ⟨c0, c1, c2, c3, c4, c5, c6⟩ := patCells_at hra hcq
   have hc := IH.out _ (List.getElem_mem hil) K W c _ ws hq (HV.out.ext hE) (by rw [HNN.out]; exact hbn) (HKID.out _ (List.getElem_mem hil))
   rw [HNN.out] at hc
   have htk : l.take (i + 1) = l.take i ++ [l[i]] := List.take_succ_eq_append_getElem hil
   have hmono : Mono n (altB ws (l.take i)) := by
    have := altB_mono ws (l.take i)
    rw [HNN.out] at this
    exact this
   have hnext : rowM (altB ws (l.take (i + 1))) = fun a => rowM (altB ws (l.take i)) a ||| rowM (relP ws l[i]) a := by
    rw [htk, altB_snoc]
    funext a; rw [rowM_or]
   rw [hcq] at hc
   unfold patCells at hc
   obtain ⟨R, hR⟩ : ∃ R, altB ws (l.take i) = R := ⟨_, rfl⟩
   obtain ⟨Q, hQ⟩ : ∃ R, relP ws l[i] = R := ⟨_, rfl⟩
   rw [hR] at hO hmono hnext
   rw [hQ] at hc hnext
   have HC := Lib.hid hc; have HM := Lib.hid hmono; have HNX := Lib.hid hnext; have HO := Lib.hid hO; have HX := Lib.hid hx
   clear hc hra hq hcq hmono hnext htk hR hQ hO
   go_wp2_with fail
   refine HC.out.mono ?_
   rintro e W2 ⟨u2, rfl, hO2, hE2⟩
   have hr1 := (RowsR.own HO.out).ext hE2
   have hr2 := RowsR.own hO2
   have hx2 := hE2.keep HX.out
   have hE := hE.trans hE2
   clear c0 c1 c2 c3 c4 c5 c6 HC cX hx hO2
   have cX := fun j => cell_of_row _ _ j _ _ _ hx2
   go_wp2_with fail
   refine (join_tab hbn hr1 hr2 (fun a => rowM_lt R a) (fun a => rowM_lt Q a)).mono ?_
   rintro e W3 ⟨u3, rfl, hO3, hE3⟩
   have hx3 := hE3.keep hx2
   have hE4 := hE.trans hE3
   have hO4 := own_base (base' := w.heap.size) hO3 (by have := hE.size; exact this)
   rw [← HNX.out] at hO4
   have HO4 := Lib.hid hO4; have HX3 := Lib.hid hx3
   clear hO3 hO4 hE3 hE hr1 hr2 cX hx2 hx3 HO HX
   go_wp2
   exact ⟨⟨i + 1, u3, by omega, by first | rfl | trivial, ⟨rfl, rfl, rfl, rfl, rfl, rfl⟩, HO4.out, HX3.out, hE4⟩, by simp [intOf]; omega⟩
  ·obtain rfl : i = N := by omega
   have h1 : ¬ (i : Int) < (i : Int) := by omega
   have hfin : rowM (altB ws (l.take i)) = rowM (relP ws (.node 4 pl mi nt mn mx l)) := by
    rw [HREL.out, List.take_of_length_le (by rw [HN.out]; exact Nat.le_refl _)]
   rw [hfin] at hO
   have HO := Lib.hid hO
   clear hO hfin
   go_wp2
   go_ret
   exact ⟨_, rfl, HO.out, hE⟩


theorem nodeE_rep' {pl mi : Nat} {nt : Bool} {mn mx : Int} {l : List Pat} (h : nodeE (.node 5 pl mi nt mn mx l) = 0) : (∃ q, l = [q]) ∧ 0 ≤ mn ∧ mn ≤ 32 ∧ (mx = -1 ∨ (mn ≤ mx ∧ mx ≤ 32)) := by
 obtain ⟨h1, h2, h3⟩ := (nodeE_kind h).2.2.2 rfl
 refine ⟨h1, h2, h3, ?_⟩
 rw [nodeE_F, nodeF_5] at h
 by_cases ha : pl ≠ 0 ∨ mi ≠ 0 ∨ nt = true
 ·rw [if_pos ha] at h; exact absurd h (by decide)
 rw [if_neg ha] at h
 by_cases hb : l.length ≠ 1 ∨ mn < 0 ∨ 32 < mn ∨ (mx ≠ -1 ∧ (mx < mn ∨ 32 < mx))
 ·rw [if_pos hb] at h; exact absurd h (by decide)
 omega
theorem outK_eq {n : Nat} (hn : n ≤ 32) {X : Bin2} (h : Mono n X) {lo k : Nat} : (∀ a, a < n + 1 → rowM (outK X n lo k) a = rowM (outK X n lo (k + 1)) a) ↔ outK X n lo k = outK X n lo (k + 1) :=
 ⟨fun he => rowM_inj hn (outK_mono h lo k) (outK_mono h lo (k + 1)) (fun a ha => he a (by omega)), fun he a _ => by rw [he]⟩

theorem table_5 (pl mi : Nat) (nt : Bool) (mn mx : Int) (l : List Pat) (ih : ∀ p ∈ l, TableOk p) : TableOk (.node 5 pl mi nt mn mx l) := by
 intro K w cs v ws hp hv hn hall
 have hE1 : ∀ V : World, Ext w V → PatAt K V (.node 5 pl mi nt mn mx l) cs := fun V hE => hp.ext hE
 unfold PatAt at hp
 obtain ⟨ao, cap, rfl, hpl, hmi, hlc, hcm, hl⟩ := hp
 obtain ⟨bo, bcap, rfl, hbm⟩ := hv.slice
 rw [allN_eq] at hall
 obtain ⟨hnode, hkids0⟩ := hall
 have hkids : allNs l := hkids0
 rw [allNs_iff] at hkids
 clear hkids0
 have hrel := relP_node ws 5 pl mi nt mn mx l
 obtain ⟨⟨q, hlq⟩, hmn0, hmn1, hmx⟩ := nodeE_rep' hnode
 obtain ⟨lo, rfl⟩ := Int.eq_ofNat_of_zero_le hmn0
 have hlo : lo ≤ 32 := by omega
 have hmono := relP_mono ws q
 rw [if_neg (by decide), if_neg (by decide), if_neg (by decide), if_neg (by decide), if_pos rfl] at hrel
 have e0 : oneB ws l (lo : Int) mx = sumB (relP ws q) ws.length lo (extra ws.length (lo : Int) mx) := by rw [hlq, oneB, repB_sum hn hmono, Int.toNat_natCast]
 rw [e0] at hrel
 have hN1 : l.length = 1 := by rw [hlq]; rfl
 have HLQ := Lib.hid hlq
 clear e0 hmono hlq hmn0 hmn1
 unfold patCells
 obtain ⟨N, hN⟩ : ∃ N, l.length = N := ⟨_, rfl⟩
 obtain ⟨n, hnn⟩ : ∃ n, ws.length = n := ⟨_, rfl⟩
 have HNN := Lib.hid hnn; have HN := Lib.hid hN; have HV := Lib.hid hv; have HL := Lib.hid hl; have HKID := Lib.hid hkids; have HREL := Lib.hid hrel; have HNODE := Lib.hid hnode; have IH := Lib.hid ih
 have hN1' : N = 1 := by rw [← hN]; exact hN1
 have hN0 : 0 < N := by omega
 clear hN1 hN1'
 have hlm : N ≤ maxLen := by rw [← hN]; exact Nat.le_trans hlc hcm
 have hbn : n ≤ 32 := by rw [← hnn]; exact hn
 unfold maxLen at hlm hbm
 show Calls Tryz.prog 129 #[.agg #[.int .i64 5, .int .u32 (pl : Int), .int .u32 (mi : Int), .bool nt, .int .i64 (lo : Int), .int .i64 mx, .slice ao l.length cap], .slice bo ws.length bcap] w _
 rw [hN, hnn]
 clear ih hv hl hkids hrel hnode hlc hcm hN hnn hn hbm hE1
 go_enter Tryz.func129, Tryz.ntmps129
 go_wp2_with (at_make; refine make_row1 rfl (.tmp 17) (.tmp 17) 129 rfl (w.heap.size + 1) 118 _ 8 Tryz.underlying129 Tryz.infoU rfl .i64 .i64 _ _ (n + 1) rfl rfl (by first | rfl | omega | simp) (by first | rfl | omega | simp) ?c1 ?c2 (by simp) ?_)
 case c1 => omega
 case c2 => unfold maxLen; omega
 intro w1 hO hE1
 obtain ⟨B, hB⟩ : ∃ r, w.heap.size = r := ⟨_, rfl⟩
 have hx1 : w1.heap[w.heap.size]? = some (.cells #[.int .i64 5, .int .u32 (pl : Int), .int .u32 (mi : Int), .bool nt, .int .i64 (lo : Int), .int .i64 mx, .slice ao N cap] 27 (0, 0)) := hE1.keep (new_at rfl)
 have hE01 : Ext w w1 := Turn.trans ((Turn.refl _ w).alloc _) hE1
 rw [hB] at hO hx1 ⊢
 rw [u64V_zero, show u64V (n + 1) (fun _ => 0) = u64V (n + 1) (fun a => if a < 0 then rowM (noB) a else 0) from u64V_congr fun a _ => by simp] at hO
 have HB := Lib.hid hB
 have HX := Lib.hid hx1
 clear hB hx1 hE1
 go_wp2
 refine wp_loop (fun a W => ∃ (k : Nat), k ≤ n + 1 ∧ a.defers = [] ∧ (a.tmps.size = 153 ∧ a.tmps.getD 1 undef = .slice bo n bcap ∧ a.tmps.getD 2 undef = .pointer (some ⟨B, 0, none⟩) ∧ a.tmps.getD 5 undef = .int .i64 n ∧ a.tmps.getD 6 undef = .slice (some ⟨B + 1, 0, none⟩) (n + 1) (n + 1) ∧ a.tmps.getD 7 undef = .int .i64 k) ∧ W.ownsRow (B + 1) 118 1 (.slice (some ⟨B + 1, 0, none⟩) (n + 1) (n + 1)) (n + 1) (u64V (n + 1) (fun a => if a < k then rowM (noB) a else 0)) ∧ W.heap[B]? = some (.cells #[.int .i64 5, .int .u32 (pl : Int), .int .u32 (mi : Int), .bool nt, .int .i64 (lo : Int), .int .i64 mx, .slice ao N cap] 27 (0, 0)) ∧ Ext w W)
  (fun a _ => n + 1 - (intOf (a.tmps.getD 7 undef)).toNat) ?_ ?_
 ·exact ⟨0, by omega, rfl, ⟨rfl, rfl, rfl, rfl, rfl, rfl⟩, hO, HX.out, hE01⟩
 clear hO hE01 HX
 rintro ⟨t, _⟩ W ⟨k, hk, hds, ⟨hsz, f1, f2, f5, f6, f7⟩, hO, hx, hE⟩
 subst hds
 obtain ⟨u', hu⟩ := frame_fun hsz
 obtain ⟨u, rfl⟩ : ∃ x, x = u' := ⟨_, rfl⟩
 have hu' : t = #[u 0, u 1, u 2, u 3, u 4, u 5, u 6, u 7, u 8, u 9, u 10, u 11, u 12, u 13, u 14, u 15, u 16, u 17, u 18, u 19, u 20, u 21, u 22, u 23, u 24, u 25, u 26, u 27, u 28, u 29, u 30, u 31, u 32, u 33, u 34, u 35, u 36, u 37, u 38, u 39, u 40, u 41, u 42, u 43, u 44, u 45, u 46, u 47, u 48, u 49, u 50, u 51, u 52, u 53, u 54, u 55, u 56, u 57, u 58, u 59, u 60, u 61, u 62, u 63, u 64, u 65, u 66, u 67, u 68, u 69, u 70, u 71, u 72, u 73, u 74, u 75, u 76, u 77, u 78, u 79, u 80, u 81, u 82, u 83, u 84, u 85, u 86, u 87, u 88, u 89, u 90, u 91, u 92, u 93, u 94, u 95, u 96, u 97, u 98, u 99, u 100, u 101, u 102, u 103, u 104, u 105, u 106, u 107, u 108, u 109, u 110, u 111, u 112, u 113, u 114, u 115, u 116, u 117, u 118, u 119, u 120, u 121, u 122, u 123, u 124, u 125, u 126, u 127, u 128, u 129, u 130, u 131, u 132, u 133, u 134, u 135, u 136, u 137, u 138, u 139, u 140, u 141, u 142, u 143, u 144, u 145, u 146, u 147, u 148, u 149, u 150, u 151, u 152] := hu
 clear hu
 subst hu'
 change u 1 = _ at f1
 change u 2 = _ at f2
 change u 5 = _ at f5
 change u 6 = _ at f6
 change u 7 = _ at f7
 rw [f1, f2, f5, f6, f7]
 clear f1 f2 f5 f6 f7 hsz
 have cX := fun j => cell_of_row _ _ j _ _ _ hx
 by_cases hkn : k < n + 1
 ·have h1 : (k : Int) ≤ (n : Int) := by omega
  have h2 : (k : Int) < (n : Int) + 1 := by omega
  have h3 : (k : Int) < 64 := by omega
  have hval : rowM (noB) k = 0 := rowM_no k
  rw [u64V_congr (g := fun a => if a < k + 1 then rowM (noB) a else 0) (fun i _ => by
   by_cases e : i = k
   ·rw [if_neg (by omega), if_pos (by omega), e, hval]
   ·by_cases h : i < k
    ·rw [if_pos h, if_pos (by omega)]
    ·rw [if_neg h, if_neg (by omega)])] at hO
  have HO := Lib.hid hO
  clear hO hval
  go_wp2
  exact ⟨⟨k + 1, by omega, by first | rfl | trivial, ⟨rfl, rfl, rfl, rfl, rfl, rfl⟩, HO.out, hx, hE⟩, by first | (simp [intOf]; done) | (simp [intOf]; omega)⟩
 ·obtain rfl : k = n + 1 := by omega
  have h1 : ¬ (((n + 1 : Nat) : Int) ≤ (n : Int)) := by omega
  rw [u64V_congr (g := rowM noB) (fun a ha => by rw [if_pos ha])] at hO
  replace hO := own_base (base' := w.heap.size) hO (by have := HB.out; omega)
  clear cX
  have cX := fun j => cell_of_row _ _ j _ _ _ hx
  obtain ⟨g, off, c, hao, hg, hgl, hra, hq⟩ := (HL.out.ext hE).get 0 (by rw [HN.out]; omega)
  subst hao
  replace hra : W.rangeAt g off c := by simpa using hra
  have hl0 : l[0]'(by rw [HN.out]; omega) = q := by have := HLQ.out; simp only [this]; rfl
  rw [hl0] at hq
  obtain ⟨qo, qcap, hcq, _, _, _⟩ := patAt_cells hq
  obtain ⟨c0, c1, c2, c3, c4, c5, c6⟩ := patCells_at hra hcq
  have hc := IH.out q (by rw [HLQ.out]; simp) K W c _ ws hq (HV.out.ext hE) (by rw [HNN.out]; exact hbn) (HKID.out q (by rw [HLQ.out]; simp))
  rw [HNN.out, hcq] at hc
  unfold patCells at hc
  obtain ⟨X, hX⟩ : ∃ R, relP ws q = R := ⟨_, rfl⟩
  have hrx := HREL.out
  have hmx0 := relP_mono ws q
  rw [hX] at hc hrx hmx0
  rw [HNN.out] at hmx0 hrx
  have HC := Lib.hid hc; have HMX := Lib.hid hmx0; have HRX := Lib.hid hrx; have HX0 := Lib.hid hx; have HOW := Lib.hid hO
  have g0 : (0 : Int) < (N : Int) := by omega
  clear hc hra hq hcq hl0 hX hrx hmx0 hO hx
  go_wp2_with fail
  refine HC.out.mono ?_
  rintro e W2 ⟨u10, rfl, hO10, hE2⟩
  have hr10 := RowsR.own hO10
  have hx2 := hE2.keep HX0.out
  have hO6 := own_ext HOW.out hE2
  have hE02 := hE.trans hE2
  clear c0 c1 c2 c3 c4 c5 c6 HC cX hO10 HX0 HOW hE hE2
  have cX := fun j => cell_of_row _ _ j _ _ _ hx2
  go_wp2_with fail
  refine (same_tab n hbn _).mono ?_
  rintro e W3 ⟨u11, rfl, hO11, hE3⟩
  have hO11 := own_base (base' := w.heap.size) hO11 (by have := hE02.size; exact this)
  have HO11 := Lib.hid hO11
  have HR10 := Lib.hid (hr10.ext hE3)
  have HX3 := Lib.hid (hE3.keep hx2)
  have hE03 := hE02.trans hE3
  have HO6 := Lib.hid (own_ext hO6 hE3)
  clear hE3 cX hx2 hE02 hO11 hr10 hO6 g0
  go_wp2
  refine wp_loop (fun a W => ∃ (k : Nat) (u6 u10 u11 : Value), k ≤ lo + n + 1 ∧ (mx = -1 ∨ (k : Int) ≤ mx) ∧ a.defers = [] ∧ (a.tmps.size = 153 ∧ a.tmps.getD 2 undef = .pointer (some ⟨B, 0, none⟩) ∧ a.tmps.getD 6 undef = u6 ∧ a.tmps.getD 10 undef = u10 ∧ a.tmps.getD 11 undef = u11 ∧ a.tmps.getD 12 undef = .int .i64 k) ∧ W.ownsRow w.heap.size 118 1 u6 (n + 1) (u64V (n + 1) (rowM (outK X n lo k))) ∧ RowsR W u10 (n + 1) (rowM X) ∧ W.ownsRow w.heap.size 118 1 u11 (n + 1) (u64V (n + 1) (rowM (powB X n k))) ∧ W.heap[B]? = some (.cells #[.int .i64 5, .int .u32 (pl : Int), .int .u32 (mi : Int), .bool nt, .int .i64 (lo : Int), .int .i64 mx, .slice (some ⟨g, off, none⟩) N cap] 27 (0, 0)) ∧ Ext w W)
   (fun a _ => lo + n + 2 - (intOf (a.tmps.getD 12 undef)).toNat) ?_ ?_
  ·exact ⟨0, _, u10, u11, by omega, by omega, rfl, ⟨rfl, rfl, rfl, rfl, rfl, rfl⟩, by rw [outK_zero]; exact HO6.out, HR10.out, HO11.out, HX3.out, hE03⟩
  clear HO11 HR10 HX3 hE03 HO6
  rintro ⟨t, _⟩ W ⟨k, u6, u10, u11, hk, hkx, hds, ⟨hsz, f2, f6, f10, f11, f12⟩, hO6, hR10, hO11, hx, hE⟩
  subst hds
  obtain ⟨u', hu⟩ := frame_fun hsz
  obtain ⟨u, rfl⟩ : ∃ x, x = u' := ⟨_, rfl⟩
  have hu' : t = #[u 0, u 1, u 2, u 3, u 4, u 5, u 6, u 7, u 8, u 9, u 10, u 11, u 12, u 13, u 14, u 15, u 16, u 17, u 18, u 19, u 20, u 21, u 22, u 23, u 24, u 25, u 26, u 27, u 28, u 29, u 30, u 31, u 32, u 33, u 34, u 35, u 36, u 37, u 38, u 39, u 40, u 41, u 42, u 43, u 44, u 45, u 46, u 47, u 48, u 49, u 50, u 51, u 52, u 53, u 54, u 55, u 56, u 57, u 58, u 59, u 60, u 61, u 62, u 63, u 64, u 65, u 66, u 67, u 68, u 69, u 70, u 71, u 72, u 73, u 74, u 75, u 76, u 77, u 78, u 79, u 80, u 81, u 82, u 83, u 84, u 85, u 86, u 87, u 88, u 89, u 90, u 91, u 92, u 93, u 94, u 95, u 96, u 97, u 98, u 99, u 100, u 101, u 102, u 103, u 104, u 105, u 106, u 107, u 108, u 109, u 110, u 111, u 112, u 113, u 114, u 115, u 116, u 117, u 118, u 119, u 120, u 121, u 122, u 123, u 124, u 125, u 126, u 127, u 128, u 129, u 130, u 131, u 132, u 133, u 134, u 135, u 136, u 137, u 138, u 139, u 140, u 141, u 142, u 143, u 144, u 145, u 146, u 147, u 148, u 149, u 150, u 151, u 152] := hu
  clear hu
  subst hu'
  change u 2 = _ at f2
  change u 6 = _ at f6
  change u 10 = _ at f10
  change u 11 = _ at f11
  change u 12 = _ at f12
  rw [f2, f6, f10, f11, f12]
  clear f2 f6 f10 f11 f12 hsz
  have O6 := Lib.hid hO6; have R10 := Lib.hid hR10; have O11 := Lib.hid hO11; have X1 := Lib.hid hx
  have cX := fun j => cell_of_row _ _ j _ _ _ hx
  clear hO6 hR10 hO11 hx
  by_cases hkl : k < lo
  ·have g1 : ¬ ((lo : Int) ≤ (k : Int)) := by omega
   have hsk := outK_skip X n hkl
   have HSK := Lib.hid hsk
   clear hsk
   go_wp2_with fail
   refine (follow_tab hbn (RowsR.own O11.out) R10.out (Mono.pow HMX.out k)).mono ?_
   rintro e Wf ⟨uf, rfl, hOf, hEf⟩
   have hOf2 := own_base (base' := w.heap.size) hOf (by have := (hE).size; exact this)
   have hps : rowM (comp (powB X n k) X) = rowM (powB X n (k + 1)) := by rw [← pow_snoc hbn HMX.out]
   rw [hps] at hOf2
   have HOf := Lib.hid hOf2
   have HO6 := Lib.hid (own_ext O6.out hEf)
   have HR10 := Lib.hid (RowsR.ext R10.out hEf)
   have HXf := Lib.hid (Turn.heap hEf X1.out id)
   have hEE := Turn.trans hE hEf
   clear hOf hOf2 hps hEf
   have HO6b : Hid (Wf.ownsRow w.heap.size 118 1 u6 (n + 1) (u64V (n + 1) (rowM (outK X n lo (k + 1))))) := Lib.hid (by rw [HSK.out]; exact HO6.out)
   clear cX hE O6 R10 O11 X1 HO6 HSK
   go_wp2
   exact ⟨⟨k + 1, u6, u10, uf, by omega, by omega, by first | rfl | trivial, ⟨rfl, rfl, rfl, rfl, rfl, rfl⟩, HO6b.out, HR10.out, HOf.out, HXf.out, hEE⟩, by simp [intOf]; omega⟩
  have g1 : (lo : Int) ≤ (k : Int) := by omega
  go_wp2_with fail
  refine (join_tab hbn (RowsR.own O6.out) (RowsR.own O11.out) (fun a => rowM_lt _ a) (fun a => rowM_lt _ a)).mono ?_
  rintro e W2 ⟨u7, rfl, hO7, hE2⟩
  have hO7 := own_base (base' := w.heap.size) hO7 (by have := hE.size; exact this)
  have hst : (fun a => rowM (outK X n lo k) a ||| rowM (powB X n k) a) = rowM (outK X n lo (k + 1)) := by
   funext a; rw [rowM_or, outK_step X n (by omega)]
  rw [hst] at hO7
  have O7 := Lib.hid hO7
  have O6b := Lib.hid (own_ext O6.out hE2); have R10b := Lib.hid (R10.out.ext hE2); have O11b := Lib.hid (own_ext O11.out hE2); have X2 := Lib.hid (hE2.keep X1.out)
  have hE2w := hE.trans hE2
  clear hO7 hst hE2 hE cX O6 R10 O11 X1
  have cX := fun j => cell_of_row _ _ j _ _ _ X2.out
  by_cases hkm : (k : Int) = mx
  ·have hmax := outK_max X n (mn := (lo : Int)) (mx := mx) (k := k) (by omega) (by omega) hkm
   rw [Int.toNat_natCast] at hmax
   have hfin : rowM (outK X n lo (k + 1)) = rowM (relP ws (.node 5 pl mi nt lo mx l)) := by rw [hmax, HRX.out]
   have hO7 := O7.out
   rw [hfin] at hO7
   have O8 := Lib.hid hO7
   have g2 : ((k : Int) == mx) = true := by rw [beq_iff_eq]; exact hkm
   have HKM := Lib.hid hkm
   clear hmax hfin hO7 O7 hkm
   go_wp2
   go_ret
   exact ⟨_, rfl, O8.out, hE2w⟩
  have g2 : ((k : Int) == mx) = false := by rw [beq_eq_false_iff_ne]; exact hkm
  by_cases hkl2 : lo < k
  ·have g3 : (lo : Int) < (k : Int) := by omega
   have hkm2 : mx = -1 ∨ (k : Int) + 1 ≤ mx := by omega
   have hkx2 : mx = -1 ∨ (k : Int) ≤ mx := hkx
   have HKM := Lib.hid hkm
   clear hkm
   go_wp2_with fail
   refine (equal_tab hbn (RowsR.own O6b.out) (RowsR.own O7.out) (fun a => rowM_lt _ a) (fun a => rowM_lt _ a)).mono ?_
   rintro e W4 ⟨⟨b, rfl, hb⟩, hE4⟩
   have hb2 : b = true ↔ outK X n lo k = outK X n lo (k + 1) := hb.trans (outK_eq hbn HMX.out)
   have O6c := Lib.hid (own_ext O6b.out hE4); have O7c := Lib.hid (own_ext O7.out hE4); have R10c := Lib.hid (R10b.out.ext hE4); have O11c := Lib.hid (own_ext O11b.out hE4); have X4 := Lib.hid (hE4.keep X2.out)
   have hE4w := hE2w.trans hE4
   have HB2 := Lib.hid hb2
   clear hb hb2 hE4 hE2w cX O6b O7 R10b O11b X2
   cases b
   ·have hlt : k < lo + n + 1 := by
     apply Nat.lt_of_not_le
     intro hle
     have := HB2.out.2 (outK_far hbn HMX.out hle)
     cases this
    have cX := fun j => cell_of_row _ _ j _ _ _ X4.out
    go_wp2_with fail
    refine (follow_tab hbn (RowsR.own O11c.out) R10c.out (Mono.pow HMX.out k)).mono ?_
    rintro e Wf ⟨uf, rfl, hOf, hEf⟩
    have hOf2 := own_base (base' := w.heap.size) hOf (by have := (hE4w).size; exact this)
    have hps : rowM (comp (powB X n k) X) = rowM (powB X n (k + 1)) := by rw [← pow_snoc hbn HMX.out]
    rw [hps] at hOf2
    have HOf := Lib.hid hOf2
    have HO6 := Lib.hid (own_ext O7c.out hEf)
    have HR10 := Lib.hid (RowsR.ext R10c.out hEf)
    have HXf := Lib.hid (Turn.heap hEf X4.out id)
    have hEE := Turn.trans hE4w hEf
    clear hOf hOf2 hps hEf
    clear cX hE4w O6c O7c R10c O11c X4 HB2
    go_wp2
    exact ⟨⟨k + 1, u7, u10, uf, by omega, by omega, by first | rfl | trivial, ⟨rfl, rfl, rfl, rfl, rfl, rfl⟩, HO6.out, HR10.out, HOf.out, HXf.out, hEE⟩, by simp [intOf]; omega⟩
   ·have hsb := outK_stable hbn HMX.out (mn := (lo : Int)) (mx := mx) (k := k) (by omega) (by omega) (by omega) hkx2 (by rw [Int.toNat_natCast]; exact HB2.out.1 rfl)
    rw [Int.toNat_natCast] at hsb
    have hfin : rowM (outK X n lo (k + 1)) = rowM (relP ws (.node 5 pl mi nt lo mx l)) := by rw [hsb, HRX.out]
    have hO7 := O7c.out
    rw [hfin] at hO7
    have O8 := Lib.hid hO7
    clear hsb hfin hO7 O7c HB2
    go_wp2
    go_ret
    exact ⟨_, rfl, O8.out, hE4w⟩
  ·have g3 : ¬ (lo : Int) < (k : Int) := by omega
   have HKM := Lib.hid hkm
   have hkm2 : mx = -1 ∨ (k : Int) + 1 ≤ mx := by omega
   clear hkm
   go_wp2_with fail
   refine (follow_tab hbn (RowsR.own O11b.out) R10b.out (Mono.pow HMX.out k)).mono ?_
   rintro e Wf ⟨uf, rfl, hOf, hEf⟩
   have hOf2 := own_base (base' := w.heap.size) hOf (by have := (hE2w).size; exact this)
   have hps : rowM (comp (powB X n k) X) = rowM (powB X n (k + 1)) := by rw [← pow_snoc hbn HMX.out]
   rw [hps] at hOf2
   have HOf := Lib.hid hOf2
   have HO6 := Lib.hid (own_ext O7.out hEf)
   have HR10 := Lib.hid (RowsR.ext R10b.out hEf)
   have HXf := Lib.hid (Turn.heap hEf X2.out id)
   have hEE := Turn.trans hE2w hEf
   clear hOf hOf2 hps hEf
   clear cX hE2w O6b O7 R10b O11b X2
   go_wp2
   exact ⟨⟨k + 1, u7, u10, uf, by omega, by omega, by first | rfl | trivial, ⟨rfl, rfl, rfl, rfl, rfl, rfl⟩, HO6.out, HR10.out, HOf.out, HXf.out, hEE⟩, by simp [intOf]; omega⟩

mutual
theorem table_all : ∀ p : Pat, TableOk p
 | .node k pl mi nt mn mx l => by
  intro K w cs v ws hp hv hn hall
  have hk := nodeE_kind ((allN_eq _).1 hall).1
  have h7 : k = 0 ∨ k = 1 ∨ k = 2 ∨ k = 3 ∨ k = 4 ∨ k = 5 ∨ k = 6 := by omega
  rcases h7 with rfl | rfl | rfl | rfl | rfl | rfl | rfl
  ·exact table_0 pl mi nt mn mx l K w cs v ws hp hv hn hall
  ·exact table_1 pl mi nt mn mx l K w cs v ws hp hv hn hall
  ·exact table_2 pl mi nt mn mx l K w cs v ws hp hv hn hall
  ·exact table_3 pl mi nt mn mx l (table_alls l) K w cs v ws hp hv hn hall
  ·exact table_4 pl mi nt mn mx l (table_alls l) K w cs v ws hp hv hn hall
  ·exact table_5 pl mi nt mn mx l (table_alls l) K w cs v ws hp hv hn hall
  ·exact table_6 pl mi nt mn mx l K w cs v ws hp hv hn hall
theorem table_alls : ∀ l : List Pat, ∀ p ∈ l, TableOk p
 | [], _, h => by cases h
 | q :: l, p, h => (List.mem_cons.1 h).elim (fun e => e ▸ table_all q) (fun h => table_alls l p h)
end


theorem refends_any {K : Nat → Prop} {w : World} {p : Pat} {cs : List Value} {v : Value} {ws : Wd} (hp : PatAt K w p cs) (hv : WordAt w v ws) (at' : Int) :
  Calls Tryz.prog 93 #[.agg cs.toArray, v, .int .i64 at'] w fun e w' => ∃ u, e = .returned (.tuple #[u, .int .i64 (placeE p ws at')]) ∧ w'.ownsRow w.heap.size 3 1 u (endL p ws at').length (natV (endL p ws at')) ∧ Ext w w' := by
 have hbo := fun (V : World) (hE : Ext w V) => refboth_any (hp.ext hE) (hv.ext hE)
 have htb := fun (V : World) (hE : Ext w V) (h : relE p ws = 0) => table_all p K V cs v ws (hp.ext hE) (hv.ext hE) (relE_zero.1 h).2.1 (good_allN h)
 have hgd : relE p ws = 0 → relR p ws = relP ws p ∧ ws.length ≤ 32 := fun h => ⟨relR_good h, (relE_zero.1 h).2.1⟩
 obtain ⟨ao, cap, rfl, hlc, hcm, _⟩ := patAt_cells hp
 obtain ⟨bo, bcap, rfl, hbm⟩ := hv.slice
 have HBO := Lib.hid hbo; have HTB := Lib.hid htb; have HGD := Lib.hid hgd
 clear hp hlc hcm hv hbo htb hgd
 obtain ⟨z, hz⟩ : ∃ z, relE p ws = z := ⟨_, rfl⟩
 obtain ⟨n, hN⟩ : ∃ n, ws.length = n := ⟨_, rfl⟩
 obtain ⟨R, hR⟩ : ∃ R, relP ws p = R := ⟨_, rfl⟩
 have HP : Hid (placeE p ws at' = if z = 0 then exE n at' else z) := Lib.hid (by unfold placeE; rw [hz, hN])
 have HL : Hid (endL p ws at' = if placeE p ws at' = 0 then (List.range (n + 1)).filter (fun x => relR p ws at'.toNat x) else []) := Lib.hid (by unfold endL; rw [hN])
 rw [hz] at HBO HTB HGD
 rw [hR] at HTB HGD
 rw [hN] at HBO HTB HGD hbm ⊢
 clear hz hN hR
 unfold maxLen at hbm
 unfold patCells at HBO HTB ⊢
 go_enter Tryz.func93, Tryz.ntmps93
 go_wp2_with fail
 refine (HBO.out _ ((Turn.refl _ w).alloc _)).mono ?_
 rintro e w2 ⟨rfl, hE2⟩
 have hE02 : Ext w w2 := Turn.trans ((Turn.refl _ w).alloc _) hE2
 have hx : w2.heap[w.heap.size]? = some (.cells #[.int .i64 p.k, .int .u32 (p.pl : Int), .int .u32 (p.mi : Int), .bool p.nt, .int .i64 p.mn, .int .i64 p.mx, .slice ao p.l.length cap] 27 (0, 0)) := hE2.keep (new_at rfl)
 have cX := fun j => cell_of_row _ _ j _ _ _ hx
 clear hE2
 by_cases hz0 : z = 0
 case neg =>
  have gz : (z == 0) = false := by rw [beq_eq_false_iff_ne]; exact hz0
  rw [if_neg hz0] at HP
  have HL2 : Hid (endL p ws at' = []) := Lib.hid (by rw [HL.out, HP.out, if_neg hz0])
  clear hz0 cX hx
  go_wp2
  refine bodyPost_ret (results_two rfl _ _ _) rfl ⟨_, by rw [HP.out]; rfl, ?_, hE02⟩
  rw [HL2.out]
  exact World.ownsRow_nil _ _ _ _
 rw [if_pos hz0] at HP
 subst hz0
 obtain ⟨hrr, hn⟩ := HGD.out rfl
 rw [hrr] at HL
 clear hrr HGD
 by_cases hin : at' < 0 ∨ (n : Int) < at'
 ·have hex : exE n at' = 3 := by unfold exE; rw [if_pos hin]
  rw [hex] at HP
  have HL2 : Hid (endL p ws at' = []) := Lib.hid (by rw [HL.out, HP.out, if_neg (by decide)])
  clear hex cX hx
  go_wp2
  all_goals
   refine bodyPost_ret (results_two rfl _ _ _) rfl ⟨_, by rw [HP.out]; rfl, ?_, hE02⟩
   rw [HL2.out]
   exact World.ownsRow_nil _ _ _ _
 have hex : exE n at' = 0 := by unfold exE; rw [if_neg hin]
 rw [hex] at HP
 obtain ⟨m, rfl⟩ : ∃ m : Nat, at' = m := ⟨at'.toNat, by omega⟩
 have HL2 : Hid (endL p ws m = (List.range (n + 1)).filter (fun x => R m x)) := Lib.hid (by rw [HL.out, HP.out]; rfl)
 have hmn : m ≤ n := by omega
 have g1 : ¬ ((m : Int) < 0) := by omega
 have g2 : ¬ ((n : Int) < (m : Int)) := by omega
 clear hex HL hin
 go_wp2_with fail
 refine (HTB.out _ hE02 (by first | rfl | trivial)).mono ?_
 rintro e w3 ⟨ut, rfl, hOt, hE3⟩
 obtain ⟨gt, ct, rfl, hgt, hct⟩ := RowsR.own hOt
 have hE03 := hE02.trans hE3
 have HCT := Lib.hid hct
 obtain ⟨B3, hB3⟩ : ∃ b, w3.heap.size = b := ⟨_, rfl⟩
 have HB3 := Lib.hid hB3
 have hB03 : w.heap.size ≤ B3 := by rw [← hB3]; exact hE03.size
 clear hB3
 clear hOt hE3 cX hx hE02 hct hgt
 go_wp2
 refine wp_loop (fun a W => ∃ (k : Nat) (v10 : Value), k ≤ n + 1 ∧ a.defers = [] ∧ (a.tmps.size = 48 ∧ a.tmps.getD 1 undef = .slice bo n bcap ∧ a.tmps.getD 2 undef = .int .i64 m ∧ a.tmps.getD 9 undef = .slice (some ⟨gt, 0, none⟩) (n + 1) ct ∧ a.tmps.getD 10 undef = v10 ∧ a.tmps.getD 11 undef = .int .i64 k) ∧ W.ownsRow B3 3 1 v10 ((List.range k).filter (fun x => R m x)).length (natV ((List.range k).filter (fun x => R m x))) ∧ Ext w3 W)
  (fun a _ => n + 1 - (intOf (a.tmps.getD 11 undef)).toNat) ?_ ?_
 ·exact ⟨0, _, by omega, rfl, ⟨rfl, rfl, rfl, rfl, rfl, rfl⟩, World.ownsRow_nil _ _ _ _, Turn.refl _ _⟩
 rintro ⟨t, _⟩ W ⟨k, v10, hk, hds, ⟨hsz, f1, f2, f9, f10, f11⟩, hO, hE⟩
 subst hds
 obtain ⟨u', hu⟩ := frame_fun hsz
 obtain ⟨u, rfl⟩ : ∃ x, x = u' := ⟨_, rfl⟩
 have hu' : t = #[u 0, u 1, u 2, u 3, u 4, u 5, u 6, u 7, u 8, u 9, u 10, u 11, u 12, u 13, u 14, u 15, u 16, u 17, u 18, u 19, u 20, u 21, u 22, u 23, u 24, u 25, u 26, u 27, u 28, u 29, u 30, u 31, u 32, u 33, u 34, u 35, u 36, u 37, u 38, u 39, u 40, u 41, u 42, u 43, u 44, u 45, u 46, u 47] := hu
 clear hu
 subst hu'
 change u 1 = _ at f1
 change u 2 = _ at f2
 change u 9 = _ at f9
 change u 10 = _ at f10
 change u 11 = _ at f11
 rw [f1, f2, f9, f10, f11]
 clear f1 f2 f9 f10 f11 hsz
 by_cases hkn : k < n + 1
 ·have h1 : (k : Int) ≤ (n : Int) := by omega
  have h2 : (m : Int) < (n : Int) + 1 := by omega
  have h3 : (k : Int) < 64 := by omega
  have h4 : (m : Int) < 64 := by omega
  have c0 := hE.cell_some (HCT.out m (by omega)) id
  have hl := rowM_lt R m
  have hb := bitR R m k (by omega)
  have hfil : (List.range (k + 1)).filter (fun x => R m x) = (List.range k).filter (fun x => R m x) ++ if R m k then [k] else [] := by
   rw [List.range_succ, List.filter_append]; cases hq : R m k <;> simp [hq]
  have hlen : ((List.range k).filter (fun x => R m x)).length ≤ 33 := by
   have := List.length_filter_le (fun x => R m x) (List.range k); simp at this; omega
  have HF := Lib.hid hfil
  obtain ⟨rw0, hrw⟩ : ∃ r, rowM R m = r := ⟨_, rfl⟩
  rw [hrw] at c0 hl hb
  clear hfil hrw
  obtain ⟨q, hq⟩ : ∃ q, R m k = q := ⟨_, rfl⟩
  rw [hq] at hb HF
  have HO := Lib.hid hO
  clear hq hO
  cases q
  ·have hf := HF.out
   rw [if_neg (by decide), List.append_nil] at hf
   have HO2 := HO.out
   rw [← hf] at HO2
   have HO3 := Lib.hid HO2
   clear hf HO2
   go_wp2
   exact ⟨⟨k + 1, _, by omega, by first | rfl | trivial, ⟨rfl, rfl, rfl, rfl, rfl, rfl⟩, HO3.out, hE⟩, by simp [intOf]; omega⟩
  ·have hwb : B3 ≤ W.heap.size := by have := hE.size; have := HB3.out; omega
   go_wp2_with (at_builtin; refine append_row rfl (.tmp 43) (.tmp 45) 38 rfl B3 3 _ 1 8 Tryz.underlying38 Tryz.infoI rfl (by decide) _ _ _ rfl (own_ext HO.out ((Turn.refl _ W).alloc _)) ⟨W.heap.size, 0, none⟩ 1 1 [.int .i64 k] rfl rfl (new_cells' rfl) ?c2 ?c3 ?c4 ?c5 ?_)
   case c2 => first | rfl | (intro u hu; simp at hu; rcases hu with rfl; rfl)
   case c3 => unfold maxLen; omega
   case c4 => omega
   case c5 => first | omega | (simp; omega)
   intro ao' c' w5 hO5 hT5 _
   have hT6 : Turn (fun b' => v10.ownBlock = some b') W w5 := Turn.trans (Turn.alloc (Turn.refl _ W) _) hT5
   have hE5 := hE.after hT6 (fun b' h1 e => by have := (HO.out.lt _ e).1; have := HB3.out; omega)
   have hf := HF.out
   simp only [if_true] at hf
   have hO6 : w5.ownsRow B3 3 1 (.slice ao' (((List.range k).filter (fun x => R m x)).length + 1) c') ((List.range (k + 1)).filter (fun x => R m x)).length (natV ((List.range (k + 1)).filter (fun x => R m x))) := by
    rw [hf, List.length_append, natV_append]
    exact hO5
   have HO6 := Lib.hid hO6
   clear hO5 hO6 hT5 hT6 hf
   go_wp2
   exact ⟨⟨k + 1, _, by omega, by first | rfl | trivial, ⟨rfl, rfl, rfl, rfl, rfl, rfl⟩, HO6.out, hE5⟩, by simp [intOf]; omega⟩
 ·obtain rfl : k = n + 1 := by omega
  have h1 : ¬ (((n + 1 : Nat) : Int) ≤ (n : Int)) := by omega
  rw [← HL2.out] at hO
  have hO := own_base hO hB03
  have HO := Lib.hid hO
  clear hO
  go_wp2
  exact bodyPost_ret (results_two rfl _ _ _) rfl ⟨_, by rw [HP.out]; rfl, HO.out, hE03.trans hE⟩

theorem refbegins_any {K : Nat → Prop} {w : World} {p : Pat} {cs : List Value} {v : Value} {ws : Wd} (hp : PatAt K w p cs) (hv : WordAt w v ws) (at' : Int) :
  Calls Tryz.prog 92 #[.agg cs.toArray, v, .int .i64 at'] w fun e w' => ∃ u, e = .returned (.tuple #[u, .int .i64 (placeE p ws at')]) ∧ w'.ownsRow w.heap.size 3 1 u (begL p ws at').length (natV (begL p ws at')) ∧ Ext w w' := by
 have hbo := fun (V : World) (hE : Ext w V) => refboth_any (hp.ext hE) (hv.ext hE)
 have htb := fun (V : World) (hE : Ext w V) (h : relE p ws = 0) => table_all p K V cs v ws (hp.ext hE) (hv.ext hE) (relE_zero.1 h).2.1 (good_allN h)
 have hgd : relE p ws = 0 → relR p ws = relP ws p ∧ ws.length ≤ 32 := fun h => ⟨relR_good h, (relE_zero.1 h).2.1⟩
 obtain ⟨ao, cap, rfl, hlc, hcm, _⟩ := patAt_cells hp
 obtain ⟨bo, bcap, rfl, hbm⟩ := hv.slice
 have HBO := Lib.hid hbo; have HTB := Lib.hid htb; have HGD := Lib.hid hgd
 clear hp hlc hcm hv hbo htb hgd
 obtain ⟨z, hz⟩ : ∃ z, relE p ws = z := ⟨_, rfl⟩
 obtain ⟨n, hN⟩ : ∃ n, ws.length = n := ⟨_, rfl⟩
 obtain ⟨R, hR⟩ : ∃ R, relP ws p = R := ⟨_, rfl⟩
 have HP : Hid (placeE p ws at' = if z = 0 then exE n at' else z) := Lib.hid (by unfold placeE; rw [hz, hN])
 have HL : Hid (begL p ws at' = if placeE p ws at' = 0 then (List.range (n + 1)).filter (fun x => relR p ws x at'.toNat) else []) := Lib.hid (by unfold begL; rw [hN])
 rw [hz] at HBO HTB HGD
 rw [hR] at HTB HGD
 rw [hN] at HBO HTB HGD hbm ⊢
 clear hz hN hR
 unfold maxLen at hbm
 unfold patCells at HBO HTB ⊢
 go_enter Tryz.func92, Tryz.ntmps92
 go_wp2_with fail
 refine (HBO.out _ ((Turn.refl _ w).alloc _)).mono ?_
 rintro e w2 ⟨rfl, hE2⟩
 have hE02 : Ext w w2 := Turn.trans ((Turn.refl _ w).alloc _) hE2
 have hx : w2.heap[w.heap.size]? = some (.cells #[.int .i64 p.k, .int .u32 (p.pl : Int), .int .u32 (p.mi : Int), .bool p.nt, .int .i64 p.mn, .int .i64 p.mx, .slice ao p.l.length cap] 27 (0, 0)) := hE2.keep (new_at rfl)
 have cX := fun j => cell_of_row _ _ j _ _ _ hx
 clear hE2
 by_cases hz0 : z = 0
 case neg =>
  have gz : (z == 0) = false := by rw [beq_eq_false_iff_ne]; exact hz0
  rw [if_neg hz0] at HP
  have HL2 : Hid (begL p ws at' = []) := Lib.hid (by rw [HL.out, HP.out, if_neg hz0])
  clear hz0 cX hx
  go_wp2
  refine bodyPost_ret (results_two rfl _ _ _) rfl ⟨_, by rw [HP.out]; rfl, ?_, hE02⟩
  rw [HL2.out]
  exact World.ownsRow_nil _ _ _ _
 rw [if_pos hz0] at HP
 subst hz0
 obtain ⟨hrr, hn⟩ := HGD.out rfl
 rw [hrr] at HL
 clear hrr HGD
 by_cases hin : at' < 0 ∨ (n : Int) < at'
 ·have hex : exE n at' = 3 := by unfold exE; rw [if_pos hin]
  rw [hex] at HP
  have HL2 : Hid (begL p ws at' = []) := Lib.hid (by rw [HL.out, HP.out, if_neg (by decide)])
  clear hex cX hx
  go_wp2
  all_goals
   refine bodyPost_ret (results_two rfl _ _ _) rfl ⟨_, by rw [HP.out]; rfl, ?_, hE02⟩
   rw [HL2.out]
   exact World.ownsRow_nil _ _ _ _
 have hex : exE n at' = 0 := by unfold exE; rw [if_neg hin]
 rw [hex] at HP
 obtain ⟨m, rfl⟩ : ∃ m : Nat, at' = m := ⟨at'.toNat, by omega⟩
 have HL2 : Hid (begL p ws m = (List.range (n + 1)).filter (fun x => R x m)) := Lib.hid (by rw [HL.out, HP.out]; rfl)
 have hmn : m ≤ n := by omega
 have g1 : ¬ ((m : Int) < 0) := by omega
 have g2 : ¬ ((n : Int) < (m : Int)) := by omega
 clear hex HL hin
 go_wp2_with fail
 refine (HTB.out _ hE02 (by first | rfl | trivial)).mono ?_
 rintro e w3 ⟨ut, rfl, hOt, hE3⟩
 obtain ⟨gt, ct, rfl, hgt, hct⟩ := RowsR.own hOt
 have hE03 := hE02.trans hE3
 have HCT := Lib.hid hct
 obtain ⟨B3, hB3⟩ : ∃ b, w3.heap.size = b := ⟨_, rfl⟩
 have HB3 := Lib.hid hB3
 have hB03 : w.heap.size ≤ B3 := by rw [← hB3]; exact hE03.size
 clear hB3
 clear hOt hE3 cX hx hE02 hct hgt
 go_wp2
 refine wp_loop (fun a W => ∃ (k : Nat) (v10 : Value), k ≤ n + 1 ∧ a.defers = [] ∧ (a.tmps.size = 48 ∧ a.tmps.getD 1 undef = .slice bo n bcap ∧ a.tmps.getD 2 undef = .int .i64 m ∧ a.tmps.getD 9 undef = .slice (some ⟨gt, 0, none⟩) (n + 1) ct ∧ a.tmps.getD 10 undef = v10 ∧ a.tmps.getD 11 undef = .int .i64 k) ∧ W.ownsRow B3 3 1 v10 ((List.range k).filter (fun x => R x m)).length (natV ((List.range k).filter (fun x => R x m))) ∧ Ext w3 W)
  (fun a _ => n + 1 - (intOf (a.tmps.getD 11 undef)).toNat) ?_ ?_
 ·exact ⟨0, _, by omega, rfl, ⟨rfl, rfl, rfl, rfl, rfl, rfl⟩, World.ownsRow_nil _ _ _ _, Turn.refl _ _⟩
 rintro ⟨t, _⟩ W ⟨k, v10, hk, hds, ⟨hsz, f1, f2, f9, f10, f11⟩, hO, hE⟩
 subst hds
 obtain ⟨u', hu⟩ := frame_fun hsz
 obtain ⟨u, rfl⟩ : ∃ x, x = u' := ⟨_, rfl⟩
 have hu' : t = #[u 0, u 1, u 2, u 3, u 4, u 5, u 6, u 7, u 8, u 9, u 10, u 11, u 12, u 13, u 14, u 15, u 16, u 17, u 18, u 19, u 20, u 21, u 22, u 23, u 24, u 25, u 26, u 27, u 28, u 29, u 30, u 31, u 32, u 33, u 34, u 35, u 36, u 37, u 38, u 39, u 40, u 41, u 42, u 43, u 44, u 45, u 46, u 47] := hu
 clear hu
 subst hu'
 change u 1 = _ at f1
 change u 2 = _ at f2
 change u 9 = _ at f9
 change u 10 = _ at f10
 change u 11 = _ at f11
 rw [f1, f2, f9, f10, f11]
 clear f1 f2 f9 f10 f11 hsz
 by_cases hkn : k < n + 1
 ·have h1 : (k : Int) ≤ (n : Int) := by omega
  have h2 : (k : Int) < (n : Int) + 1 := by omega
  have h3 : (k : Int) < 64 := by omega
  have h4 : (m : Int) < 64 := by omega
  have c0 := hE.cell_some (HCT.out k (by omega)) id
  have hl := rowM_lt R k
  have hb := bitR R k m (by omega)
  have hfil : (List.range (k + 1)).filter (fun x => R x m) = (List.range k).filter (fun x => R x m) ++ if R k m then [k] else [] := by
   rw [List.range_succ, List.filter_append]; cases hq : R k m <;> simp [hq]
  have hlen : ((List.range k).filter (fun x => R x m)).length ≤ 33 := by
   have := List.length_filter_le (fun x => R x m) (List.range k); simp at this; omega
  have HF := Lib.hid hfil
  obtain ⟨rw0, hrw⟩ : ∃ r, rowM R k = r := ⟨_, rfl⟩
  rw [hrw] at c0 hl hb
  clear hfil hrw
  obtain ⟨q, hq⟩ : ∃ q, R k m = q := ⟨_, rfl⟩
  rw [hq] at hb HF
  have HO := Lib.hid hO
  clear hq hO
  cases q
  ·have hf := HF.out
   rw [if_neg (by decide), List.append_nil] at hf
   have HO2 := HO.out
   rw [← hf] at HO2
   have HO3 := Lib.hid HO2
   clear hf HO2
   go_wp2
   exact ⟨⟨k + 1, _, by omega, by first | rfl | trivial, ⟨rfl, rfl, rfl, rfl, rfl, rfl⟩, HO3.out, hE⟩, by simp [intOf]; omega⟩
  ·have hwb : B3 ≤ W.heap.size := by have := hE.size; have := HB3.out; omega
   go_wp2_with (at_builtin; refine append_row rfl (.tmp 43) (.tmp 45) 38 rfl B3 3 _ 1 8 Tryz.underlying38 Tryz.infoI rfl (by decide) _ _ _ rfl (own_ext HO.out ((Turn.refl _ W).alloc _)) ⟨W.heap.size, 0, none⟩ 1 1 [.int .i64 k] rfl rfl (new_cells' rfl) ?c2 ?c3 ?c4 ?c5 ?_)
   case c2 => first | rfl | (intro u hu; simp at hu; rcases hu with rfl; rfl)
   case c3 => unfold maxLen; omega
   case c4 => omega
   case c5 => first | omega | (simp; omega)
   intro ao' c' w5 hO5 hT5 _
   have hT6 : Turn (fun b' => v10.ownBlock = some b') W w5 := Turn.trans (Turn.alloc (Turn.refl _ W) _) hT5
   have hE5 := hE.after hT6 (fun b' h1 e => by have := (HO.out.lt _ e).1; have := HB3.out; omega)
   have hf := HF.out
   simp only [if_true] at hf
   have hO6 : w5.ownsRow B3 3 1 (.slice ao' (((List.range k).filter (fun x => R x m)).length + 1) c') ((List.range (k + 1)).filter (fun x => R x m)).length (natV ((List.range (k + 1)).filter (fun x => R x m))) := by
    rw [hf, List.length_append, natV_append]
    exact hO5
   have HO6 := Lib.hid hO6
   clear hO5 hO6 hT5 hT6 hf
   go_wp2
   exact ⟨⟨k + 1, _, by omega, by first | rfl | trivial, ⟨rfl, rfl, rfl, rfl, rfl, rfl⟩, HO6.out, hE5⟩, by simp [intOf]; omega⟩
 ·obtain rfl : k = n + 1 := by omega
  have h1 : ¬ (((n + 1 : Nat) : Int) ≤ (n : Int)) := by omega
  rw [← HL2.out] at hO
  have hO := own_base hO hB03
  have HO := Lib.hid hO
  clear hO
  go_wp2
  exact bodyPost_ret (results_two rfl _ _ _) rfl ⟨_, by rw [HP.out]; rfl, HO.out, hE03.trans hE⟩
end Go.Proofs.YtedhogbocifipaaGreatDoor
