/- ablautref06.Table, patterns one after the other, and either of some (printed by gentable.py). -/
import Derived.Test.YtapfoaiibjdfnaaDoorTableA
namespace Go.Proofs.YtapfoaiibjdfnaaDoor
open Go.RowKit Go.Ab
attribute [local go_sem] Oper.semAt_some wide_fn wide_depth

set_option maxRecDepth 100000 in
set_option maxHeartbeats 8000000 in
theorem table_3 (pl mi : Nat) (nt : Bool) (mn mx : Int) (l : List Pat) (ih : ∀ p ∈ l, TableOk p) : TableOk (.node 3 pl mi nt mn mx l) := by
  intro K w cs v ws hp hv hn hall
  have hE1 : ∀ V : World, Ext w V → PatAt K V (.node 3 pl mi nt mn mx l) cs := fun V hE => hp.ext hE
  unfold PatAt at hp
  obtain ⟨ao, cap, rfl, hpl, hmi, hlc, hcm, hl⟩ := hp
  obtain ⟨bo, bcap, rfl, hbm⟩ := hv.slice
  rw [allN_eq] at hall
  obtain ⟨hnode, hkids0⟩ := hall
  have hkids : allNs l := hkids0
  rw [allNs_iff] at hkids
  clear hkids0
  have hrel := relP_node ws 3 pl mi nt mn mx l
  rw [if_neg (by decide), if_neg (by decide), if_neg (by decide), if_neg (by decide), if_neg (by decide)] at hrel
  unfold patCells
  obtain ⟨N, hN⟩ : ∃ N, l.length = N := ⟨_, rfl⟩
  obtain ⟨n, hnn⟩ : ∃ n, ws.length = n := ⟨_, rfl⟩
  have HNN := Lib.hid hnn; have HN := Lib.hid hN; have HV := Lib.hid hv; have HL := Lib.hid hl; have HKID := Lib.hid hkids; have HREL := Lib.hid hrel; have HNODE := Lib.hid hnode; have IH := Lib.hid ih
  have hlm : N ≤ maxLen := by rw [← hN]; exact Nat.le_trans hlc hcm
  have hbn : n ≤ 32 := by rw [← hnn]; exact hn
  unfold maxLen at hlm hbm
  show Calls Tryd.prog 52 #[.agg #[.int .i64 3, .int .u32 (pl : Int), .int .u32 (mi : Int), .bool nt, .int .i64 mn, .int .i64 mx, .slice ao l.length cap], .slice bo ws.length bcap] w _
  rw [hN, hnn]
  clear ih hv hl hkids hrel hnode hlc hcm hN hnn hn hbm hE1
  go_enter Tryd.func52, Tryd.ntmps52
  go_wp2_with (at_make; refine make_row1 rfl (.tmp 17) (.tmp 17) 77 rfl (w.heap.size + 1) 65 _ 8 Tryd.underlying77 Tryd.infoU rfl .i64 .i64 _ _ (n + 1) rfl rfl (by first | rfl | omega | simp) (by first | rfl | omega | simp) ?c1 ?c2 (by simp) ?_)
  case c1 => omega
  case c2 => unfold maxLen; omega
  intro w1 hO hE1
  obtain ⟨B, hB⟩ : ∃ r, w.heap.size = r := ⟨_, rfl⟩
  have hx1 : w1.heap[w.heap.size]? = some (.cells #[.int .i64 3, .int .u32 (pl : Int), .int .u32 (mi : Int), .bool nt, .int .i64 mn, .int .i64 mx, .slice ao N cap] 27 (0, 0)) := hE1.keep (new_at rfl)
  have hE01 : Ext w w1 := Turn.trans ((Turn.refl _ w).alloc _) hE1
  rw [hB] at hO hx1 ⊢
  rw [u64V_zero, show u64V (n + 1) (fun _ => 0) = u64V (n + 1) (fun a => if a < 0 then rowM (noB) a else 0) from u64V_congr fun a _ => by simp] at hO
  have HB := Lib.hid hB
  have HX := Lib.hid hx1
  clear hB hx1 hE1
  go_wp2
  refine wp_loop (fun a W => ∃ (k : Nat), k ≤ n + 1 ∧ a.defers = [] ∧ (a.tmps.size = 153 ∧ a.tmps.getD 1 undef = .slice bo n bcap ∧ a.tmps.getD 2 undef = .pointer (some ⟨B, 0, none⟩) ∧ a.tmps.getD 5 undef = .int .i64 n ∧ a.tmps.getD 6 undef = .slice (some ⟨B + 1, 0, none⟩) (n + 1) (n + 1) ∧ a.tmps.getD 7 undef = .int .i64 k) ∧ W.ownsRow (B + 1) 65 1 (.slice (some ⟨B + 1, 0, none⟩) (n + 1) (n + 1)) (n + 1) (u64V (n + 1) (fun a => if a < k then rowM (noB) a else 0)) ∧ W.heap[B]? = some (.cells #[.int .i64 3, .int .u32 (pl : Int), .int .u32 (mi : Int), .bool nt, .int .i64 mn, .int .i64 mx, .slice ao N cap] 27 (0, 0)) ∧ Ext w W)
    (fun a _ => n + 1 - (intOf (a.tmps.getD 7 undef)).toNat) ?_ ?_
  · exact ⟨0, by omega, rfl, ⟨rfl, rfl, rfl, rfl, rfl, rfl⟩, hO, HX.out, hE01⟩
  clear hO hE01 HX
  rintro ⟨t, _⟩ W ⟨k, hk, hds, ⟨hsz, f1, f2, f5, f6, f7⟩, hO, hx, hE⟩
  subst hds
  obtain ⟨u', hu⟩ := frame_fun hsz
  obtain ⟨u, rfl⟩ : ∃ x, x = u' := ⟨_, rfl⟩
  have hu' : t = #[u 0, u 1, u 2, u 3, u 4, u 5, u 6, u 7, u 8, u 9, u 10, u 11, u 12, u 13, u 14, u 15, u 16, u 17, u 18, u 19, u 20, u 21, u 22, u 23, u 24, u 25, u 26, u 27, u 28, u 29, u 30, u 31, u 32, u 33, u 34, u 35, u 36, u 37, u 38, u 39, u 40, u 41, u 42, u 43, u 44, u 45, u 46, u 47, u 48, u 49, u 50, u 51, u 52, u 53, u 54, u 55, u 56, u 57, u 58, u 59, u 60, u 61, u 62, u 63, u 64, u 65, u 66, u 67, u 68, u 69, u 70, u 71, u 72, u 73, u 74, u 75, u 76, u 77, u 78, u 79, u 80, u 81, u 82, u 83, u 84, u 85, u 86, u 87, u 88, u 89, u 90, u 91, u 92, u 93, u 94, u 95, u 96, u 97, u 98, u 99, u 100, u 101, u 102, u 103, u 104, u 105, u 106, u 107, u 108, u 109, u 110, u 111, u 112, u 113, u 114, u 115, u 116, u 117, u 118, u 119, u 120, u 121, u 122, u 123, u 124, u 125, u 126, u 127, u 128, u 129, u 130, u 131, u 132, u 133, u 134, u 135, u 136, u 137, u 138, u 139, u 140, u 141, u 142, u 143, u 144, u 145, u 146, u 147, u 148, u 149, u 150, u 151, u 152] := hu
  clear hu
  subst hu'
  change u 1 = _ at f1
  change u 2 = _ at f2
  change u 5 = _ at f5
  change u 6 = _ at f6
  change u 7 = _ at f7
  rw [f1, f2, f5, f6, f7]
  clear f1 f2 f5 f6 f7 hsz
  have cX := fun j => cell_of_row _ _ j _ _ _ hx
  by_cases hkn : k < n + 1
  · have h1 : (k : Int) ≤ (n : Int) := by omega
    have h2 : (k : Int) < (n : Int) + 1 := by omega
    have h3 : (k : Int) < 64 := by omega
    have hval : rowM (noB) k = 0 := rowM_no k
    rw [u64V_congr (g := fun a => if a < k + 1 then rowM (noB) a else 0) (fun i _ => by
      by_cases e : i = k
      · rw [if_neg (by omega), if_pos (by omega), e, hval]
      · by_cases h : i < k
        · rw [if_pos h, if_pos (by omega)]
        · rw [if_neg h, if_neg (by omega)])] at hO
    have HO := Lib.hid hO
    clear hO hval
    go_wp2
    exact ⟨⟨k + 1, by omega, by first | rfl | trivial, ⟨rfl, rfl, rfl, rfl, rfl, rfl⟩, HO.out, hx, hE⟩, by first | (simp [intOf]; done) | (simp [intOf]; omega)⟩
  · obtain rfl : k = n + 1 := by omega
    have h1 : ¬ (((n + 1 : Nat) : Int) ≤ (n : Int)) := by omega
    clear hO cX
    have cX := fun j => cell_of_row _ _ j _ _ _ hx
    go_wp2_with fail
    refine (same_tab n hbn _).mono ?_
    rintro e W2 ⟨u0, rfl, hO, hE2⟩
    have hO := own_base (base' := w.heap.size) hO (by have := hE.size; exact this)
    have hx := hE2.keep hx
    have hE := hE.trans hE2
    have hr0 : rowM (idB n) = rowM (seqB ws (l.take 0) (idB n)) := by rw [List.take_zero, seqB]
    rw [hr0] at hO
    have HO := Lib.hid hO
    have HX := Lib.hid hx
    clear hr0 hO hE2 cX
    go_wp2
    refine wp_loop (fun a W => ∃ (i : Nat) (u6 : Value), i ≤ N ∧ a.defers = [] ∧ (a.tmps.size = 153 ∧ a.tmps.getD 1 undef = .slice bo n bcap ∧ a.tmps.getD 2 undef = .pointer (some ⟨B, 0, none⟩) ∧ a.tmps.getD 5 undef = .int .i64 n ∧ a.tmps.getD 6 undef = u6 ∧ a.tmps.getD 8 undef = .int .i64 i) ∧ W.ownsRow w.heap.size 65 1 u6 (n + 1) (u64V (n + 1) (rowM (seqB ws (l.take i) (idB n)))) ∧ W.heap[B]? = some (.cells #[.int .i64 3, .int .u32 (pl : Int), .int .u32 (mi : Int), .bool nt, .int .i64 mn, .int .i64 mx, .slice ao N cap] 27 (0, 0)) ∧ Ext w W)
      (fun a _ => N - (intOf (a.tmps.getD 8 undef)).toNat) ?_ ?_
    · exact ⟨0, u0, by omega, rfl, ⟨rfl, rfl, rfl, rfl, rfl, rfl⟩, HO.out, HX.out, hE⟩
    clear HO HX hE
    rintro ⟨t, _⟩ W ⟨i, u6, hi, hds, ⟨hsz, f1, f2, f5, f6, f8⟩, hO, hx, hE⟩
    subst hds
    obtain ⟨u', hu⟩ := frame_fun hsz
    obtain ⟨u, rfl⟩ : ∃ x, x = u' := ⟨_, rfl⟩
    have hu' : t = #[u 0, u 1, u 2, u 3, u 4, u 5, u 6, u 7, u 8, u 9, u 10, u 11, u 12, u 13, u 14, u 15, u 16, u 17, u 18, u 19, u 20, u 21, u 22, u 23, u 24, u 25, u 26, u 27, u 28, u 29, u 30, u 31, u 32, u 33, u 34, u 35, u 36, u 37, u 38, u 39, u 40, u 41, u 42, u 43, u 44, u 45, u 46, u 47, u 48, u 49, u 50, u 51, u 52, u 53, u 54, u 55, u 56, u 57, u 58, u 59, u 60, u 61, u 62, u 63, u 64, u 65, u 66, u 67, u 68, u 69, u 70, u 71, u 72, u 73, u 74, u 75, u 76, u 77, u 78, u 79, u 80, u 81, u 82, u 83, u 84, u 85, u 86, u 87, u 88, u 89, u 90, u 91, u 92, u 93, u 94, u 95, u 96, u 97, u 98, u 99, u 100, u 101, u 102, u 103, u 104, u 105, u 106, u 107, u 108, u 109, u 110, u 111, u 112, u 113, u 114, u 115, u 116, u 117, u 118, u 119, u 120, u 121, u 122, u 123, u 124, u 125, u 126, u 127, u 128, u 129, u 130, u 131, u 132, u 133, u 134, u 135, u 136, u 137, u 138, u 139, u 140, u 141, u 142, u 143, u 144, u 145, u 146, u 147, u 148, u 149, u 150, u 151, u 152] := hu
    clear hu
    subst hu'
    change u 1 = _ at f1
    change u 2 = _ at f2
    change u 5 = _ at f5
    change u 6 = _ at f6
    change u 8 = _ at f8
    rw [f1, f2, f5, f6, f8]
    clear f1 f2 f5 f6 f8 hsz
    have cX := fun j => cell_of_row _ _ j _ _ _ hx
    by_cases hiN : i < N
    · have h1 : (i : Int) < (N : Int) := by omega
      have hil : i < l.length := by rw [HN.out]; exact hiN
      obtain ⟨g, off, c, rfl, hg, hgl, hra, hq⟩ := (HL.out.ext hE).get i hil
      rw [Nat.zero_add] at hra
      obtain ⟨qo, qcap, hcq, _, _, _⟩ := patAt_cells hq
      obtain ⟨c0, c1, c2, c3, c4, c5, c6⟩ := patCells_at hra hcq
      have hc := IH.out _ (List.getElem_mem hil) K W c _ ws hq (HV.out.ext hE) (by rw [HNN.out]; exact hbn) (HKID.out _ (List.getElem_mem hil))
      rw [HNN.out] at hc
      have htk : l.take (i + 1) = l.take i ++ [l[i]] := List.take_succ_eq_append_getElem hil
      have hmono : Mono n (seqB ws (l.take i) (idB n)) := by
        have := seqB_mono ws (l.take i) (idB n) (by rw [HNN.out]; exact Mono.id n)
        rw [HNN.out] at this
        exact this
      have hnext : rowM (seqB ws (l.take (i + 1)) (idB n)) = rowM (comp (seqB ws (l.take i) (idB n)) (relP ws l[i])) := by
        rw [htk, seqB_snoc]
      rw [hcq] at hc
      unfold patCells at hc
      obtain ⟨R, hR⟩ : ∃ R, seqB ws (l.take i) (idB n) = R := ⟨_, rfl⟩
      obtain ⟨Q, hQ⟩ : ∃ R, relP ws l[i] = R := ⟨_, rfl⟩
      rw [hR] at hO hmono hnext
      rw [hQ] at hc hnext
      have HC := Lib.hid hc; have HM := Lib.hid hmono; have HNX := Lib.hid hnext; have HO := Lib.hid hO; have HX := Lib.hid hx
      clear hc hra hq hcq hmono hnext htk hR hQ hO
      go_wp2_with fail
      refine HC.out.mono ?_
      rintro e W2 ⟨u2, rfl, hO2, hE2⟩
      have hr1 := (RowsR.own HO.out).ext hE2
      have hr2 := RowsR.own hO2
      have hx2 := hE2.keep HX.out
      have hE := hE.trans hE2
      clear c0 c1 c2 c3 c4 c5 c6 HC cX hx hO2
      have cX := fun j => cell_of_row _ _ j _ _ _ hx2
      go_wp2_with fail
      refine (follow_tab hbn hr1 hr2 HM.out).mono ?_
      rintro e W3 ⟨u3, rfl, hO3, hE3⟩
      have hx3 := hE3.keep hx2
      have hE4 := hE.trans hE3
      have hO4 := own_base (base' := w.heap.size) hO3 (by have := hE.size; exact this)
      rw [← HNX.out] at hO4
      have HO4 := Lib.hid hO4; have HX3 := Lib.hid hx3
      clear hO3 hO4 hE3 hE hr1 hr2 cX hx2 hx3 HO HX
      go_wp2
      exact ⟨⟨i + 1, u3, by omega, by first | rfl | trivial, ⟨rfl, rfl, rfl, rfl, rfl, rfl⟩, HO4.out, HX3.out, hE4⟩, by simp [intOf]; omega⟩
    · obtain rfl : i = N := by omega
      have h1 : ¬ (i : Int) < (i : Int) := by omega
      have hfin : rowM (seqB ws (l.take i) (idB n)) = rowM (relP ws (.node 3 pl mi nt mn mx l)) := by
        rw [HREL.out, List.take_of_length_le (by rw [HN.out]; exact Nat.le_refl _), HNN.out]
      rw [hfin] at hO
      have HO := Lib.hid hO
      clear hO hfin
      go_wp2
      go_ret
      exact ⟨_, rfl, HO.out, hE⟩

set_option maxRecDepth 100000 in
set_option maxHeartbeats 8000000 in
theorem table_4 (pl mi : Nat) (nt : Bool) (mn mx : Int) (l : List Pat) (ih : ∀ p ∈ l, TableOk p) : TableOk (.node 4 pl mi nt mn mx l) := by
  intro K w cs v ws hp hv hn hall
  have hE1 : ∀ V : World, Ext w V → PatAt K V (.node 4 pl mi nt mn mx l) cs := fun V hE => hp.ext hE
  unfold PatAt at hp
  obtain ⟨ao, cap, rfl, hpl, hmi, hlc, hcm, hl⟩ := hp
  obtain ⟨bo, bcap, rfl, hbm⟩ := hv.slice
  rw [allN_eq] at hall
  obtain ⟨hnode, hkids0⟩ := hall
  have hkids : allNs l := hkids0
  rw [allNs_iff] at hkids
  clear hkids0
  have hrel := relP_node ws 4 pl mi nt mn mx l
  rw [if_neg (by decide), if_neg (by decide), if_neg (by decide), if_pos rfl] at hrel
  unfold patCells
  obtain ⟨N, hN⟩ : ∃ N, l.length = N := ⟨_, rfl⟩
  obtain ⟨n, hnn⟩ : ∃ n, ws.length = n := ⟨_, rfl⟩
  have HNN := Lib.hid hnn; have HN := Lib.hid hN; have HV := Lib.hid hv; have HL := Lib.hid hl; have HKID := Lib.hid hkids; have HREL := Lib.hid hrel; have HNODE := Lib.hid hnode; have IH := Lib.hid ih
  have hlm : N ≤ maxLen := by rw [← hN]; exact Nat.le_trans hlc hcm
  have hbn : n ≤ 32 := by rw [← hnn]; exact hn
  unfold maxLen at hlm hbm
  show Calls Tryd.prog 52 #[.agg #[.int .i64 4, .int .u32 (pl : Int), .int .u32 (mi : Int), .bool nt, .int .i64 mn, .int .i64 mx, .slice ao l.length cap], .slice bo ws.length bcap] w _
  rw [hN, hnn]
  clear ih hv hl hkids hrel hnode hlc hcm hN hnn hn hbm hE1
  go_enter Tryd.func52, Tryd.ntmps52
  go_wp2_with (at_make; refine make_row1 rfl (.tmp 17) (.tmp 17) 77 rfl (w.heap.size + 1) 65 _ 8 Tryd.underlying77 Tryd.infoU rfl .i64 .i64 _ _ (n + 1) rfl rfl (by first | rfl | omega | simp) (by first | rfl | omega | simp) ?c1 ?c2 (by simp) ?_)
  case c1 => omega
  case c2 => unfold maxLen; omega
  intro w1 hO hE1
  obtain ⟨B, hB⟩ : ∃ r, w.heap.size = r := ⟨_, rfl⟩
  have hx1 : w1.heap[w.heap.size]? = some (.cells #[.int .i64 4, .int .u32 (pl : Int), .int .u32 (mi : Int), .bool nt, .int .i64 mn, .int .i64 mx, .slice ao N cap] 27 (0, 0)) := hE1.keep (new_at rfl)
  have hE01 : Ext w w1 := Turn.trans ((Turn.refl _ w).alloc _) hE1
  rw [hB] at hO hx1 ⊢
  rw [u64V_zero, show u64V (n + 1) (fun _ => 0) = u64V (n + 1) (fun a => if a < 0 then rowM (noB) a else 0) from u64V_congr fun a _ => by simp] at hO
  have HB := Lib.hid hB
  have HX := Lib.hid hx1
  clear hB hx1 hE1
  go_wp2
  refine wp_loop (fun a W => ∃ (k : Nat), k ≤ n + 1 ∧ a.defers = [] ∧ (a.tmps.size = 153 ∧ a.tmps.getD 1 undef = .slice bo n bcap ∧ a.tmps.getD 2 undef = .pointer (some ⟨B, 0, none⟩) ∧ a.tmps.getD 5 undef = .int .i64 n ∧ a.tmps.getD 6 undef = .slice (some ⟨B + 1, 0, none⟩) (n + 1) (n + 1) ∧ a.tmps.getD 7 undef = .int .i64 k) ∧ W.ownsRow (B + 1) 65 1 (.slice (some ⟨B + 1, 0, none⟩) (n + 1) (n + 1)) (n + 1) (u64V (n + 1) (fun a => if a < k then rowM (noB) a else 0)) ∧ W.heap[B]? = some (.cells #[.int .i64 4, .int .u32 (pl : Int), .int .u32 (mi : Int), .bool nt, .int .i64 mn, .int .i64 mx, .slice ao N cap] 27 (0, 0)) ∧ Ext w W)
    (fun a _ => n + 1 - (intOf (a.tmps.getD 7 undef)).toNat) ?_ ?_
  · exact ⟨0, by omega, rfl, ⟨rfl, rfl, rfl, rfl, rfl, rfl⟩, hO, HX.out, hE01⟩
  clear hO hE01 HX
  rintro ⟨t, _⟩ W ⟨k, hk, hds, ⟨hsz, f1, f2, f5, f6, f7⟩, hO, hx, hE⟩
  subst hds
  obtain ⟨u', hu⟩ := frame_fun hsz
  obtain ⟨u, rfl⟩ : ∃ x, x = u' := ⟨_, rfl⟩
  have hu' : t = #[u 0, u 1, u 2, u 3, u 4, u 5, u 6, u 7, u 8, u 9, u 10, u 11, u 12, u 13, u 14, u 15, u 16, u 17, u 18, u 19, u 20, u 21, u 22, u 23, u 24, u 25, u 26, u 27, u 28, u 29, u 30, u 31, u 32, u 33, u 34, u 35, u 36, u 37, u 38, u 39, u 40, u 41, u 42, u 43, u 44, u 45, u 46, u 47, u 48, u 49, u 50, u 51, u 52, u 53, u 54, u 55, u 56, u 57, u 58, u 59, u 60, u 61, u 62, u 63, u 64, u 65, u 66, u 67, u 68, u 69, u 70, u 71, u 72, u 73, u 74, u 75, u 76, u 77, u 78, u 79, u 80, u 81, u 82, u 83, u 84, u 85, u 86, u 87, u 88, u 89, u 90, u 91, u 92, u 93, u 94, u 95, u 96, u 97, u 98, u 99, u 100, u 101, u 102, u 103, u 104, u 105, u 106, u 107, u 108, u 109, u 110, u 111, u 112, u 113, u 114, u 115, u 116, u 117, u 118, u 119, u 120, u 121, u 122, u 123, u 124, u 125, u 126, u 127, u 128, u 129, u 130, u 131, u 132, u 133, u 134, u 135, u 136, u 137, u 138, u 139, u 140, u 141, u 142, u 143, u 144, u 145, u 146, u 147, u 148, u 149, u 150, u 151, u 152] := hu
  clear hu
  subst hu'
  change u 1 = _ at f1
  change u 2 = _ at f2
  change u 5 = _ at f5
  change u 6 = _ at f6
  change u 7 = _ at f7
  rw [f1, f2, f5, f6, f7]
  clear f1 f2 f5 f6 f7 hsz
  have cX := fun j => cell_of_row _ _ j _ _ _ hx
  by_cases hkn : k < n + 1
  · have h1 : (k : Int) ≤ (n : Int) := by omega
    have h2 : (k : Int) < (n : Int) + 1 := by omega
    have h3 : (k : Int) < 64 := by omega
    have hval : rowM (noB) k = 0 := rowM_no k
    rw [u64V_congr (g := fun a => if a < k + 1 then rowM (noB) a else 0) (fun i _ => by
      by_cases e : i = k
      · rw [if_neg (by omega), if_pos (by omega), e, hval]
      · by_cases h : i < k
        · rw [if_pos h, if_pos (by omega)]
        · rw [if_neg h, if_neg (by omega)])] at hO
    have HO := Lib.hid hO
    clear hO hval
    go_wp2
    exact ⟨⟨k + 1, by omega, by first | rfl | trivial, ⟨rfl, rfl, rfl, rfl, rfl, rfl⟩, HO.out, hx, hE⟩, by first | (simp [intOf]; done) | (simp [intOf]; omega)⟩
  · obtain rfl : k = n + 1 := by omega
    have h1 : ¬ (((n + 1 : Nat) : Int) ≤ (n : Int)) := by omega
    clear cX
    rw [u64V_congr (g := rowM (altB ws (l.take 0))) (fun a ha => by rw [if_pos ha, List.take_zero, altB])] at hO
    have hO := own_base (base' := w.heap.size) hO (by have := HB.out; omega)
    have cX := fun j => cell_of_row _ _ j _ _ _ hx
    have HO := Lib.hid hO
    have HX := Lib.hid hx
    clear hO
    go_wp2
    refine wp_loop (fun a W => ∃ (i : Nat) (u6 : Value), i ≤ N ∧ a.defers = [] ∧ (a.tmps.size = 153 ∧ a.tmps.getD 1 undef = .slice bo n bcap ∧ a.tmps.getD 2 undef = .pointer (some ⟨B, 0, none⟩) ∧ a.tmps.getD 5 undef = .int .i64 n ∧ a.tmps.getD 6 undef = u6 ∧ a.tmps.getD 9 undef = .int .i64 i) ∧ W.ownsRow w.heap.size 65 1 u6 (n + 1) (u64V (n + 1) (rowM (altB ws (l.take i)))) ∧ W.heap[B]? = some (.cells #[.int .i64 4, .int .u32 (pl : Int), .int .u32 (mi : Int), .bool nt, .int .i64 mn, .int .i64 mx, .slice ao N cap] 27 (0, 0)) ∧ Ext w W)
      (fun a _ => N - (intOf (a.tmps.getD 9 undef)).toNat) ?_ ?_
    · exact ⟨0, _, by omega, rfl, ⟨rfl, rfl, rfl, rfl, rfl, rfl⟩, HO.out, HX.out, hE⟩
    clear HO HX hE
    rintro ⟨t, _⟩ W ⟨i, u6, hi, hds, ⟨hsz, f1, f2, f5, f6, f9⟩, hO, hx, hE⟩
    subst hds
    obtain ⟨u', hu⟩ := frame_fun hsz
    obtain ⟨u, rfl⟩ : ∃ x, x = u' := ⟨_, rfl⟩
    have hu' : t = #[u 0, u 1, u 2, u 3, u 4, u 5, u 6, u 7, u 8, u 9, u 10, u 11, u 12, u 13, u 14, u 15, u 16, u 17, u 18, u 19, u 20, u 21, u 22, u 23, u 24, u 25, u 26, u 27, u 28, u 29, u 30, u 31, u 32, u 33, u 34, u 35, u 36, u 37, u 38, u 39, u 40, u 41, u 42, u 43, u 44, u 45, u 46, u 47, u 48, u 49, u 50, u 51, u 52, u 53, u 54, u 55, u 56, u 57, u 58, u 59, u 60, u 61, u 62, u 63, u 64, u 65, u 66, u 67, u 68, u 69, u 70, u 71, u 72, u 73, u 74, u 75, u 76, u 77, u 78, u 79, u 80, u 81, u 82, u 83, u 84, u 85, u 86, u 87, u 88, u 89, u 90, u 91, u 92, u 93, u 94, u 95, u 96, u 97, u 98, u 99, u 100, u 101, u 102, u 103, u 104, u 105, u 106, u 107, u 108, u 109, u 110, u 111, u 112, u 113, u 114, u 115, u 116, u 117, u 118, u 119, u 120, u 121, u 122, u 123, u 124, u 125, u 126, u 127, u 128, u 129, u 130, u 131, u 132, u 133, u 134, u 135, u 136, u 137, u 138, u 139, u 140, u 141, u 142, u 143, u 144, u 145, u 146, u 147, u 148, u 149, u 150, u 151, u 152] := hu
    clear hu
    subst hu'
    change u 1 = _ at f1
    change u 2 = _ at f2
    change u 5 = _ at f5
    change u 6 = _ at f6
    change u 9 = _ at f9
    rw [f1, f2, f5, f6, f9]
    clear f1 f2 f5 f6 f9 hsz
    have cX := fun j => cell_of_row _ _ j _ _ _ hx
    by_cases hiN : i < N
    · have h1 : (i : Int) < (N : Int) := by omega
      have hil : i < l.length := by rw [HN.out]; exact hiN
      obtain ⟨g, off, c, rfl, hg, hgl, hra, hq⟩ := (HL.out.ext hE).get i hil
      rw [Nat.zero_add] at hra
      obtain ⟨qo, qcap, hcq, _, _, _⟩ := patAt_cells hq
      obtain ⟨c0, c1, c2, c3, c4, c5, c6⟩ := patCells_at hra hcq
      have hc := IH.out _ (List.getElem_mem hil) K W c _ ws hq (HV.out.ext hE) (by rw [HNN.out]; exact hbn) (HKID.out _ (List.getElem_mem hil))
      rw [HNN.out] at hc
      have htk : l.take (i + 1) = l.take i ++ [l[i]] := List.take_succ_eq_append_getElem hil
      have hmono : Mono n (altB ws (l.take i)) := by
        have := altB_mono ws (l.take i)
        rw [HNN.out] at this
        exact this
      have hnext : rowM (altB ws (l.take (i + 1))) = fun a => rowM (altB ws (l.take i)) a ||| rowM (relP ws l[i]) a := by
        rw [htk, altB_snoc]
        funext a; rw [rowM_or]
      rw [hcq] at hc
      unfold patCells at hc
      obtain ⟨R, hR⟩ : ∃ R, altB ws (l.take i) = R := ⟨_, rfl⟩
      obtain ⟨Q, hQ⟩ : ∃ R, relP ws l[i] = R := ⟨_, rfl⟩
      rw [hR] at hO hmono hnext
      rw [hQ] at hc hnext
      have HC := Lib.hid hc; have HM := Lib.hid hmono; have HNX := Lib.hid hnext; have HO := Lib.hid hO; have HX := Lib.hid hx
      clear hc hra hq hcq hmono hnext htk hR hQ hO
      go_wp2_with fail
      refine HC.out.mono ?_
      rintro e W2 ⟨u2, rfl, hO2, hE2⟩
      have hr1 := (RowsR.own HO.out).ext hE2
      have hr2 := RowsR.own hO2
      have hx2 := hE2.keep HX.out
      have hE := hE.trans hE2
      clear c0 c1 c2 c3 c4 c5 c6 HC cX hx hO2
      have cX := fun j => cell_of_row _ _ j _ _ _ hx2
      go_wp2_with fail
      refine (join_tab hbn hr1 hr2 (fun a => rowM_lt R a) (fun a => rowM_lt Q a)).mono ?_
      rintro e W3 ⟨u3, rfl, hO3, hE3⟩
      have hx3 := hE3.keep hx2
      have hE4 := hE.trans hE3
      have hO4 := own_base (base' := w.heap.size) hO3 (by have := hE.size; exact this)
      rw [← HNX.out] at hO4
      have HO4 := Lib.hid hO4; have HX3 := Lib.hid hx3
      clear hO3 hO4 hE3 hE hr1 hr2 cX hx2 hx3 HO HX
      go_wp2
      exact ⟨⟨i + 1, u3, by omega, by first | rfl | trivial, ⟨rfl, rfl, rfl, rfl, rfl, rfl⟩, HO4.out, HX3.out, hE4⟩, by simp [intOf]; omega⟩
    · obtain rfl : i = N := by omega
      have h1 : ¬ (i : Int) < (i : Int) := by omega
      have hfin : rowM (altB ws (l.take i)) = rowM (relP ws (.node 4 pl mi nt mn mx l)) := by
        rw [HREL.out, List.take_of_length_le (by rw [HN.out]; exact Nat.le_refl _)]
      rw [hfin] at hO
      have HO := Lib.hid hO
      clear hO hfin
      go_wp2
      go_ret
      exact ⟨_, rfl, HO.out, hE⟩
end Go.Proofs.YtapfoaiibjdfnaaDoor
