/- ablautref06.Table, patterns without parts (printed by gentable.py). -/
import Derived.Test.YtapfoaiibjdfnaaDoorMe
namespace Go.Proofs.YtapfoaiibjdfnaaDoor
open Go.RowKit Go.Ab
attribute [local go_sem] Oper.semAt_some wide_fn wide_depth

def TableOk (p : Pat) : Prop := ∀ (K : Nat → Prop) (w : World) (cs : List Value) (v : Value) (ws : Wd), PatAt K w p cs → WordAt w v ws → ws.length ≤ 32 → allN p →
  Calls Tryd.prog 52 #[.agg cs.toArray, v] w fun e w' => ∃ u, e = .returned u ∧ w'.ownsRow w.heap.size 65 1 u (ws.length + 1) (u64V (ws.length + 1) (rowM (relP ws p))) ∧ Ext w w'
theorem rowM_one {X : Bin2} {a b : Nat} (hb : b < 33) (h : ∀ c, c < 33 → X a c = (c == b)) : rowM X a = 2 ^ b := by
  rw [two_pow_mask (n := 33) (by omega)]
  exact mask_congr fun i hi => h i hi
theorem rowM_none {X : Bin2} {a : Nat} (h : ∀ c, c < 33 → X a c = false) : rowM X a = 0 := by
  unfold rowM
  rw [← mask_zero 33]
  exact mask_congr fun i hi => h i hi

set_option maxRecDepth 100000 in
set_option maxHeartbeats 8000000 in
theorem table_0 (pl mi : Nat) (nt : Bool) (mn mx : Int) (l : List Pat) : TableOk (.node 0 pl mi nt mn mx l) := by
  intro K w cs v ws hp hv hn hall
  have hE1 : ∀ V : World, Ext w V → PatAt K V (.node 0 pl mi nt mn mx l) cs := fun V hE => hp.ext hE
  unfold PatAt at hp
  obtain ⟨ao, cap, rfl, hpl, hmi, hlc, hcm, hl⟩ := hp
  obtain ⟨bo, bcap, rfl, hbm⟩ := hv.slice
  rw [allN_eq] at hall
  obtain ⟨hnode, hkids0⟩ := hall
  have hkids : allNs l := hkids0
  rw [allNs_iff] at hkids
  clear hkids0
  have hrel := relP_node ws 0 pl mi nt mn mx l
  have hl0 : l = [] := (nodeE_kind hnode).2.2.1 (by decide) (by decide) (by decide)
  have e0 : seqB ws l (idB ws.length) = idB ws.length := by rw [hl0, seqB]
  rw [if_neg (by decide), if_neg (by decide), if_neg (by decide), if_neg (by decide), if_neg (by decide), e0] at hrel
  clear e0 hl0
  unfold patCells
  obtain ⟨N, hN⟩ : ∃ N, l.length = N := ⟨_, rfl⟩
  obtain ⟨n, hnn⟩ : ∃ n, ws.length = n := ⟨_, rfl⟩
  have HNN := Lib.hid hnn; have HN := Lib.hid hN; have HV := Lib.hid hv; have HL := Lib.hid hl; have HKID := Lib.hid hkids; have HREL := Lib.hid hrel; have HNODE := Lib.hid hnode
  have hlm : N ≤ maxLen := by rw [← hN]; exact Nat.le_trans hlc hcm
  have hbn : n ≤ 32 := by rw [← hnn]; exact hn
  unfold maxLen at hlm hbm
  show Calls Tryd.prog 52 #[.agg #[.int .i64 0, .int .u32 (pl : Int), .int .u32 (mi : Int), .bool nt, .int .i64 mn, .int .i64 mx, .slice ao l.length cap], .slice bo ws.length bcap] w _
  rw [hN, hnn]
  clear hv hl hkids hrel hnode hlc hcm hN hnn hn hbm hE1
  go_enter Tryd.func52, Tryd.ntmps52
  go_wp2_with (at_make; refine make_row1 rfl (.tmp 17) (.tmp 17) 77 rfl (w.heap.size + 1) 65 _ 8 Tryd.underlying77 Tryd.infoU rfl .i64 .i64 _ _ (n + 1) rfl rfl (by first | rfl | omega | simp) (by first | rfl | omega | simp) ?c1 ?c2 (by simp) ?_)
  case c1 => omega
  case c2 => unfold maxLen; omega
  intro w1 hO hE1
  obtain ⟨B, hB⟩ : ∃ r, w.heap.size = r := ⟨_, rfl⟩
  have hx1 : w1.heap[w.heap.size]? = some (.cells #[.int .i64 0, .int .u32 (pl : Int), .int .u32 (mi : Int), .bool nt, .int .i64 mn, .int .i64 mx, .slice ao N cap] 27 (0, 0)) := hE1.keep (new_at rfl)
  have hE01 : Ext w w1 := Turn.trans ((Turn.refl _ w).alloc _) hE1
  rw [hB] at hO hx1 ⊢
  rw [u64V_zero, show u64V (n + 1) (fun _ => 0) = u64V (n + 1) (fun a => if a < 0 then rowM (idB n) a else 0) from u64V_congr fun a _ => by simp] at hO
  have HB := Lib.hid hB
  have HX := Lib.hid hx1
  clear hB hx1 hE1
  go_wp2
  refine wp_loop (fun a W => ∃ (k : Nat), k ≤ n + 1 ∧ a.defers = [] ∧ (a.tmps.size = 153 ∧ a.tmps.getD 1 undef = .slice bo n bcap ∧ a.tmps.getD 2 undef = .pointer (some ⟨B, 0, none⟩) ∧ a.tmps.getD 5 undef = .int .i64 n ∧ a.tmps.getD 6 undef = .slice (some ⟨B + 1, 0, none⟩) (n + 1) (n + 1) ∧ a.tmps.getD 7 undef = .int .i64 k) ∧ W.ownsRow (B + 1) 65 1 (.slice (some ⟨B + 1, 0, none⟩) (n + 1) (n + 1)) (n + 1) (u64V (n + 1) (fun a => if a < k then rowM (idB n) a else 0)) ∧ W.heap[B]? = some (.cells #[.int .i64 0, .int .u32 (pl : Int), .int .u32 (mi : Int), .bool nt, .int .i64 mn, .int .i64 mx, .slice ao N cap] 27 (0, 0)) ∧ Ext w W)
    (fun a _ => n + 1 - (intOf (a.tmps.getD 7 undef)).toNat) ?_ ?_
  · exact ⟨0, by omega, rfl, ⟨rfl, rfl, rfl, rfl, rfl, rfl⟩, hO, HX.out, hE01⟩
  clear hO hE01 HX
  rintro ⟨t, _⟩ W ⟨k, hk, hds, ⟨hsz, f1, f2, f5, f6, f7⟩, hO, hx, hE⟩
  subst hds
  obtain ⟨u', hu⟩ := frame_fun hsz
  obtain ⟨u, rfl⟩ : ∃ x, x = u' := ⟨_, rfl⟩
  have hu' : t = #[u 0, u 1, u 2, u 3, u 4, u 5, u 6, u 7, u 8, u 9, u 10, u 11, u 12, u 13, u 14, u 15, u 16, u 17, u 18, u 19, u 20, u 21, u 22, u 23, u 24, u 25, u 26, u 27, u 28, u 29, u 30, u 31, u 32, u 33, u 34, u 35, u 36, u 37, u 38, u 39, u 40, u 41, u 42, u 43, u 44, u 45, u 46, u 47, u 48, u 49, u 50, u 51, u 52, u 53, u 54, u 55, u 56, u 57, u 58, u 59, u 60, u 61, u 62, u 63, u 64, u 65, u 66, u 67, u 68, u 69, u 70, u 71, u 72, u 73, u 74, u 75, u 76, u 77, u 78, u 79, u 80, u 81, u 82, u 83, u 84, u 85, u 86, u 87, u 88, u 89, u 90, u 91, u 92, u 93, u 94, u 95, u 96, u 97, u 98, u 99, u 100, u 101, u 102, u 103, u 104, u 105, u 106, u 107, u 108, u 109, u 110, u 111, u 112, u 113, u 114, u 115, u 116, u 117, u 118, u 119, u 120, u 121, u 122, u 123, u 124, u 125, u 126, u 127, u 128, u 129, u 130, u 131, u 132, u 133, u 134, u 135, u 136, u 137, u 138, u 139, u 140, u 141, u 142, u 143, u 144, u 145, u 146, u 147, u 148, u 149, u 150, u 151, u 152] := hu
  clear hu
  subst hu'
  change u 1 = _ at f1
  change u 2 = _ at f2
  change u 5 = _ at f5
  change u 6 = _ at f6
  change u 7 = _ at f7
  rw [f1, f2, f5, f6, f7]
  clear f1 f2 f5 f6 f7 hsz
  have cX := fun j => cell_of_row _ _ j _ _ _ hx
  by_cases hkn : k < n + 1
  · have h1 : (k : Int) ≤ (n : Int) := by omega
    have h2 : (k : Int) < (n : Int) + 1 := by omega
    have h3 : (k : Int) < 64 := by omega
    have hw := pow_u64 (k := k) (by omega)
    have hval : rowM (idB n) k = 2 ^ k := rowM_id hbn (by omega)
    have hs := own_store hO k (.int .u64 ((2 ^ k : Nat) : Int))
    rw [u64V_set, u64V_congr (g := fun a => if a < k + 1 then rowM (idB n) a else 0) (fun i _ => by
      unfold updN
      by_cases e : i = k
      · rw [if_pos e, if_pos (by omega), e, hval]
      · rw [if_neg e]
        show (if i < k then rowM (idB n) i else 0) = _
        by_cases h : i < k
        · rw [if_pos h, if_pos (by omega)]
        · rw [if_neg h, if_neg (by omega)])] at hs
    have c1 : W.cell? ⟨B + 1, k, none⟩ = some (.int .u64 ((if k < k then rowM (idB n) k else 0 : Nat) : Int)) := by rw [hO.cellAt k (by omega), u64V_get _ hkn]
    rw [if_neg (Nat.lt_irrefl k)] at c1
    have c2 : W.frozen? ⟨B + 1, k, none⟩ = false := hO.frozenAt k
    have hE2 : Ext w (W.setCell ⟨B + 1, k, none⟩ (.int .u64 ((2 ^ k : Nat) : Int))) := hE.setCell (p := ⟨B + 1, k, none⟩) (.inl (show w.heap.size ≤ B + 1 by have := HB.out; omega)) _
    have hx2 : (W.setCell ⟨B + 1, k, none⟩ (.int .u64 ((2 ^ k : Nat) : Int))).heap[B]? = some (.cells #[.int .i64 0, .int .u32 (pl : Int), .int .u32 (mi : Int), .bool nt, .int .i64 mn, .int .i64 mx, .slice ao N cap] 27 (0, 0)) := set_keep hx (by simp)
    have HS := Lib.hid hs; have HE := Lib.hid hE2; have HX2 := Lib.hid hx2
    clear hs hE2 hx2 hO hE hx hval
    go_wp2
    exact ⟨⟨k + 1, by omega, by first | rfl | trivial, ⟨rfl, rfl, rfl, rfl, rfl, rfl⟩, HS.out, HX2.out, HE.out⟩, by first | (simp [intOf]; done) | (simp [intOf]; omega)⟩
  · obtain rfl : k = n + 1 := by omega
    have h1 : ¬ (((n + 1 : Nat) : Int) ≤ (n : Int)) := by omega
    obtain rfl := HNN.out
    rw [u64V_congr (g := rowM (relP ws (.node 0 pl mi nt mn mx l))) (fun a ha => by rw [if_pos ha, HREL.out])] at hO
    have hO2 := own_base (base' := w.heap.size) hO (by have := HB.out; omega)
    have HO := Lib.hid hO2
    clear hO hO2
    go_wp2
    go_ret
    exact ⟨_, rfl, HO.out, hE⟩

set_option maxRecDepth 100000 in
set_option maxHeartbeats 8000000 in
theorem table_2 (pl mi : Nat) (nt : Bool) (mn mx : Int) (l : List Pat) : TableOk (.node 2 pl mi nt mn mx l) := by
  intro K w cs v ws hp hv hn hall
  have hE1 : ∀ V : World, Ext w V → PatAt K V (.node 2 pl mi nt mn mx l) cs := fun V hE => hp.ext hE
  unfold PatAt at hp
  obtain ⟨ao, cap, rfl, hpl, hmi, hlc, hcm, hl⟩ := hp
  obtain ⟨bo, bcap, rfl, hbm⟩ := hv.slice
  rw [allN_eq] at hall
  obtain ⟨hnode, hkids0⟩ := hall
  have hkids : allNs l := hkids0
  rw [allNs_iff] at hkids
  clear hkids0
  have hrel := relP_node ws 2 pl mi nt mn mx l
  rw [if_neg (by decide), if_pos rfl] at hrel
  unfold patCells
  obtain ⟨N, hN⟩ : ∃ N, l.length = N := ⟨_, rfl⟩
  obtain ⟨n, hnn⟩ : ∃ n, ws.length = n := ⟨_, rfl⟩
  have HNN := Lib.hid hnn; have HN := Lib.hid hN; have HV := Lib.hid hv; have HL := Lib.hid hl; have HKID := Lib.hid hkids; have HREL := Lib.hid hrel; have HNODE := Lib.hid hnode
  have hlm : N ≤ maxLen := by rw [← hN]; exact Nat.le_trans hlc hcm
  have hbn : n ≤ 32 := by rw [← hnn]; exact hn
  unfold maxLen at hlm hbm
  show Calls Tryd.prog 52 #[.agg #[.int .i64 2, .int .u32 (pl : Int), .int .u32 (mi : Int), .bool nt, .int .i64 mn, .int .i64 mx, .slice ao l.length cap], .slice bo ws.length bcap] w _
  rw [hN, hnn]
  clear hv hl hkids hrel hnode hlc hcm hN hnn hn hbm hE1
  go_enter Tryd.func52, Tryd.ntmps52
  go_wp2_with (at_make; refine make_row1 rfl (.tmp 17) (.tmp 17) 77 rfl (w.heap.size + 1) 65 _ 8 Tryd.underlying77 Tryd.infoU rfl .i64 .i64 _ _ (n + 1) rfl rfl (by first | rfl | omega | simp) (by first | rfl | omega | simp) ?c1 ?c2 (by simp) ?_)
  case c1 => omega
  case c2 => unfold maxLen; omega
  intro w1 hO hE1
  obtain ⟨B, hB⟩ : ∃ r, w.heap.size = r := ⟨_, rfl⟩
  have hx1 : w1.heap[w.heap.size]? = some (.cells #[.int .i64 2, .int .u32 (pl : Int), .int .u32 (mi : Int), .bool nt, .int .i64 mn, .int .i64 mx, .slice ao N cap] 27 (0, 0)) := hE1.keep (new_at rfl)
  have hE01 : Ext w w1 := Turn.trans ((Turn.refl _ w).alloc _) hE1
  rw [hB] at hO hx1 ⊢
  rw [u64V_zero, show u64V (n + 1) (fun _ => 0) = u64V (n + 1) (fun a => if a < 0 then rowM (edgeB 0) a else 0) from u64V_congr fun a _ => by simp] at hO
  have HB := Lib.hid hB
  have HX := Lib.hid hx1
  clear hB hx1 hE1
  go_wp2
  refine wp_loop (fun a W => ∃ (k : Nat), k ≤ n + 1 ∧ a.defers = [] ∧ (a.tmps.size = 153 ∧ a.tmps.getD 1 undef = .slice bo n bcap ∧ a.tmps.getD 2 undef = .pointer (some ⟨B, 0, none⟩) ∧ a.tmps.getD 5 undef = .int .i64 n ∧ a.tmps.getD 6 undef = .slice (some ⟨B + 1, 0, none⟩) (n + 1) (n + 1) ∧ a.tmps.getD 7 undef = .int .i64 k) ∧ W.ownsRow (B + 1) 65 1 (.slice (some ⟨B + 1, 0, none⟩) (n + 1) (n + 1)) (n + 1) (u64V (n + 1) (fun a => if a < k then rowM (edgeB 0) a else 0)) ∧ W.heap[B]? = some (.cells #[.int .i64 2, .int .u32 (pl : Int), .int .u32 (mi : Int), .bool nt, .int .i64 mn, .int .i64 mx, .slice ao N cap] 27 (0, 0)) ∧ Ext w W)
    (fun a _ => n + 1 - (intOf (a.tmps.getD 7 undef)).toNat) ?_ ?_
  · exact ⟨0, by omega, rfl, ⟨rfl, rfl, rfl, rfl, rfl, rfl⟩, hO, HX.out, hE01⟩
  clear hO hE01 HX
  rintro ⟨t, _⟩ W ⟨k, hk, hds, ⟨hsz, f1, f2, f5, f6, f7⟩, hO, hx, hE⟩
  subst hds
  obtain ⟨u', hu⟩ := frame_fun hsz
  obtain ⟨u, rfl⟩ : ∃ x, x = u' := ⟨_, rfl⟩
  have hu' : t = #[u 0, u 1, u 2, u 3, u 4, u 5, u 6, u 7, u 8, u 9, u 10, u 11, u 12, u 13, u 14, u 15, u 16, u 17, u 18, u 19, u 20, u 21, u 22, u 23, u 24, u 25, u 26, u 27, u 28, u 29, u 30, u 31, u 32, u 33, u 34, u 35, u 36, u 37, u 38, u 39, u 40, u 41, u 42, u 43, u 44, u 45, u 46, u 47, u 48, u 49, u 50, u 51, u 52, u 53, u 54, u 55, u 56, u 57, u 58, u 59, u 60, u 61, u 62, u 63, u 64, u 65, u 66, u 67, u 68, u 69, u 70, u 71, u 72, u 73, u 74, u 75, u 76, u 77, u 78, u 79, u 80, u 81, u 82, u 83, u 84, u 85, u 86, u 87, u 88, u 89, u 90, u 91, u 92, u 93, u 94, u 95, u 96, u 97, u 98, u 99, u 100, u 101, u 102, u 103, u 104, u 105, u 106, u 107, u 108, u 109, u 110, u 111, u 112, u 113, u 114, u 115, u 116, u 117, u 118, u 119, u 120, u 121, u 122, u 123, u 124, u 125, u 126, u 127, u 128, u 129, u 130, u 131, u 132, u 133, u 134, u 135, u 136, u 137, u 138, u 139, u 140, u 141, u 142, u 143, u 144, u 145, u 146, u 147, u 148, u 149, u 150, u 151, u 152] := hu
  clear hu
  subst hu'
  change u 1 = _ at f1
  change u 2 = _ at f2
  change u 5 = _ at f5
  change u 6 = _ at f6
  change u 7 = _ at f7
  rw [f1, f2, f5, f6, f7]
  clear f1 f2 f5 f6 f7 hsz
  have cX := fun j => cell_of_row _ _ j _ _ _ hx
  by_cases hkn : k < n + 1
  · have h1 : (k : Int) ≤ (n : Int) := by omega
    have h2 : (k : Int) < (n : Int) + 1 := by omega
    have h3 : (k : Int) < 64 := by omega
    by_cases hk0 : k = 0
    · have g0 : ((k : Int) == 0) = true := by rw [beq_iff_eq]; omega
      have hval : rowM (edgeB 0) k = 1 := by rw [hk0]; exact rowM_one (b := 0) (by omega) (fun c _ => by simp [edgeB])
      have hs := own_store hO k (.int .u64 ((1 : Nat) : Int))
      rw [u64V_set, u64V_congr (g := fun a => if a < k + 1 then rowM (edgeB 0) a else 0) (fun i _ => by
        unfold updN
        by_cases e : i = k
        · rw [if_pos e, if_pos (by omega), e, hval]
        · rw [if_neg e]
          show (if i < k then rowM (edgeB 0) i else 0) = _
          by_cases h : i < k
          · rw [if_pos h, if_pos (by omega)]
          · rw [if_neg h, if_neg (by omega)])] at hs
      have c1 : W.cell? ⟨B + 1, k, none⟩ = some (.int .u64 ((if k < k then rowM (edgeB 0) k else 0 : Nat) : Int)) := by rw [hO.cellAt k (by omega), u64V_get _ hkn]
      rw [if_neg (Nat.lt_irrefl k)] at c1
      have c2 : W.frozen? ⟨B + 1, k, none⟩ = false := hO.frozenAt k
      have hE2 : Ext w (W.setCell ⟨B + 1, k, none⟩ (.int .u64 ((1 : Nat) : Int))) := hE.setCell (p := ⟨B + 1, k, none⟩) (.inl (show w.heap.size ≤ B + 1 by have := HB.out; omega)) _
      have hx2 : (W.setCell ⟨B + 1, k, none⟩ (.int .u64 ((1 : Nat) : Int))).heap[B]? = some (.cells #[.int .i64 2, .int .u32 (pl : Int), .int .u32 (mi : Int), .bool nt, .int .i64 mn, .int .i64 mx, .slice ao N cap] 27 (0, 0)) := set_keep hx (by simp)
      have HS := Lib.hid hs; have HE := Lib.hid hE2; have HX2 := Lib.hid hx2
      clear hs hE2 hx2 hO hE hx hval
      clear hk0
      go_wp2
      exact ⟨⟨k + 1, by omega, by first | rfl | trivial, ⟨rfl, rfl, rfl, rfl, rfl, rfl⟩, HS.out, HX2.out, HE.out⟩, by first | (simp [intOf]; done) | (simp [intOf]; omega)⟩
    · have g0 : ((k : Int) == 0) = false := by rw [beq_eq_false_iff_ne]; omega
      have hval : rowM (edgeB 0) k = 0 := rowM_none fun c _ => by simp [edgeB, hk0]
      rw [u64V_congr (g := fun a => if a < k + 1 then rowM (edgeB 0) a else 0) (fun i _ => by
        by_cases e : i = k
        · rw [if_neg (by omega), if_pos (by omega), e, hval]
        · by_cases h : i < k
          · rw [if_pos h, if_pos (by omega)]
          · rw [if_neg h, if_neg (by omega)])] at hO
      have HO := Lib.hid hO
      clear hO hval
      clear hk0
      go_wp2
      exact ⟨⟨k + 1, by omega, by first | rfl | trivial, ⟨rfl, rfl, rfl, rfl, rfl, rfl⟩, HO.out, hx, hE⟩, by first | (simp [intOf]; done) | (simp [intOf]; omega)⟩
  · obtain rfl : k = n + 1 := by omega
    have h1 : ¬ (((n + 1 : Nat) : Int) ≤ (n : Int)) := by omega
    obtain rfl := HNN.out
    rw [u64V_congr (g := rowM (relP ws (.node 2 pl mi nt mn mx l))) (fun a ha => by rw [if_pos ha, HREL.out])] at hO
    have hO2 := own_base (base' := w.heap.size) hO (by have := HB.out; omega)
    have HO := Lib.hid hO2
    clear hO hO2
    go_wp2
    go_ret
    exact ⟨_, rfl, HO.out, hE⟩

set_option maxRecDepth 100000 in
set_option maxHeartbeats 8000000 in
theorem table_6 (pl mi : Nat) (nt : Bool) (mn mx : Int) (l : List Pat) : TableOk (.node 6 pl mi nt mn mx l) := by
  intro K w cs v ws hp hv hn hall
  have hE1 : ∀ V : World, Ext w V → PatAt K V (.node 6 pl mi nt mn mx l) cs := fun V hE => hp.ext hE
  unfold PatAt at hp
  obtain ⟨ao, cap, rfl, hpl, hmi, hlc, hcm, hl⟩ := hp
  obtain ⟨bo, bcap, rfl, hbm⟩ := hv.slice
  rw [allN_eq] at hall
  obtain ⟨hnode, hkids0⟩ := hall
  have hkids : allNs l := hkids0
  rw [allNs_iff] at hkids
  clear hkids0
  have hrel := relP_node ws 6 pl mi nt mn mx l
  rw [if_neg (by decide), if_neg (by decide), if_pos rfl] at hrel
  unfold patCells
  obtain ⟨N, hN⟩ : ∃ N, l.length = N := ⟨_, rfl⟩
  obtain ⟨n, hnn⟩ : ∃ n, ws.length = n := ⟨_, rfl⟩
  have HNN := Lib.hid hnn; have HN := Lib.hid hN; have HV := Lib.hid hv; have HL := Lib.hid hl; have HKID := Lib.hid hkids; have HREL := Lib.hid hrel; have HNODE := Lib.hid hnode
  have hlm : N ≤ maxLen := by rw [← hN]; exact Nat.le_trans hlc hcm
  have hbn : n ≤ 32 := by rw [← hnn]; exact hn
  unfold maxLen at hlm hbm
  show Calls Tryd.prog 52 #[.agg #[.int .i64 6, .int .u32 (pl : Int), .int .u32 (mi : Int), .bool nt, .int .i64 mn, .int .i64 mx, .slice ao l.length cap], .slice bo ws.length bcap] w _
  rw [hN, hnn]
  clear hv hl hkids hrel hnode hlc hcm hN hnn hn hbm hE1
  go_enter Tryd.func52, Tryd.ntmps52
  go_wp2_with (at_make; refine make_row1 rfl (.tmp 17) (.tmp 17) 77 rfl (w.heap.size + 1) 65 _ 8 Tryd.underlying77 Tryd.infoU rfl .i64 .i64 _ _ (n + 1) rfl rfl (by first | rfl | omega | simp) (by first | rfl | omega | simp) ?c1 ?c2 (by simp) ?_)
  case c1 => omega
  case c2 => unfold maxLen; omega
  intro w1 hO hE1
  obtain ⟨B, hB⟩ : ∃ r, w.heap.size = r := ⟨_, rfl⟩
  have hx1 : w1.heap[w.heap.size]? = some (.cells #[.int .i64 6, .int .u32 (pl : Int), .int .u32 (mi : Int), .bool nt, .int .i64 mn, .int .i64 mx, .slice ao N cap] 27 (0, 0)) := hE1.keep (new_at rfl)
  have hE01 : Ext w w1 := Turn.trans ((Turn.refl _ w).alloc _) hE1
  rw [hB] at hO hx1 ⊢
  rw [u64V_zero, show u64V (n + 1) (fun _ => 0) = u64V (n + 1) (fun a => if a < 0 then rowM (edgeB n) a else 0) from u64V_congr fun a _ => by simp] at hO
  have HB := Lib.hid hB
  have HX := Lib.hid hx1
  clear hB hx1 hE1
  go_wp2
  refine wp_loop (fun a W => ∃ (k : Nat), k ≤ n + 1 ∧ a.defers = [] ∧ (a.tmps.size = 153 ∧ a.tmps.getD 1 undef = .slice bo n bcap ∧ a.tmps.getD 2 undef = .pointer (some ⟨B, 0, none⟩) ∧ a.tmps.getD 5 undef = .int .i64 n ∧ a.tmps.getD 6 undef = .slice (some ⟨B + 1, 0, none⟩) (n + 1) (n + 1) ∧ a.tmps.getD 7 undef = .int .i64 k) ∧ W.ownsRow (B + 1) 65 1 (.slice (some ⟨B + 1, 0, none⟩) (n + 1) (n + 1)) (n + 1) (u64V (n + 1) (fun a => if a < k then rowM (edgeB n) a else 0)) ∧ W.heap[B]? = some (.cells #[.int .i64 6, .int .u32 (pl : Int), .int .u32 (mi : Int), .bool nt, .int .i64 mn, .int .i64 mx, .slice ao N cap] 27 (0, 0)) ∧ Ext w W)
    (fun a _ => n + 1 - (intOf (a.tmps.getD 7 undef)).toNat) ?_ ?_
  · exact ⟨0, by omega, rfl, ⟨rfl, rfl, rfl, rfl, rfl, rfl⟩, hO, HX.out, hE01⟩
  clear hO hE01 HX
  rintro ⟨t, _⟩ W ⟨k, hk, hds, ⟨hsz, f1, f2, f5, f6, f7⟩, hO, hx, hE⟩
  subst hds
  obtain ⟨u', hu⟩ := frame_fun hsz
  obtain ⟨u, rfl⟩ : ∃ x, x = u' := ⟨_, rfl⟩
  have hu' : t = #[u 0, u 1, u 2, u 3, u 4, u 5, u 6, u 7, u 8, u 9, u 10, u 11, u 12, u 13, u 14, u 15, u 16, u 17, u 18, u 19, u 20, u 21, u 22, u 23, u 24, u 25, u 26, u 27, u 28, u 29, u 30, u 31, u 32, u 33, u 34, u 35, u 36, u 37, u 38, u 39, u 40, u 41, u 42, u 43, u 44, u 45, u 46, u 47, u 48, u 49, u 50, u 51, u 52, u 53, u 54, u 55, u 56, u 57, u 58, u 59, u 60, u 61, u 62, u 63, u 64, u 65, u 66, u 67, u 68, u 69, u 70, u 71, u 72, u 73, u 74, u 75, u 76, u 77, u 78, u 79, u 80, u 81, u 82, u 83, u 84, u 85, u 86, u 87, u 88, u 89, u 90, u 91, u 92, u 93, u 94, u 95, u 96, u 97, u 98, u 99, u 100, u 101, u 102, u 103, u 104, u 105, u 106, u 107, u 108, u 109, u 110, u 111, u 112, u 113, u 114, u 115, u 116, u 117, u 118, u 119, u 120, u 121, u 122, u 123, u 124, u 125, u 126, u 127, u 128, u 129, u 130, u 131, u 132, u 133, u 134, u 135, u 136, u 137, u 138, u 139, u 140, u 141, u 142, u 143, u 144, u 145, u 146, u 147, u 148, u 149, u 150, u 151, u 152] := hu
  clear hu
  subst hu'
  change u 1 = _ at f1
  change u 2 = _ at f2
  change u 5 = _ at f5
  change u 6 = _ at f6
  change u 7 = _ at f7
  rw [f1, f2, f5, f6, f7]
  clear f1 f2 f5 f6 f7 hsz
  have cX := fun j => cell_of_row _ _ j _ _ _ hx
  by_cases hkn : k < n + 1
  · have h1 : (k : Int) ≤ (n : Int) := by omega
    have h2 : (k : Int) < (n : Int) + 1 := by omega
    have h3 : (k : Int) < 64 := by omega
    by_cases hk0 : k = n
    · subst hk0
      have hw := pow_u64 (k := k) (by omega)
      have g0 : ((k : Int) == (k : Int)) = true := by simp
      have hval : rowM (edgeB k) k = 2 ^ k := rowM_one (b := k) (by omega) (fun c _ => by simp [edgeB])
      have hs := own_store hO k (.int .u64 ((2 ^ k : Nat) : Int))
      rw [u64V_set, u64V_congr (g := fun a => if a < k + 1 then rowM (edgeB k) a else 0) (fun i _ => by
        unfold updN
        by_cases e : i = k
        · rw [if_pos e, if_pos (by omega), e, hval]
        · rw [if_neg e]
          show (if i < k then rowM (edgeB k) i else 0) = _
          by_cases h : i < k
          · rw [if_pos h, if_pos (by omega)]
          · rw [if_neg h, if_neg (by omega)])] at hs
      have c1 : W.cell? ⟨B + 1, k, none⟩ = some (.int .u64 ((if k < k then rowM (edgeB k) k else 0 : Nat) : Int)) := by rw [hO.cellAt k (by omega), u64V_get _ hkn]
      rw [if_neg (Nat.lt_irrefl k)] at c1
      have c2 : W.frozen? ⟨B + 1, k, none⟩ = false := hO.frozenAt k
      have hE2 : Ext w (W.setCell ⟨B + 1, k, none⟩ (.int .u64 ((2 ^ k : Nat) : Int))) := hE.setCell (p := ⟨B + 1, k, none⟩) (.inl (show w.heap.size ≤ B + 1 by have := HB.out; omega)) _
      have hx2 : (W.setCell ⟨B + 1, k, none⟩ (.int .u64 ((2 ^ k : Nat) : Int))).heap[B]? = some (.cells #[.int .i64 6, .int .u32 (pl : Int), .int .u32 (mi : Int), .bool nt, .int .i64 mn, .int .i64 mx, .slice ao N cap] 27 (0, 0)) := set_keep hx (by simp)
      have HS := Lib.hid hs; have HE := Lib.hid hE2; have HX2 := Lib.hid hx2
      clear hs hE2 hx2 hO hE hx hval
      go_wp2
      exact ⟨⟨k + 1, by omega, by first | rfl | trivial, ⟨rfl, rfl, rfl, rfl, rfl, rfl⟩, HS.out, HX2.out, HE.out⟩, by first | (simp [intOf]; done) | (simp [intOf]; omega)⟩
    · have g0 : ((k : Int) == (n : Int)) = false := by rw [beq_eq_false_iff_ne]; omega
      have hval : rowM (edgeB n) k = 0 := rowM_none fun c _ => by simp [edgeB, hk0]
      rw [u64V_congr (g := fun a => if a < k + 1 then rowM (edgeB n) a else 0) (fun i _ => by
        by_cases e : i = k
        · rw [if_neg (by omega), if_pos (by omega), e, hval]
        · by_cases h : i < k
          · rw [if_pos h, if_pos (by omega)]
          · rw [if_neg h, if_neg (by omega)])] at hO
      have HO := Lib.hid hO
      clear hO hval
      clear hk0
      go_wp2
      exact ⟨⟨k + 1, by omega, by first | rfl | trivial, ⟨rfl, rfl, rfl, rfl, rfl, rfl⟩, HO.out, hx, hE⟩, by first | (simp [intOf]; done) | (simp [intOf]; omega)⟩
  · obtain rfl : k = n + 1 := by omega
    have h1 : ¬ (((n + 1 : Nat) : Int) ≤ (n : Int)) := by omega
    obtain rfl := HNN.out
    rw [u64V_congr (g := rowM (relP ws (.node 6 pl mi nt mn mx l))) (fun a ha => by rw [if_pos ha, HREL.out])] at hO
    have hO2 := own_base (base' := w.heap.size) hO (by have := HB.out; omega)
    have HO := Lib.hid hO2
    clear hO hO2
    go_wp2
    go_ret
    exact ⟨_, rfl, HO.out, hE⟩

set_option maxRecDepth 100000 in
set_option maxHeartbeats 8000000 in
theorem table_1 (pl mi : Nat) (nt : Bool) (mn mx : Int) (l : List Pat) : TableOk (.node 1 pl mi nt mn mx l) := by
  intro K w cs v ws hp hv hn hall
  have hE1 : ∀ V : World, Ext w V → PatAt K V (.node 1 pl mi nt mn mx l) cs := fun V hE => hp.ext hE
  unfold PatAt at hp
  obtain ⟨ao, cap, rfl, hpl, hmi, hlc, hcm, hl⟩ := hp
  obtain ⟨bo, bcap, rfl, hbm⟩ := hv.slice
  rw [allN_eq] at hall
  obtain ⟨hnode, hkids0⟩ := hall
  have hkids : allNs l := hkids0
  rw [allNs_iff] at hkids
  clear hkids0
  have hrel := relP_node ws 1 pl mi nt mn mx l
  rw [if_pos rfl] at hrel
  unfold patCells
  obtain ⟨N, hN⟩ : ∃ N, l.length = N := ⟨_, rfl⟩
  obtain ⟨n, hnn⟩ : ∃ n, ws.length = n := ⟨_, rfl⟩
  have HNN := Lib.hid hnn; have HN := Lib.hid hN; have HV := Lib.hid hv; have HL := Lib.hid hl; have HKID := Lib.hid hkids; have HREL := Lib.hid hrel; have HNODE := Lib.hid hnode
  have hlm : N ≤ maxLen := by rw [← hN]; exact Nat.le_trans hlc hcm
  have hbn : n ≤ 32 := by rw [← hnn]; exact hn
  unfold maxLen at hlm hbm
  show Calls Tryd.prog 52 #[.agg #[.int .i64 1, .int .u32 (pl : Int), .int .u32 (mi : Int), .bool nt, .int .i64 mn, .int .i64 mx, .slice ao l.length cap], .slice bo ws.length bcap] w _
  rw [hN, hnn]
  clear hv hl hkids hrel hnode hlc hcm hN hnn hn hbm hE1
  go_enter Tryd.func52, Tryd.ntmps52
  go_wp2_with (at_make; refine make_row1 rfl (.tmp 17) (.tmp 17) 77 rfl (w.heap.size + 1) 65 _ 8 Tryd.underlying77 Tryd.infoU rfl .i64 .i64 _ _ (n + 1) rfl rfl (by first | rfl | omega | simp) (by first | rfl | omega | simp) ?c1 ?c2 (by simp) ?_)
  case c1 => omega
  case c2 => unfold maxLen; omega
  intro w1 hO hE1
  obtain ⟨B, hB⟩ : ∃ r, w.heap.size = r := ⟨_, rfl⟩
  have hx1 : w1.heap[w.heap.size]? = some (.cells #[.int .i64 1, .int .u32 (pl : Int), .int .u32 (mi : Int), .bool nt, .int .i64 mn, .int .i64 mx, .slice ao N cap] 27 (0, 0)) := hE1.keep (new_at rfl)
  have hE01 : Ext w w1 := Turn.trans ((Turn.refl _ w).alloc _) hE1
  rw [hB] at hO hx1 ⊢
  rw [u64V_zero, show u64V (n + 1) (fun _ => 0) = u64V (n + 1) (fun a => if a < 0 then rowM (soundB ws (pl, mi) nt) a else 0) from u64V_congr fun a _ => by simp] at hO
  have HB := Lib.hid hB
  have HX := Lib.hid hx1
  clear hB hx1 hE1
  go_wp2
  refine wp_loop (fun a W => ∃ (k : Nat), k ≤ n + 1 ∧ a.defers = [] ∧ (a.tmps.size = 153 ∧ a.tmps.getD 1 undef = .slice bo n bcap ∧ a.tmps.getD 2 undef = .pointer (some ⟨B, 0, none⟩) ∧ a.tmps.getD 5 undef = .int .i64 n ∧ a.tmps.getD 6 undef = .slice (some ⟨B + 1, 0, none⟩) (n + 1) (n + 1) ∧ a.tmps.getD 7 undef = .int .i64 k) ∧ W.ownsRow (B + 1) 65 1 (.slice (some ⟨B + 1, 0, none⟩) (n + 1) (n + 1)) (n + 1) (u64V (n + 1) (fun a => if a < k then rowM (soundB ws (pl, mi) nt) a else 0)) ∧ W.heap[B]? = some (.cells #[.int .i64 1, .int .u32 (pl : Int), .int .u32 (mi : Int), .bool nt, .int .i64 mn, .int .i64 mx, .slice ao N cap] 27 (0, 0)) ∧ Ext w W)
    (fun a _ => n + 1 - (intOf (a.tmps.getD 7 undef)).toNat) ?_ ?_
  · exact ⟨0, by omega, rfl, ⟨rfl, rfl, rfl, rfl, rfl, rfl⟩, hO, HX.out, hE01⟩
  clear hO hE01 HX
  rintro ⟨t, _⟩ W ⟨k, hk, hds, ⟨hsz, f1, f2, f5, f6, f7⟩, hO, hx, hE⟩
  subst hds
  obtain ⟨u', hu⟩ := frame_fun hsz
  obtain ⟨u, rfl⟩ : ∃ x, x = u' := ⟨_, rfl⟩
  have hu' : t = #[u 0, u 1, u 2, u 3, u 4, u 5, u 6, u 7, u 8, u 9, u 10, u 11, u 12, u 13, u 14, u 15, u 16, u 17, u 18, u 19, u 20, u 21, u 22, u 23, u 24, u 25, u 26, u 27, u 28, u 29, u 30, u 31, u 32, u 33, u 34, u 35, u 36, u 37, u 38, u 39, u 40, u 41, u 42, u 43, u 44, u 45, u 46, u 47, u 48, u 49, u 50, u 51, u 52, u 53, u 54, u 55, u 56, u 57, u 58, u 59, u 60, u 61, u 62, u 63, u 64, u 65, u 66, u 67, u 68, u 69, u 70, u 71, u 72, u 73, u 74, u 75, u 76, u 77, u 78, u 79, u 80, u 81, u 82, u 83, u 84, u 85, u 86, u 87, u 88, u 89, u 90, u 91, u 92, u 93, u 94, u 95, u 96, u 97, u 98, u 99, u 100, u 101, u 102, u 103, u 104, u 105, u 106, u 107, u 108, u 109, u 110, u 111, u 112, u 113, u 114, u 115, u 116, u 117, u 118, u 119, u 120, u 121, u 122, u 123, u 124, u 125, u 126, u 127, u 128, u 129, u 130, u 131, u 132, u 133, u 134, u 135, u 136, u 137, u 138, u 139, u 140, u 141, u 142, u 143, u 144, u 145, u 146, u 147, u 148, u 149, u 150, u 151, u 152] := hu
  clear hu
  subst hu'
  change u 1 = _ at f1
  change u 2 = _ at f2
  change u 5 = _ at f5
  change u 6 = _ at f6
  change u 7 = _ at f7
  rw [f1, f2, f5, f6, f7]
  clear f1 f2 f5 f6 f7 hsz
  have cX := fun j => cell_of_row _ _ j _ _ _ hx
  by_cases hkn : k < n + 1
  · have h1 : (k : Int) ≤ (n : Int) := by omega
    have h2 : (k : Int) < (n : Int) + 1 := by omega
    have h3 : (k : Int) < 64 := by omega
    by_cases hlt : k < n
    · have g1 : (k : Int) < (n : Int) := by omega
      have hkl : k < ws.length := by rw [HNN.out]; exact hlt
      obtain ⟨g, off, cap', he, hg, d1, d2⟩ := (HV.out.ext hE).at hkl
      have he2 := he
      simp only [Value.slice.injEq] at he2
      obtain ⟨hbo, hq0, hcap⟩ := he2
      clear hq0
      subst hbo
      subst hcap
      clear he
      obtain ⟨hs1, hs2⟩ := HV.out.2.get k hkl
      obtain ⟨a, ha⟩ : ∃ a, (ws.getD k (0, 0)).1 = a := ⟨_, rfl⟩
      obtain ⟨b, hb⟩ : ∃ b, (ws.getD k (0, 0)).2 = b := ⟨_, rfl⟩
      rw [ha] at d1 hs1
      rw [hb] at d2 hs2
      have hsat := fun (V : World) => sat_any (s := (a, b)) (c := (pl, mi)) hs1 hs2 hpl hmi V
      have hab : ws.getD k (0, 0) = (a, b) := by rw [← ha, ← hb]
      obtain ⟨q, hq⟩ : ∃ q, sat (a, b) (pl, mi) = q := ⟨_, rfl⟩
      rw [hq] at hsat
      have hrow : ∀ c, soundB ws (pl, mi) nt k c = (c == k + 1 && (q != nt)) := by
        intro c
        unfold soundB
        rw [hab, hq, decide_eq_true hkl, Bool.and_true]
      have HROW := Lib.hid hrow; have HSAT := Lib.hid hsat
      have hcs : ∀ (D : World), Ext W D → D.cell? ⟨g, off + k * 2, none⟩ = some (.int .u32 (a : Int)) ∧ D.cell? ⟨g, off + k * 2 + 1, none⟩ = some (.int .u32 (b : Int)) ∧ D.cell? ⟨B, 1, none⟩ = some (.int .u32 (pl : Int)) ∧ D.cell? ⟨B, 2, none⟩ = some (.int .u32 (mi : Int)) ∧ D.cell? ⟨B, 3, none⟩ = some (.bool nt) := fun D hD => ⟨hD.cell_some d1 id, hD.cell_some d2 id, by have := hD.keep hx; simp [World.cell?, this], by have := hD.keep hx; simp [World.cell?, this], by have := hD.keep hx; simp [World.cell?, this]⟩
      have HS0 := Lib.hid hcs
      have HOW := Lib.hid hO; have HXW := Lib.hid hx
      have c0 : W.cell? ⟨B, 0, none⟩ = some (.int .i64 1) := by simp [World.cell?, hx]
      clear hrow hsat hab hq ha hb d1 d2 hcs cX hO hx
      go_wp2
      clear c0
      refine wp_region_held_drew (S := fun D => D.cell? ⟨g, off + k * 2, none⟩ = some (.int .u32 (a : Int)) ∧ D.cell? ⟨g, off + k * 2 + 1, none⟩ = some (.int .u32 (b : Int)) ∧ D.cell? ⟨B, 1, none⟩ = some (.int .u32 (pl : Int)) ∧ D.cell? ⟨B, 2, none⟩ = some (.int .u32 (mi : Int)) ∧ D.cell? ⟨B, 3, none⟩ = some (.bool nt)) (by kernel_rfl) (HS0.out _ (Turn.drew (Turn.refl _ W))) ?_
      intro hS0
      refine wpAnyH_take (i := 0) (v := ?_) rfl (by kernel_rfl) (by kernel_rfl) (by kernel_rfl) (fun _ _ _ h => h) (Or.inl ⟨by rfl, ?_⟩) (hS0) ?_
      rotate_left
      · intro w hSw; (try dsimp only at hSw); go_simp; try with_reducible rfl
      change wpAnyH _ _ _ _ _ _ _ (Act.put _ (some 35) _) _
      try simp only [Act.put, List.setIfInBounds_toArray, List.set_cons_zero, List.set_cons_succ]
      refine wpAnyH_take (i := 1) (v := ?_) rfl (by kernel_rfl) (by kernel_rfl) (by kernel_rfl) (fun _ _ _ h => h) (Or.inl ⟨by rfl, ?_⟩) (hS0) ?_
      rotate_left
      · intro w hSw; (try dsimp only at hSw); go_simp; try with_reducible rfl
      change wpAnyH _ _ _ _ _ _ _ (Act.put _ (some 36) _) _
      try simp only [Act.put, List.setIfInBounds_toArray, List.set_cons_zero, List.set_cons_succ]
      refine wpAnyH_take (i := 2) (v := ?_) rfl (by kernel_rfl) (by kernel_rfl) (by kernel_rfl) (fun _ _ _ h => h) (Or.inl ⟨by rfl, ?_⟩) (hS0) ?_
      rotate_left
      · intro w hSw; (try dsimp only at hSw); go_simp; try with_reducible rfl
      change wpAnyH _ _ _ _ _ _ _ (Act.put _ (some 37) _) _
      try simp only [Act.put, List.setIfInBounds_toArray, List.set_cons_zero, List.set_cons_succ]
      refine wpAnyH_take (i := 3) (v := ?_) rfl (by kernel_rfl) (by kernel_rfl) (by kernel_rfl) (fun _ _ _ h => h) (Or.inl ⟨by rfl, ?_⟩) (hS0) ?_
      rotate_left
      · intro w hSw; (try dsimp only at hSw); go_simp; try with_reducible rfl
      change wpAnyH _ _ _ _ _ _ _ (Act.put _ (some 38) _) _
      try simp only [Act.put, List.setIfInBounds_toArray, List.set_cons_zero, List.set_cons_succ]
      refine wpAnyH_take (i := 4) (v := ?_) rfl (by kernel_rfl) (by kernel_rfl) (by kernel_rfl) (fun _ _ _ h => h) (Or.inl ⟨by rfl, ?_⟩) (hS0) ?_
      rotate_left
      · intro w hSw; (try dsimp only at hSw); go_simp; try with_reducible rfl
      change wpAnyH _ _ _ _ _ _ _ (Act.put _ (some 39) _) _
      try simp only [Act.put, List.setIfInBounds_toArray, List.set_cons_zero, List.set_cons_succ]
      refine wpAnyH_take (i := 5) (v := ?_) rfl (by kernel_rfl) (by kernel_rfl) (by kernel_rfl) (fun _ _ _ h => h) (Or.inl ⟨by rfl, ?_⟩) (hS0) ?_
      rotate_left
      · intro w hSw; (try dsimp only at hSw); go_simp; try with_reducible rfl
      change wpAnyH _ _ _ _ _ _ _ (Act.put _ (some 40) _) _
      try simp only [Act.put, List.setIfInBounds_toArray, List.set_cons_zero, List.set_cons_succ]
      refine wpAnyH_take (i := 6) (v := ?_) rfl (by kernel_rfl) (by kernel_rfl) (by kernel_rfl) (fun _ _ _ h => h) (Or.inl ⟨by rfl, ?_⟩) (hS0) ?_
      rotate_left
      · intro w hSw; (try dsimp only at hSw); go_simp; try with_reducible rfl
      change wpAnyH _ _ _ _ _ _ _ (Act.put _ (some 41) _) _
      try simp only [Act.put, List.setIfInBounds_toArray, List.set_cons_zero, List.set_cons_succ]
      refine wpAnyH_take (i := 7) (v := ?_) rfl (by kernel_rfl) (by kernel_rfl) (by kernel_rfl) (fun _ _ _ h => h) (Or.inl ⟨by rfl, ?_⟩) (hS0) ?_
      rotate_left
      · intro w hSw; (try dsimp only at hSw); go_simp; try with_reducible rfl
      change wpAnyH _ _ _ _ _ _ _ (Act.put _ (some 42) _) _
      try simp only [Act.put, List.setIfInBounds_toArray, List.set_cons_zero, List.set_cons_succ]
      refine wpAnyH_take (i := 8) (v := ?_) rfl (by kernel_rfl) (by kernel_rfl) (by kernel_rfl) (fun _ _ _ h => h) (Or.inl ⟨by rfl, ?_⟩) (hS0) ?_
      rotate_left
      · intro w hSw; (try dsimp only at hSw); go_simp; try with_reducible rfl
      change wpAnyH _ _ _ _ _ _ _ (Act.put _ (some 43) _) _
      try simp only [Act.put, List.setIfInBounds_toArray, List.set_cons_zero, List.set_cons_succ]
      refine wpAnyH_take (i := 9) (v := ?_) rfl (by kernel_rfl) (by kernel_rfl) (by kernel_rfl) (fun _ _ _ h => h) (Or.inl ⟨by rfl, ?_⟩) (hS0) ?_
      rotate_left
      · intro w hSw; (try dsimp only at hSw); go_simp; try with_reducible rfl
      change wpAnyH _ _ _ _ _ _ _ (Act.put _ (some 44) _) _
      try simp only [Act.put, List.setIfInBounds_toArray, List.set_cons_zero, List.set_cons_succ]
      refine wpAnyH_take (i := 11) (v := ?_) rfl (by kernel_rfl) (by kernel_rfl) (by kernel_rfl) (fun _ _ _ h => h) (Or.inl ⟨by rfl, ?_⟩) (hS0) ?_
      rotate_left
      · intro w hSw; (try dsimp only at hSw); go_simp; try with_reducible rfl
      change wpAnyH _ _ _ _ _ _ _ (Act.put _ (some 46) _) _
      try simp only [Act.put, List.setIfInBounds_toArray, List.set_cons_zero, List.set_cons_succ]
      refine wpAnyH_take (i := 12) (v := ?_) rfl (by kernel_rfl) (by kernel_rfl) (by kernel_rfl) (fun _ _ _ h => h) (Or.inl ⟨by rfl, ?_⟩) (hS0) ?_
      rotate_left
      · intro w hSw; (try dsimp only at hSw); go_simp; try with_reducible rfl
      change wpAnyH _ _ _ _ _ _ _ (Act.put _ (some 47) _) _
      try simp only [Act.put, List.setIfInBounds_toArray, List.set_cons_zero, List.set_cons_succ]
      refine wpAnyH_ready (rs := [10]) (by kernel_rfl) (by simp) ?_
      refine AllReadyH.cons rfl (fun K hK => ?_) AllReadyH.nil
      (try rw [if_pos (show Region.wanted _ _ = true from rfl)])
      go_simp
      refine (HSAT.out _).mono ?_
      rintro e V1 ⟨rfl, hN⟩
      have hV1 : Ext W V1 := Turn.trans (Turn.drew (Turn.refl _ W)) hN
      clear hN
      refine hK.out _ _ (HS0.out _ hV1) (fun hS1 => ?_)
      clear hK K
      refine wpAnyH_take (i := 13) (v := ?_) rfl (by kernel_rfl) (by kernel_rfl) (by kernel_rfl) (fun _ _ _ h => h) (Or.inl ⟨by rfl, ?_⟩) (hS1) ?_
      rotate_left
      · intro w hSw; (try dsimp only at hSw); go_simp; try with_reducible rfl
      change wpAnyH _ _ _ _ _ _ _ (Act.put _ (some 48) _) _
      try simp only [Act.put, List.setIfInBounds_toArray, List.set_cons_zero, List.set_cons_succ]
      refine wpAnyH_take (i := 14) (v := ?_) rfl (by kernel_rfl) (by kernel_rfl) (by kernel_rfl) (fun _ _ _ h => h) (Or.inl ⟨by rfl, ?_⟩) (hS1) ?_
      rotate_left
      · intro w hSw; (try dsimp only at hSw); go_simp; try with_reducible rfl
      change wpAnyH _ _ _ _ _ _ _ (Act.put _ (some 49) _) _
      try simp only [Act.put, List.setIfInBounds_toArray, List.set_cons_zero, List.set_cons_succ]
      refine wpAnyH_done (by kernel_rfl) ?_ _
      have hO := own_ext HOW.out hV1
      have hx := hV1.keep HXW.out
      have hE := hE.trans hV1
      clear hS0 hS1 hV1 HS0 HOW HXW
      have cX := fun j => cell_of_row _ _ j _ _ _ hx
      cases q
      · cases nt
        · have hval : ∀ c, c < 33 → soundB ws (pl, mi) false k c = false := fun c _ => by rw [HROW.out c]; cases (c == k + 1) <;> rfl
          have hval2 : rowM (soundB ws (pl, mi) false) k = 0 := rowM_none hval
          rw [u64V_congr (g := fun a => if a < k + 1 then rowM (soundB ws (pl, mi) false) a else 0) (fun i _ => by
            by_cases e : i = k
            · rw [if_neg (by omega), if_pos (by omega), e, hval2]
            · by_cases h : i < k
              · rw [if_pos h, if_pos (by omega)]
              · rw [if_neg h, if_neg (by omega)])] at hO
          have HO := Lib.hid hO
          clear hO hval2
          clear hval cX
          go_wp2
          exact ⟨⟨k + 1, by omega, by first | rfl | trivial, ⟨rfl, rfl, rfl, rfl, rfl, rfl⟩, HO.out, hx, hE⟩, by first | (simp [intOf]; done) | (simp [intOf]; omega)⟩
        · have hval : ∀ c, c < 33 → soundB ws (pl, mi) true k c = (c == k + 1) := fun c _ => by rw [HROW.out c]; cases (c == k + 1) <;> rfl
          have hw := pow_u64 (k := k + 1) (by omega)
          have hw2 : (k : Int) + 1 < 64 := by omega
          have hval2 : rowM (soundB ws (pl, mi) true) k = 2 ^ (k + 1) := rowM_one (b := k + 1) (by omega) hval
          have hs := own_store hO k (.int .u64 ((2 ^ (k + 1) : Nat) : Int))
          rw [u64V_set, u64V_congr (g := fun a => if a < k + 1 then rowM (soundB ws (pl, mi) true) a else 0) (fun i _ => by
            unfold updN
            by_cases e : i = k
            · rw [if_pos e, if_pos (by omega), e, hval2]
            · rw [if_neg e]
              show (if i < k then rowM (soundB ws (pl, mi) true) i else 0) = _
              by_cases h : i < k
              · rw [if_pos h, if_pos (by omega)]
              · rw [if_neg h, if_neg (by omega)])] at hs
          have c1 : V1.cell? ⟨B + 1, k, none⟩ = some (.int .u64 ((if k < k then rowM (soundB ws (pl, mi) true) k else 0 : Nat) : Int)) := by rw [hO.cellAt k (by omega), u64V_get _ hkn]
          rw [if_neg (Nat.lt_irrefl k)] at c1
          have c2 : V1.frozen? ⟨B + 1, k, none⟩ = false := hO.frozenAt k
          have hE2 : Ext w (V1.setCell ⟨B + 1, k, none⟩ (.int .u64 ((2 ^ (k + 1) : Nat) : Int))) := hE.setCell (p := ⟨B + 1, k, none⟩) (.inl (show w.heap.size ≤ B + 1 by have := HB.out; omega)) _
          have hx2 : (V1.setCell ⟨B + 1, k, none⟩ (.int .u64 ((2 ^ (k + 1) : Nat) : Int))).heap[B]? = some (.cells #[.int .i64 1, .int .u32 (pl : Int), .int .u32 (mi : Int), .bool true, .int .i64 mn, .int .i64 mx, .slice ao N cap] 27 (0, 0)) := set_keep hx (by simp)
          have HS := Lib.hid hs; have HE := Lib.hid hE2; have HX2 := Lib.hid hx2
          clear hs hE2 hx2 hO hE hx hval2
          clear hval
          go_wp2
          exact ⟨⟨k + 1, by omega, by first | rfl | trivial, ⟨rfl, rfl, rfl, rfl, rfl, rfl⟩, HS.out, HX2.out, HE.out⟩, by first | (simp [intOf]; done) | (simp [intOf]; omega)⟩
      · cases nt
        · have hval : ∀ c, c < 33 → soundB ws (pl, mi) false k c = (c == k + 1) := fun c _ => by rw [HROW.out c]; cases (c == k + 1) <;> rfl
          have hw := pow_u64 (k := k + 1) (by omega)
          have hw2 : (k : Int) + 1 < 64 := by omega
          have hval2 : rowM (soundB ws (pl, mi) false) k = 2 ^ (k + 1) := rowM_one (b := k + 1) (by omega) hval
          have hs := own_store hO k (.int .u64 ((2 ^ (k + 1) : Nat) : Int))
          rw [u64V_set, u64V_congr (g := fun a => if a < k + 1 then rowM (soundB ws (pl, mi) false) a else 0) (fun i _ => by
            unfold updN
            by_cases e : i = k
            · rw [if_pos e, if_pos (by omega), e, hval2]
            · rw [if_neg e]
              show (if i < k then rowM (soundB ws (pl, mi) false) i else 0) = _
              by_cases h : i < k
              · rw [if_pos h, if_pos (by omega)]
              · rw [if_neg h, if_neg (by omega)])] at hs
          have c1 : V1.cell? ⟨B + 1, k, none⟩ = some (.int .u64 ((if k < k then rowM (soundB ws (pl, mi) false) k else 0 : Nat) : Int)) := by rw [hO.cellAt k (by omega), u64V_get _ hkn]
          rw [if_neg (Nat.lt_irrefl k)] at c1
          have c2 : V1.frozen? ⟨B + 1, k, none⟩ = false := hO.frozenAt k
          have hE2 : Ext w (V1.setCell ⟨B + 1, k, none⟩ (.int .u64 ((2 ^ (k + 1) : Nat) : Int))) := hE.setCell (p := ⟨B + 1, k, none⟩) (.inl (show w.heap.size ≤ B + 1 by have := HB.out; omega)) _
          have hx2 : (V1.setCell ⟨B + 1, k, none⟩ (.int .u64 ((2 ^ (k + 1) : Nat) : Int))).heap[B]? = some (.cells #[.int .i64 1, .int .u32 (pl : Int), .int .u32 (mi : Int), .bool false, .int .i64 mn, .int .i64 mx, .slice ao N cap] 27 (0, 0)) := set_keep hx (by simp)
          have HS := Lib.hid hs; have HE := Lib.hid hE2; have HX2 := Lib.hid hx2
          clear hs hE2 hx2 hO hE hx hval2
          clear hval
          go_wp2
          exact ⟨⟨k + 1, by omega, by first | rfl | trivial, ⟨rfl, rfl, rfl, rfl, rfl, rfl⟩, HS.out, HX2.out, HE.out⟩, by first | (simp [intOf]; done) | (simp [intOf]; omega)⟩
        · have hval : ∀ c, c < 33 → soundB ws (pl, mi) true k c = false := fun c _ => by rw [HROW.out c]; cases (c == k + 1) <;> rfl
          have hval2 : rowM (soundB ws (pl, mi) true) k = 0 := rowM_none hval
          rw [u64V_congr (g := fun a => if a < k + 1 then rowM (soundB ws (pl, mi) true) a else 0) (fun i _ => by
            by_cases e : i = k
            · rw [if_neg (by omega), if_pos (by omega), e, hval2]
            · by_cases h : i < k
              · rw [if_pos h, if_pos (by omega)]
              · rw [if_neg h, if_neg (by omega)])] at hO
          have HO := Lib.hid hO
          clear hO hval2
          clear hval cX
          go_wp2
          exact ⟨⟨k + 1, by omega, by first | rfl | trivial, ⟨rfl, rfl, rfl, rfl, rfl, rfl⟩, HO.out, hx, hE⟩, by first | (simp [intOf]; done) | (simp [intOf]; omega)⟩
    · obtain rfl : k = n := by omega
      have g1 : ¬ (k : Int) < (k : Int) := by omega
      have g2 : decide ((k : Int) < (k : Int)) = false := by simp
      have HOW := Lib.hid hO; have HXW := Lib.hid hx
      have c0 : W.cell? ⟨B, 0, none⟩ = some (.int .i64 1) := by simp [World.cell?, hx]
      clear hO hx cX
      go_wp2
      clear c0
      refine wp_region_held_drew (S := fun _ => True) (by kernel_rfl) trivial ?_
      intro hS0
      refine wpAnyH_take (i := 0) (v := ?_) rfl (by kernel_rfl) (by kernel_rfl) (by kernel_rfl) (fun _ _ _ h => h) (Or.inl ⟨by rfl, ?_⟩) (hS0) ?_
      rotate_left
      · intro w hSw; (try dsimp only at hSw); go_simp; try with_reducible rfl
      change wpAnyH _ _ _ _ _ _ _ (Act.put _ (some 35) _) _
      try simp only [Act.put, List.setIfInBounds_toArray, List.set_cons_zero, List.set_cons_succ]
      refine wpAnyH_take (i := 1) (v := ?_) rfl (by kernel_rfl) (by kernel_rfl) (by kernel_rfl) (fun _ _ _ h => h) (Or.inl ⟨by rfl, ?_⟩) (hS0) ?_
      rotate_left
      · intro w hSw; (try dsimp only at hSw); go_simp; try with_reducible rfl
      change wpAnyH _ _ _ _ _ _ _ (Act.put _ (some 36) _) _
      try simp only [Act.put, List.setIfInBounds_toArray, List.set_cons_zero, List.set_cons_succ]
      refine wpAnyH_take (i := 2) (v := ?_) rfl (by kernel_rfl) (by kernel_rfl) (by kernel_rfl) (fun _ _ _ h => h) (Or.inl ⟨by rfl, ?_⟩) (hS0) ?_
      rotate_left
      · intro w hSw; (try dsimp only at hSw); go_simp; try with_reducible rfl
      change wpAnyH _ _ _ _ _ _ _ (Act.put _ (some 37) _) _
      try simp only [Act.put, List.setIfInBounds_toArray, List.set_cons_zero, List.set_cons_succ]
      refine wpAnyH_take (i := 3) (v := ?_) rfl (by kernel_rfl) (by kernel_rfl) (by kernel_rfl) (fun _ _ _ h => h) (Or.inl ⟨by rfl, ?_⟩) (hS0) ?_
      rotate_left
      · intro w hSw; (try dsimp only at hSw); go_simp; try with_reducible rfl
      change wpAnyH _ _ _ _ _ _ _ (Act.put _ (some 38) _) _
      try simp only [Act.put, List.setIfInBounds_toArray, List.set_cons_zero, List.set_cons_succ]
      refine wpAnyH_take (i := 4) (v := undef) rfl (by kernel_rfl) (by kernel_rfl) (by kernel_rfl) (fun _ _ _ h => h) (Or.inr ⟨by rfl, rfl⟩) (hS0) ?_
      change wpAnyH _ _ _ _ _ _ _ (Act.put _ (some 39) _) _
      try simp only [Act.put, List.setIfInBounds_toArray, List.set_cons_zero, List.set_cons_succ]
      refine wpAnyH_take (i := 5) (v := undef) rfl (by kernel_rfl) (by kernel_rfl) (by kernel_rfl) (fun _ _ _ h => h) (Or.inr ⟨by rfl, rfl⟩) (hS0) ?_
      change wpAnyH _ _ _ _ _ _ _ (Act.put _ (some 40) _) _
      try simp only [Act.put, List.setIfInBounds_toArray, List.set_cons_zero, List.set_cons_succ]
      refine wpAnyH_take (i := 6) (v := undef) rfl (by kernel_rfl) (by kernel_rfl) (by kernel_rfl) (fun _ _ _ h => h) (Or.inr ⟨by rfl, rfl⟩) (hS0) ?_
      change wpAnyH _ _ _ _ _ _ _ (Act.put _ (some 41) _) _
      try simp only [Act.put, List.setIfInBounds_toArray, List.set_cons_zero, List.set_cons_succ]
      refine wpAnyH_take (i := 7) (v := undef) rfl (by kernel_rfl) (by kernel_rfl) (by kernel_rfl) (fun _ _ _ h => h) (Or.inr ⟨by rfl, rfl⟩) (hS0) ?_
      change wpAnyH _ _ _ _ _ _ _ (Act.put _ (some 42) _) _
      try simp only [Act.put, List.setIfInBounds_toArray, List.set_cons_zero, List.set_cons_succ]
      refine wpAnyH_take (i := 8) (v := undef) rfl (by kernel_rfl) (by kernel_rfl) (by kernel_rfl) (fun _ _ _ h => h) (Or.inr ⟨by rfl, rfl⟩) (hS0) ?_
      change wpAnyH _ _ _ _ _ _ _ (Act.put _ (some 43) _) _
      try simp only [Act.put, List.setIfInBounds_toArray, List.set_cons_zero, List.set_cons_succ]
      refine wpAnyH_take (i := 9) (v := undef) rfl (by kernel_rfl) (by kernel_rfl) (by kernel_rfl) (fun _ _ _ h => h) (Or.inr ⟨by rfl, rfl⟩) (hS0) ?_
      change wpAnyH _ _ _ _ _ _ _ (Act.put _ (some 44) _) _
      try simp only [Act.put, List.setIfInBounds_toArray, List.set_cons_zero, List.set_cons_succ]
      refine wpAnyH_take (i := 10) (v := undef) rfl (by kernel_rfl) (by kernel_rfl) (by kernel_rfl) (fun _ _ _ h => h) (Or.inr ⟨by rfl, rfl⟩) (hS0) ?_
      change wpAnyH _ _ _ _ _ _ _ (Act.put _ (some 45) _) _
      try simp only [Act.put, List.setIfInBounds_toArray, List.set_cons_zero, List.set_cons_succ]
      refine wpAnyH_take (i := 11) (v := undef) rfl (by kernel_rfl) (by kernel_rfl) (by kernel_rfl) (fun _ _ _ h => h) (Or.inr ⟨by rfl, rfl⟩) (hS0) ?_
      change wpAnyH _ _ _ _ _ _ _ (Act.put _ (some 46) _) _
      try simp only [Act.put, List.setIfInBounds_toArray, List.set_cons_zero, List.set_cons_succ]
      refine wpAnyH_take (i := 12) (v := undef) rfl (by kernel_rfl) (by kernel_rfl) (by kernel_rfl) (fun _ _ _ h => h) (Or.inr ⟨by rfl, rfl⟩) (hS0) ?_
      change wpAnyH _ _ _ _ _ _ _ (Act.put _ (some 47) _) _
      try simp only [Act.put, List.setIfInBounds_toArray, List.set_cons_zero, List.set_cons_succ]
      refine wpAnyH_take (i := 13) (v := undef) rfl (by kernel_rfl) (by kernel_rfl) (by kernel_rfl) (fun _ _ _ h => h) (Or.inr ⟨by rfl, rfl⟩) (hS0) ?_
      change wpAnyH _ _ _ _ _ _ _ (Act.put _ (some 48) _) _
      try simp only [Act.put, List.setIfInBounds_toArray, List.set_cons_zero, List.set_cons_succ]
      refine wpAnyH_take (i := 14) (v := ?_) rfl (by kernel_rfl) (by kernel_rfl) (by kernel_rfl) (fun _ _ _ h => h) (Or.inl ⟨by rfl, ?_⟩) (hS0) ?_
      rotate_left
      · intro w hSw; (try dsimp only at hSw); go_simp; try with_reducible rfl
      change wpAnyH _ _ _ _ _ _ _ (Act.put _ (some 49) _) _
      try simp only [Act.put, List.setIfInBounds_toArray, List.set_cons_zero, List.set_cons_succ]
      refine wpAnyH_done (by kernel_rfl) ?_ _
      have hO := own_ext HOW.out (Turn.drew (Turn.refl _ W))
      have hx := (Turn.drew (Turn.refl (fun _ => False) W)).heap HXW.out id
      have hE := hE.drew
      clear hS0 HOW HXW g2
      have hval : rowM (soundB ws (pl, mi) nt) k = 0 := rowM_none fun c _ => by unfold soundB; rw [decide_eq_false (by rw [HNN.out]; omega), Bool.and_false, Bool.false_and]
      rw [u64V_congr (g := fun a => if a < k + 1 then rowM (soundB ws (pl, mi) nt) a else 0) (fun i _ => by
        by_cases e : i = k
        · rw [if_neg (by omega), if_pos (by omega), e, hval]
        · by_cases h : i < k
          · rw [if_pos h, if_pos (by omega)]
          · rw [if_neg h, if_neg (by omega)])] at hO
      have HO := Lib.hid hO
      clear hO hval
      go_wp2
      exact ⟨⟨k + 1, by omega, by first | rfl | trivial, ⟨rfl, rfl, rfl, rfl, rfl, rfl⟩, HO.out, hx, hE⟩, by first | (simp [intOf]; done) | (simp [intOf]; omega)⟩
  · obtain rfl : k = n + 1 := by omega
    have h1 : ¬ (((n + 1 : Nat) : Int) ≤ (n : Int)) := by omega
    obtain rfl := HNN.out
    rw [u64V_congr (g := rowM (relP ws (.node 1 pl mi nt mn mx l))) (fun a ha => by rw [if_pos ha, HREL.out])] at hO
    have hO2 := own_base (base' := w.heap.size) hO (by have := HB.out; omega)
    have HO := Lib.hid hO2
    clear hO hO2
    go_wp2
    go_ret
    exact ⟨_, rfl, HO.out, hE⟩
end Go.Proofs.YtapfoaiibjdfnaaDoor
