/- ablautlaw06.PatsBoth: the walk. -/
import Derived.Test.YtapfoaiibjdfnaaDoorGoodC
namespace Go.Proofs.YtapfoaiibjdfnaaDoor
open Go.RowKit Go.Ab
attribute [local go_sem] Oper.semAt_some wide_fn wide_depth

theorem natV_cell {w : World} {u : Value} {L : List Nat} (h : Rd w u L.length 1 (natV L)) : ∃ ao cap, u = .slice ao L.length cap ∧ L.length ≤ maxLen ∧ ∀ k (hk : k < L.length), ∃ g off, ao = some ⟨g, off, none⟩ ∧ w.cell? ⟨g, off + k, none⟩ = some (.int .i64 (L[k] : Int)) := Rd.int h

set_option maxRecDepth 100000 in
set_option maxHeartbeats 8000000 in
theorem both_law (w : World) (hT : Tab w) {p : Pat} {cs : List Value} {v : Value} {ws : Wd} (hp : PatAt (fun g => g < w.heap.size) w p cs) (hv : WordAt w v ws) :
    Calls Tryd.prog 5 #[.agg cs.toArray, v] w fun e w' => e = .returned (.bool true) ∧ Ext w w' := by
  have hK : ∀ (V : World), Ext w V → ∀ g, g < w.heap.size → g < V.heap.size := fun V hE g h => Nat.lt_of_lt_of_le h hE.size
  have hgd := fun (V : World) (hE : Ext w V) => good_any (hp.ext hE) (hK V hE) (hv.ext hE) (hT.keep hE id)
  have hou := fun (V : World) (hE : Ext w V) (h : relE p ws = 0) => outs_any (hp.ext hE) (hK V hE) (hv.ext hE) (hT.keep hE id) h
  have hma := fun (V : World) (hE : Ext w V) (h : relE p ws = 0) => matches_good (hp.ext hE) (hK V hE) (hv.ext hE) (hT.keep hE id) h
  have hbe := fun (V : World) (hE : Ext w V) (h : relE p ws = 0) (k : Nat) (hk : k ≤ ws.length) => begins_good (hp.ext hE) (hK V hE) (hv.ext hE) (hT.keep hE id) h hk
  have hlaw : goodV p ws = true → relE p ws = 0 ∧ ws.length ≤ 32 := fun h => ⟨goodV_iff.1 h, goodV_len h⟩
  have hwo := fun (V : World) (hE : Ext w V) => works_any V (hT.keep hE id)
  obtain ⟨ao, cap, rfl, hlc, hcm, _⟩ := patAt_cells hp
  obtain ⟨bo, bcap, rfl, hbm⟩ := hv.slice
  have HGD := Lib.hid hgd; have HOU := Lib.hid hou; have HMA := Lib.hid hma; have HBE := Lib.hid hbe; have HWO := Lib.hid hwo; have HLAW := Lib.hid hlaw
  clear hgd hou hma hbe hwo hlaw hp hlc hcm hv hT hK
  obtain ⟨R, hR⟩ : ∃ R, relP ws p = R := ⟨_, rfl⟩
  obtain ⟨gb, hgb⟩ : ∃ b, goodV p ws = b := ⟨_, rfl⟩
  obtain ⟨n, hN⟩ : ∃ n, ws.length = n := ⟨_, rfl⟩
  obtain ⟨z, hz⟩ : ∃ z, relE p ws = z := ⟨_, rfl⟩
  rw [hgb] at HGD HLAW
  rw [hz] at HOU HMA HBE HLAW
  rw [hR] at HOU HMA HBE
  rw [hN] at HGD HOU HLAW HMA HBE hbm ⊢
  clear hR hgb hN hz
  unfold maxLen at hbm
  unfold patCells at HGD HOU HMA HBE ⊢
  go_enter Tryd.func5, Tryd.ntmps5
  go_wp2_with fail
  have hx0 : (w.alloc (.cells #[.int .i64 p.k, .int .u32 (p.pl : Int), .int .u32 (p.mi : Int), .bool p.nt, .int .i64 p.mn, .int .i64 p.mx, .slice ao p.l.length cap] 27)).heap[w.heap.size]? = some (.cells #[.int .i64 p.k, .int .u32 (p.pl : Int), .int .u32 (p.mi : Int), .bool p.nt, .int .i64 p.mn, .int .i64 p.mx, .slice ao p.l.length cap] 27 (0, 0)) := new_at rfl
  have hE0 : Ext w (w.alloc (.cells #[.int .i64 p.k, .int .u32 (p.pl : Int), .int .u32 (p.mi : Int), .bool p.nt, .int .i64 p.mn, .int .i64 p.mx, .slice ao p.l.length cap] 27)) := (Turn.refl _ w).alloc _
  generalize (w.alloc (.cells #[.int .i64 p.k, .int .u32 (p.pl : Int), .int .u32 (p.mi : Int), .bool p.nt, .int .i64 p.mn, .int .i64 p.mx, .slice ao p.l.length cap] 27)) = w1 at hx0 hE0 ⊢
  generalize w.heap.size = B at hx0 ⊢
  refine (HGD.out _ hE0).mono ?_
  rintro e w2 ⟨rfl, hE2⟩
  have hE02 := hE0.trans hE2
  have hx2 := hE2.keep hx0
  clear hE2 hx0 hE0
  cases gb
  · go_wp2_with fail
    refine (HWO.out _ hE02).mono ?_
    rintro e w3 ⟨rfl, hE3⟩
    have hE03 := hE02.trans hE3
    clear hE3
    go_wp2
    go_ret
    exact ⟨rfl, hE03⟩
  obtain ⟨rfl, hn⟩ := HLAW.out rfl
  clear HLAW
  have cX := fun j => cell_of_row _ _ j _ _ _ hx2
  go_wp2_with fail
  refine (HOU.out _ hE02 (by first | rfl | trivial)).mono ?_
  rintro e w3 ⟨u, rfl, hG, hE3⟩
  obtain ⟨gu, cu, rfl, hGC⟩ := Grid.open hG
  have hE03 := hE02.trans hE3
  have hx3 := hE3.keep hx2
  clear hE3 hx2 hE02 cX hG
  have cX := fun j => cell_of_row _ _ j _ _ _ hx3
  have HG3 := Lib.hid hGC
  clear hGC
  go_wp2_with fail
  refine (HMA.out _ hE03 (by first | rfl | trivial)).mono ?_
  rintro e w4 ⟨rfl, hE4⟩
  have hE04 := hE03.trans hE4
  have hx4 := hE4.keep hx3
  have HG := Lib.hid (GridC.ext HG3.out hE4)
  have HX := Lib.hid hx4
  clear HG3 hx3 hE03 cX hE4 hx4
  obtain ⟨ga, ca, a1, a2⟩ := HG.out 0 (by omega)
  have a3 := a2 n (by omega)
  have q1 : (n : Int) < (n : Int) + 1 := by omega
  clear a2
  obtain ⟨r0, hr0⟩ : ∃ r, R 0 n = r := ⟨_, rfl⟩
  rw [hr0] at a3 ⊢
  clear hr0
  go_wp2
  refine wp_loop (fun a W => ∃ (e : Nat), e ≤ n + 1 ∧ a.defers = [] ∧ (a.tmps.size = 96 ∧ a.tmps.getD 1 undef = .slice bo n bcap ∧ a.tmps.getD 2 undef = .pointer (some ⟨B, 0, none⟩) ∧ a.tmps.getD 5 undef = .slice (some ⟨gu, 0, none⟩) (n + 1) cu ∧ a.tmps.getD 9 undef = .int .i64 e) ∧ Ext w4 W)
    (fun a _ => n + 1 - (intOf (a.tmps.getD 9 undef)).toNat) ?_ ?_
  · exact ⟨0, by omega, rfl, ⟨rfl, rfl, rfl, rfl, rfl⟩, Turn.refl _ _⟩
  rintro ⟨t, _⟩ W ⟨e, he, hds, ⟨hsz, f1, f2, f5, f9⟩, hE⟩
  subst hds
  obtain ⟨u', hu⟩ := frame_fun hsz
  obtain ⟨u, rfl⟩ : ∃ x, x = u' := ⟨_, rfl⟩
  have hu' : t = #[u 0, u 1, u 2, u 3, u 4, u 5, u 6, u 7, u 8, u 9, u 10, u 11, u 12, u 13, u 14, u 15, u 16, u 17, u 18, u 19, u 20, u 21, u 22, u 23, u 24, u 25, u 26, u 27, u 28, u 29, u 30, u 31, u 32, u 33, u 34, u 35, u 36, u 37, u 38, u 39, u 40, u 41, u 42, u 43, u 44, u 45, u 46, u 47, u 48, u 49, u 50, u 51, u 52, u 53, u 54, u 55, u 56, u 57, u 58, u 59, u 60, u 61, u 62, u 63, u 64, u 65, u 66, u 67, u 68, u 69, u 70, u 71, u 72, u 73, u 74, u 75, u 76, u 77, u 78, u 79, u 80, u 81, u 82, u 83, u 84, u 85, u 86, u 87, u 88, u 89, u 90, u 91, u 92, u 93, u 94, u 95] := hu
  clear hu
  subst hu'
  change u 1 = _ at f1
  change u 2 = _ at f2
  change u 5 = _ at f5
  change u 9 = _ at f9
  rw [f1, f2, f5, f9]
  clear f1 f2 f5 f9 hsz
  by_cases hen : e < n + 1
  · have h1 : (e : Int) ≤ (n : Int) := by omega
    have h1' : (e : Int) < (n : Int) + 1 := by omega
    have hx := hE.keep HX.out
    have cX := fun j => cell_of_row _ _ j _ _ _ hx
    go_wp2_with fail
    refine (HBE.out _ (hE04.trans hE) (by first | rfl | trivial) e (by omega)).mono ?_
    rintro ex w5 ⟨u10, rfl, hL, hE5⟩
    obtain ⟨a10, c10, rfl, hlm, hcell⟩ := natV_cell hL
    have hE45 := hE.trans hE5
    obtain ⟨L, hLe⟩ : ∃ L, (List.range (n + 1)).filter (fun a => R a e) = L := ⟨_, rfl⟩
    obtain ⟨Ln, hLn⟩ : ∃ Ln, L.length = Ln := ⟨_, rfl⟩
    have hat : ∀ a, a ≤ n → R a e = true → ((List.range a).filter (fun a => R a e)).length < Ln ∧ ∃ g off, a10 = some ⟨g, off, none⟩ ∧ w5.cell? ⟨g, off + ((List.range a).filter (fun a => R a e)).length, none⟩ = some (.int .i64 (a : Int)) := by
      intro a ha hr
      obtain ⟨k1, k2⟩ := filter_at (n := n) (fun a => R a e) ha hr
      obtain ⟨g, off, k3, k4⟩ := hcell _ k1
      rw [k2] at k4
      exact ⟨by rw [← hLn, ← hLe]; exact k1, g, off, k3, k4⟩
    have HAT := Lib.hid hat
    have hlen : Ln ≤ n + 1 := by
      have := List.length_filter_le (fun a => R a e) (List.range (n + 1))
      rw [hLe, hLn] at this
      simpa using this
    have HLN : Hid (((List.range (n + 1)).filter (fun a => R a e)).length = Ln) := Lib.hid (by rw [hLe, hLn])
    rw [hLe, hLn]
    clear hat hcell hL hLe hLn hlm hx cX hE hE5
    have HG5 := Lib.hid (GridC.ext HG.out hE45)
    go_wp2
    refine wp_loop (fun a V => ∃ (i k : Nat), i ≤ n + 1 ∧ ((List.range i).filter (fun a => R a e)).length = k ∧ a.defers = [] ∧ (a.tmps.size = 96 ∧ a.tmps.getD 1 undef = .slice bo n bcap ∧ a.tmps.getD 2 undef = .pointer (some ⟨B, 0, none⟩) ∧ a.tmps.getD 5 undef = .slice (some ⟨gu, 0, none⟩) (n + 1) cu ∧ a.tmps.getD 9 undef = .int .i64 e ∧ a.tmps.getD 10 undef = .slice a10 Ln c10 ∧ a.tmps.getD 12 undef = .int .i64 k ∧ a.tmps.getD 13 undef = .int .i64 i) ∧ V = w5)
      (fun a _ => n + 1 - (intOf (a.tmps.getD 13 undef)).toNat) ?_ ?_
    · exact ⟨0, 0, by omega, rfl, rfl, ⟨rfl, rfl, rfl, rfl, rfl, rfl, rfl, rfl⟩, rfl⟩
    rintro ⟨t, _⟩ V ⟨i, k, hi, hk, hds, ⟨hsz, f1, f2, f5, f9, f10, f12, f13⟩, hV⟩
    subst hV
    subst hds
    obtain ⟨u', hu⟩ := frame_fun hsz
    obtain ⟨u, rfl⟩ : ∃ x, x = u' := ⟨_, rfl⟩
    have hu' : t = #[u 0, u 1, u 2, u 3, u 4, u 5, u 6, u 7, u 8, u 9, u 10, u 11, u 12, u 13, u 14, u 15, u 16, u 17, u 18, u 19, u 20, u 21, u 22, u 23, u 24, u 25, u 26, u 27, u 28, u 29, u 30, u 31, u 32, u 33, u 34, u 35, u 36, u 37, u 38, u 39, u 40, u 41, u 42, u 43, u 44, u 45, u 46, u 47, u 48, u 49, u 50, u 51, u 52, u 53, u 54, u 55, u 56, u 57, u 58, u 59, u 60, u 61, u 62, u 63, u 64, u 65, u 66, u 67, u 68, u 69, u 70, u 71, u 72, u 73, u 74, u 75, u 76, u 77, u 78, u 79, u 80, u 81, u 82, u 83, u 84, u 85, u 86, u 87, u 88, u 89, u 90, u 91, u 92, u 93, u 94, u 95] := hu
    clear hu
    subst hu'
    change u 1 = _ at f1
    change u 2 = _ at f2
    change u 5 = _ at f5
    change u 9 = _ at f9
    change u 10 = _ at f10
    change u 12 = _ at f12
    change u 13 = _ at f13
    rw [f1, f2, f5, f9, f10, f12, f13]
    clear f1 f2 f5 f9 f10 f12 f13 hsz
    by_cases hin : i < n + 1
    · have h2 : (i : Int) ≤ (n : Int) := by omega
      have h3 : (i : Int) < (n : Int) + 1 := by omega
      have hk1 : k ≤ i := by
        have := List.length_filter_le (fun a => R a e) (List.range i)
        rw [hk] at this
        simpa using this
      have hnext : ((List.range (i + 1)).filter (fun a => R a e)).length = k + if R i e = true then 1 else 0 := by
        rw [List.range_succ, List.filter_append, List.length_append, hk]
        by_cases hq : R i e = true
        · rw [if_pos hq]; simp [hq]
        · rw [if_neg hq]; simp [hq]
      obtain ⟨gi, ci, d1, d2⟩ := HG5.out i hin
      have d3 := d2 e hen
      clear d2
      obtain ⟨rb, hrb⟩ : ∃ r, R i e = r := ⟨_, rfl⟩
      rw [hrb] at d3 hnext
      have hgo := HAT.out i (by omega)
      rw [hrb, hk] at hgo
      have HNX := Lib.hid hnext; have HGO := Lib.hid hgo
      clear hnext hgo hrb hk
      cases rb
      · go_wp2
        first | exact ⟨⟨i + 1, k, by omega, HNX.out, by first | rfl | trivial, ⟨rfl, rfl, rfl, rfl, rfl, rfl, rfl, rfl⟩, by first | rfl | trivial⟩, by simp [intOf]; omega⟩ | exact ⟨⟨i + 1, k, by omega, HNX.out, by simp⟩, by simp [intOf]; omega⟩
      · obtain ⟨hkl, g, off, rfl, d4⟩ := HGO.out rfl
        have h4 : ¬ ((Ln : Int) ≤ (k : Int)) := by omega
        have h5 : (k : Int) < (Ln : Int) := by omega
        go_wp2
        first | exact ⟨⟨i + 1, k + 1, by omega, HNX.out, by first | rfl | trivial, ⟨rfl, rfl, rfl, rfl, rfl, rfl, rfl, rfl⟩, by first | rfl | trivial⟩, by simp [intOf]; omega⟩ | exact ⟨⟨i + 1, by omega, by have h := HNX.out; simp only [if_true] at h; omega, by simp⟩, by simp [intOf]; omega⟩
    · obtain rfl : i = n + 1 := by omega
      have h2 : ¬ (((n + 1 : Nat) : Int) ≤ (n : Int)) := by omega
      obtain rfl : k = Ln := by rw [← hk]; exact HLN.out
      clear hk
      go_wp2
      first | exact ⟨⟨e + 1, by omega, by first | rfl | trivial, ⟨rfl, rfl, rfl, rfl, rfl⟩, hE45⟩, by simp [intOf]; omega⟩ | exact ⟨⟨e + 1, by omega, by simp⟩, by simp [intOf]; omega⟩
  · obtain rfl : e = n + 1 := by omega
    have h1 : ¬ (((n + 1 : Nat) : Int) ≤ (n : Int)) := by omega
    have hE05 := hE04.trans hE
    go_wp2_with fail
    refine (HWO.out _ hE05).mono ?_
    rintro ex w6 ⟨rfl, hE6⟩
    have hE06 := hE05.trans hE6
    clear hE6
    go_wp2
    go_ret
    exact ⟨rfl, hE06⟩
end Go.Proofs.YtapfoaiibjdfnaaDoor
