/- ablautlaw06.PatsEmpty: the walk. -/
import Derived.Test.YtapfoaiibjdfnaaDoorGoodC
namespace Go.Proofs.YtapfoaiibjdfnaaDoor
open Go.RowKit Go.Ab
attribute [local go_sem] Oper.semAt_some wide_fn wide_depth

set_option maxRecDepth 100000 in
set_option maxHeartbeats 8000000 in
theorem empty_law (w : World) (hT : Tab w) {p : Pat} {cs : List Value} {v : Value} {ws : Wd} (hp : PatAt (fun g => g < w.heap.size) w p cs) (hv : WordAt w v ws) :
    Calls Tryd.prog 6 #[.agg cs.toArray, v] w fun e w' => e = .returned (.bool true) ∧ Ext w w' := by
  have hK : ∀ (V : World), Ext w V → ∀ g, g < w.heap.size → g < V.heap.size := fun V hE g h => Nat.lt_of_lt_of_le h hE.size
  have hgd := fun (V : World) (hE : Ext w V) => good_any (hp.ext hE) (hK V hE) (hv.ext hE) (hT.keep hE id)
  have hou := fun (V : World) (hE : Ext w V) (h : relE p ws = 0) => outs_any (hp.ext hE) (hK V hE) (hv.ext hE) (hT.keep hE id) h
  have hem := fun (V : World) (hE : Ext w V) (h : relE p ws = 0) => empty_good (hp.ext hE) (hK V hE) (hT.keep hE id) h
  have hlaw : goodV p ws = true → relE p ws = 0 ∧ ws.length ≤ 32 ∧ (∀ a, 0 < a → a < ws.length → relP ws p a a = emptyP p) ∧ (emptyP p = true → relP ws p 0 0 = true ∧ relP ws p ws.length ws.length = true) := by
    intro h
    have h0 := goodV_iff.1 h
    have hl := goodV_len h
    obtain ⟨h1, h2⟩ := emptyP_law ws hl p (good_allN h0)
    exact ⟨h0, hl, fun a a0 a1 => Bool.eq_iff_iff.2 (h1 a a0 a1), fun h => ⟨h2 0 (by omega) h, h2 _ (Nat.le_refl _) h⟩⟩
  have hwo := fun (V : World) (hE : Ext w V) => works_any V (hT.keep hE id)
  obtain ⟨ao, cap, rfl, hlc, hcm, _⟩ := patAt_cells hp
  obtain ⟨bo, bcap, rfl, hbm⟩ := hv.slice
  have HGD := Lib.hid hgd; have HOU := Lib.hid hou; have HEM := Lib.hid hem; have HWO := Lib.hid hwo; have HLAW := Lib.hid hlaw
  clear hgd hou hem hwo hlaw hp hlc hcm hv hT hK
  obtain ⟨R, hR⟩ : ∃ R, relP ws p = R := ⟨_, rfl⟩
  obtain ⟨eb, heb⟩ : ∃ b, emptyP p = b := ⟨_, rfl⟩
  obtain ⟨gb, hgb⟩ : ∃ b, goodV p ws = b := ⟨_, rfl⟩
  obtain ⟨n, hN⟩ : ∃ n, ws.length = n := ⟨_, rfl⟩
  obtain ⟨z, hz⟩ : ∃ z, relE p ws = z := ⟨_, rfl⟩
  rw [hgb] at HGD HLAW
  rw [hz] at HOU HEM HLAW
  rw [hR] at HOU HLAW
  rw [heb] at HEM HLAW
  rw [hN] at HGD HOU HLAW hbm ⊢
  clear hR heb hgb hN hz
  unfold maxLen at hbm
  unfold patCells at HGD HOU HEM ⊢
  go_enter Tryd.func6, Tryd.ntmps6
  go_wp2_with fail
  have hx0 : (w.alloc (.cells #[.int .i64 p.k, .int .u32 (p.pl : Int), .int .u32 (p.mi : Int), .bool p.nt, .int .i64 p.mn, .int .i64 p.mx, .slice ao p.l.length cap] 27)).heap[w.heap.size]? = some (.cells #[.int .i64 p.k, .int .u32 (p.pl : Int), .int .u32 (p.mi : Int), .bool p.nt, .int .i64 p.mn, .int .i64 p.mx, .slice ao p.l.length cap] 27 (0, 0)) := new_at rfl
  have hE0 : Ext w (w.alloc (.cells #[.int .i64 p.k, .int .u32 (p.pl : Int), .int .u32 (p.mi : Int), .bool p.nt, .int .i64 p.mn, .int .i64 p.mx, .slice ao p.l.length cap] 27)) := (Turn.refl _ w).alloc _
  generalize (w.alloc (.cells #[.int .i64 p.k, .int .u32 (p.pl : Int), .int .u32 (p.mi : Int), .bool p.nt, .int .i64 p.mn, .int .i64 p.mx, .slice ao p.l.length cap] 27)) = w1 at hx0 hE0 ⊢
  generalize w.heap.size = B at hx0 ⊢
  refine (HGD.out _ hE0).mono ?_
  rintro e w2 ⟨rfl, hE2⟩
  have hE02 := hE0.trans hE2
  have hx2 := hE2.keep hx0
  clear hE2 hx0 hE0
  cases gb
  · go_wp2_with fail
    refine (HWO.out _ hE02).mono ?_
    rintro e w3 ⟨rfl, hE3⟩
    have hE03 := hE02.trans hE3
    clear hE3
    go_wp2
    go_ret
    exact ⟨rfl, hE03⟩
  obtain ⟨rfl, hn, hl1, hl2⟩ := HLAW.out rfl
  have HL1 := Lib.hid hl1; have HL2 := Lib.hid hl2
  clear hl1 hl2 HLAW
  have cX := fun j => cell_of_row _ _ j _ _ _ hx2
  go_wp2_with fail
  refine (HOU.out _ hE02 (by first | rfl | trivial)).mono ?_
  rintro e w3 ⟨u, rfl, hG, hE3⟩
  obtain ⟨gu, cu, rfl, hGC⟩ := Grid.open hG
  have hE03 := hE02.trans hE3
  have hx3 := hE3.keep hx2
  have HG := Lib.hid hGC
  have HX := Lib.hid hx3
  clear hE3 hx2 hE02 cX hG hGC hx3
  go_wp2
  refine wp_loop (fun a W => ∃ (k : Nat), 1 ≤ k ∧ (k ≤ n ∨ k = 1) ∧ a.defers = [] ∧ (a.tmps.size = 61 ∧ a.tmps.getD 1 undef = .slice bo n bcap ∧ a.tmps.getD 2 undef = .pointer (some ⟨B, 0, none⟩) ∧ a.tmps.getD 5 undef = .slice (some ⟨gu, 0, none⟩) (n + 1) cu ∧ a.tmps.getD 7 undef = .int .i64 k) ∧ Ext w3 W)
    (fun a _ => n - (intOf (a.tmps.getD 7 undef)).toNat) ?_ ?_
  · exact ⟨1, by omega, by omega, rfl, ⟨rfl, rfl, rfl, rfl, rfl⟩, Turn.refl _ _⟩
  rintro ⟨t, _⟩ W ⟨k, hk1, hk, hds, ⟨hsz, f1, f2, f5, f7⟩, hE⟩
  subst hds
  obtain ⟨u', hu⟩ := frame_fun hsz
  obtain ⟨u, rfl⟩ : ∃ x, x = u' := ⟨_, rfl⟩
  have hu' : t = #[u 0, u 1, u 2, u 3, u 4, u 5, u 6, u 7, u 8, u 9, u 10, u 11, u 12, u 13, u 14, u 15, u 16, u 17, u 18, u 19, u 20, u 21, u 22, u 23, u 24, u 25, u 26, u 27, u 28, u 29, u 30, u 31, u 32, u 33, u 34, u 35, u 36, u 37, u 38, u 39, u 40, u 41, u 42, u 43, u 44, u 45, u 46, u 47, u 48, u 49, u 50, u 51, u 52, u 53, u 54, u 55, u 56, u 57, u 58, u 59, u 60] := hu
  clear hu
  subst hu'
  change u 1 = _ at f1
  change u 2 = _ at f2
  change u 5 = _ at f5
  change u 7 = _ at f7
  rw [f1, f2, f5, f7]
  clear f1 f2 f5 f7 hsz
  by_cases hkn : k < n
  · have h1 : (k : Int) < (n : Int) := by omega
    have h2 : (k : Int) < (n : Int) + 1 := by omega
    have h3 : (0 : Int) ≤ (k : Int) := by omega
    have hl := HL1.out k (by omega) hkn
    have hcs : ∃ g1 c1, ∀ D, Ext W D → D.cell? ⟨gu, k, none⟩ = some (.slice (some ⟨g1, 0, none⟩) (n + 1) c1) ∧ D.cell? ⟨g1, k, none⟩ = some (.bool eb) ∧ D.cell? ⟨B, 0, none⟩ = some (.int .i64 p.k) ∧ D.cell? ⟨B, 1, none⟩ = some (.int .u32 (p.pl : Int)) ∧ D.cell? ⟨B, 2, none⟩ = some (.int .u32 (p.mi : Int)) ∧ D.cell? ⟨B, 3, none⟩ = some (.bool p.nt) ∧ D.cell? ⟨B, 4, none⟩ = some (.int .i64 p.mn) ∧ D.cell? ⟨B, 5, none⟩ = some (.int .i64 p.mx) ∧ D.cell? ⟨B, 6, none⟩ = some (.slice ao p.l.length cap) := by
      obtain ⟨g1, c1, d1, d2⟩ := (GridC.ext HG.out hE) k (by omega)
      have d2 := d2 k (by omega)
      rw [hl] at d2
      refine ⟨g1, c1, fun D hD => ⟨hD.cell_some d1 id, hD.cell_some d2 id, ?_⟩⟩
      have hx := hD.keep (hE.keep HX.out)
      simp [World.cell?, hx]
    obtain ⟨g1, c1, hcs⟩ := hcs
    have HS := Lib.hid hcs
    clear hcs hl
    go_wp2
    go_region_held3 (fun D => D.cell? ⟨gu, k, none⟩ = some (.slice (some ⟨g1, 0, none⟩) (n + 1) c1) ∧ D.cell? ⟨g1, k, none⟩ = some (.bool eb) ∧ D.cell? ⟨B, 0, none⟩ = some (.int .i64 p.k) ∧ D.cell? ⟨B, 1, none⟩ = some (.int .u32 (p.pl : Int)) ∧ D.cell? ⟨B, 2, none⟩ = some (.int .u32 (p.mi : Int)) ∧ D.cell? ⟨B, 3, none⟩ = some (.bool p.nt) ∧ D.cell? ⟨B, 4, none⟩ = some (.int .i64 p.mn) ∧ D.cell? ⟨B, 5, none⟩ = some (.int .i64 p.mx) ∧ D.cell? ⟨B, 6, none⟩ = some (.slice ao p.l.length cap))
      ((refine HS.out _ ?_; first | exact Turn.refl _ _ | exact Turn.drew (Turn.refl _ _) | assumption)) (first | (go_at_call 28; refine (HEM.out _ (hE03.trans (hE.trans (Turn.drew (Turn.refl _ _)))) (by first | rfl | trivial)).mono ?_; rintro e w5 ⟨rfl, hE5⟩; have hE5 : Ext W w5 := Turn.trans (Turn.drew (Turn.refl _ _)) hE5))
    have hE6 := hE.trans hE5
    clear hE5 HS
    go_wp2
    exact ⟨⟨k + 1, by omega, by omega, by first | rfl | trivial, ⟨rfl, rfl, rfl, rfl, rfl⟩, hE6⟩, by simp [intOf]; omega⟩
  · have h1 : ¬ (k : Int) < (n : Int) := by omega
    have hx := hE.keep HX.out
    have cX := fun j => cell_of_row _ _ j _ _ _ hx
    have hEW := hE03.trans hE
    go_wp2_with fail
    refine (HEM.out _ hEW (by first | rfl | trivial)).mono ?_
    rintro e w5 ⟨rfl, hE5⟩
    have hE05 := hEW.trans hE5
    have hG5 := GridC.ext HG.out (hE.trans hE5)
    have HG5 := Lib.hid hG5
    clear hx cX hEW hE5 hE hG5
    cases eb
    · go_wp2_with fail
      refine (HWO.out _ hE05).mono ?_
      rintro e w6 ⟨rfl, hE6⟩
      have hE06 := hE05.trans hE6
      clear hE6
      go_wp2
      go_ret
      exact ⟨rfl, hE06⟩
    · obtain ⟨r0, rn⟩ := HL2.out rfl
      obtain ⟨ga, ca, a1, a2⟩ := HG5.out 0 (by omega)
      obtain ⟨gb, cb, b1, b2⟩ := HG5.out n (by omega)
      have a3 := a2 0 (by omega)
      have b3 := b2 n (by omega)
      rw [r0] at a3
      rw [rn] at b3
      clear r0 rn a2 b2
      have q1 : (n : Int) < (n : Int) + 1 := by omega
      go_wp2_with fail
      refine (HWO.out _ hE05).mono ?_
      rintro e w6 ⟨rfl, hE6⟩
      have hE06 := hE05.trans hE6
      clear hE6
      go_wp2
      go_ret
      exact ⟨rfl, hE06⟩
end Go.Proofs.YtapfoaiibjdfnaaDoor
