/- ablautlaw06.PatsFirst: the walk. -/
import Derived.Test.YtapfoaiibjdfnaaDoorGoodC
namespace Go.Proofs.YtapfoaiibjdfnaaDoor
open Go.RowKit Go.Ab
attribute [local go_sem] Oper.semAt_some wide_fn wide_depth

set_option maxRecDepth 100000 in
set_option maxHeartbeats 8000000 in
theorem first_law (w : World) (hT : Tab w) {p : Pat} {cs : List Value} {v : Value} {ws : Wd} (hp : PatAt (fun g => g < w.heap.size) w p cs) (hv : WordAt w v ws) (fr : Int) (hf0 : 0 ≤ fr) (hf1 : fr ≤ 255) :
    Calls Tryd.prog 7 #[.agg cs.toArray, v, .int .u8 fr] w fun e w' => e = .returned (.bool true) ∧ Ext w w' := by
  have hK : ∀ (V : World), Ext w V → ∀ g, g < w.heap.size → g < V.heap.size := fun V hE g h => Nat.lt_of_lt_of_le h hE.size
  have hgd := fun (V : World) (hE : Ext w V) => good_any (hp.ext hE) (hK V hE) (hv.ext hE) (hT.keep hE id)
  have hou := fun (V : World) (hE : Ext w V) (h : relE p ws = 0) => outs_any (hp.ext hE) (hK V hE) (hv.ext hE) (hT.keep hE id) h
  have hfi := fun (V : World) (hE : Ext w V) (h : relE p ws = 0) (k : Nat) (hk : k ≤ ws.length) => find_good (hp.ext hE) (hK V hE) (hv.ext hE) (hT.keep hE id) h hk
  have hlaw : goodV p ws = true → relE p ws = 0 ∧ ws.length ≤ 32 ∧ Mono ws.length (relP ws p) := fun h => ⟨goodV_iff.1 h, goodV_len h, relP_mono ws p⟩
  have hwo := fun (V : World) (hE : Ext w V) => works_any V (hT.keep hE id)
  obtain ⟨ao, cap, rfl, hlc, hcm, _⟩ := patAt_cells hp
  obtain ⟨bo, bcap, rfl, hbm⟩ := hv.slice
  have HGD := Lib.hid hgd; have HOU := Lib.hid hou; have HFI := Lib.hid hfi; have HWO := Lib.hid hwo; have HLAW := Lib.hid hlaw
  clear hgd hou hfi hwo hlaw hp hlc hcm hv hT hK
  obtain ⟨R, hR⟩ : ∃ R, relP ws p = R := ⟨_, rfl⟩
  obtain ⟨gb, hgb⟩ : ∃ b, goodV p ws = b := ⟨_, rfl⟩
  obtain ⟨n, hN⟩ : ∃ n, ws.length = n := ⟨_, rfl⟩
  obtain ⟨z, hz⟩ : ∃ z, relE p ws = z := ⟨_, rfl⟩
  rw [hgb] at HGD HLAW
  rw [hz] at HOU HFI HLAW
  rw [hR] at HOU HLAW HFI
  rw [hN] at HGD HOU HLAW HFI hbm ⊢
  clear hR hgb hN hz
  unfold maxLen at hbm
  unfold patCells at HGD HOU HFI ⊢
  obtain ⟨f, rfl⟩ := Int.eq_ofNat_of_zero_le hf0
  have hm : f % (n + 1) ≤ n := by have := Nat.mod_lt f (show 0 < n + 1 by omega); omega
  obtain ⟨m, hmm⟩ : ∃ m, f % (n + 1) = m := ⟨_, rfl⟩
  have hmi : ((f : Int).tmod ((n : Int) + 1)) = (m : Int) := by
    rw [← hmm]; rfl
  rw [hmm] at hm
  have HMI := Lib.hid hmi
  clear hmi hmm hf0
  go_enter Tryd.func7, Tryd.ntmps7
  go_wp2_with fail
  have hx0 : (w.alloc (.cells #[.int .i64 p.k, .int .u32 (p.pl : Int), .int .u32 (p.mi : Int), .bool p.nt, .int .i64 p.mn, .int .i64 p.mx, .slice ao p.l.length cap] 27)).heap[w.heap.size]? = some (.cells #[.int .i64 p.k, .int .u32 (p.pl : Int), .int .u32 (p.mi : Int), .bool p.nt, .int .i64 p.mn, .int .i64 p.mx, .slice ao p.l.length cap] 27 (0, 0)) := new_at rfl
  have hE0 : Ext w (w.alloc (.cells #[.int .i64 p.k, .int .u32 (p.pl : Int), .int .u32 (p.mi : Int), .bool p.nt, .int .i64 p.mn, .int .i64 p.mx, .slice ao p.l.length cap] 27)) := (Turn.refl _ w).alloc _
  generalize (w.alloc (.cells #[.int .i64 p.k, .int .u32 (p.pl : Int), .int .u32 (p.mi : Int), .bool p.nt, .int .i64 p.mn, .int .i64 p.mx, .slice ao p.l.length cap] 27)) = w1 at hx0 hE0 ⊢
  generalize w.heap.size = B at hx0 ⊢
  refine (HGD.out _ hE0).mono ?_
  rintro e w2 ⟨rfl, hE2⟩
  have hE02 := hE0.trans hE2
  have hx2 := hE2.keep hx0
  clear hE2 hx0 hE0
  cases gb
  · go_wp2_with fail
    refine (HWO.out _ hE02).mono ?_
    rintro e w3 ⟨rfl, hE3⟩
    have hE03 := hE02.trans hE3
    clear hE3
    go_wp2
    go_ret
    exact ⟨rfl, hE03⟩
  obtain ⟨rfl, hn, hmono⟩ := HLAW.out rfl
  have HM := Lib.hid hmono
  clear hmono HLAW
  have cX := fun j => cell_of_row _ _ j _ _ _ hx2
  have hmi := HMI.out
  have hn1 : ¬ (n : Int) + 1 = 0 := by omega
  go_wp2_with fail
  clear hmi hn1
  refine (HFI.out _ hE02 (by first | rfl | trivial) m hm).mono ?_
  rintro e w3 ⟨⟨x, y, ok, rfl, hF⟩, hE3⟩
  have hE03 := hE02.trans hE3
  have hx3 := hE3.keep hx2
  have HF := Lib.hid hF
  clear hE3 hx2 hE02 cX hF
  have cX := fun j => cell_of_row _ _ j _ _ _ hx3
  go_wp2_with fail
  refine (HOU.out _ hE03 (by first | rfl | trivial)).mono ?_
  rintro e w4 ⟨u, rfl, hG, hE4⟩
  obtain ⟨gu, cu, rfl, hGC⟩ := Grid.open hG
  have hE04 := hE03.trans hE4
  have HG := Lib.hid hGC
  clear hE4 hx3 hE03 cX hG hGC
  rcases HF.out with ⟨rfl, rfl, rfl, hno⟩ | ⟨rfl, fa, fb, rfl, rfl, ha1, ha2, hab, hbef, hmax⟩
  · clear HF
    have HNO := Lib.hid hno
    clear hno
    go_wp2
    refine wp_loop (fun a W => ∃ (i : Nat), m ≤ i ∧ i ≤ n + 1 ∧ a.defers = [] ∧ (a.tmps.size = 129 ∧ a.tmps.getD 1 undef = .slice bo n bcap ∧ a.tmps.getD 7 undef = .int .i64 m ∧ a.tmps.getD 8 undef = .int .i64 0 ∧ a.tmps.getD 9 undef = .int .i64 0 ∧ a.tmps.getD 10 undef = .bool false ∧ a.tmps.getD 12 undef = .slice (some ⟨gu, 0, none⟩) (n + 1) cu ∧ a.tmps.getD 14 undef = .int .i64 i) ∧ W = w4)
      (fun a _ => n + 1 - (intOf (a.tmps.getD 14 undef)).toNat) ?_ ?_
    · exact ⟨m, Nat.le_refl _, by omega, rfl, ⟨rfl, rfl, rfl, rfl, rfl, rfl, rfl, rfl⟩, rfl⟩
    rintro ⟨t, _⟩ W ⟨i, hi1, hi2, hds, ⟨hsz, f1, f7, f8, f9, f10, f12, f14⟩, hW⟩
    subst hW
    subst hds
    obtain ⟨u', hu⟩ := frame_fun hsz
    obtain ⟨u, rfl⟩ : ∃ x, x = u' := ⟨_, rfl⟩
    have hu' : t = #[u 0, u 1, u 2, u 3, u 4, u 5, u 6, u 7, u 8, u 9, u 10, u 11, u 12, u 13, u 14, u 15, u 16, u 17, u 18, u 19, u 20, u 21, u 22, u 23, u 24, u 25, u 26, u 27, u 28, u 29, u 30, u 31, u 32, u 33, u 34, u 35, u 36, u 37, u 38, u 39, u 40, u 41, u 42, u 43, u 44, u 45, u 46, u 47, u 48, u 49, u 50, u 51, u 52, u 53, u 54, u 55, u 56, u 57, u 58, u 59, u 60, u 61, u 62, u 63, u 64, u 65, u 66, u 67, u 68, u 69, u 70, u 71, u 72, u 73, u 74, u 75, u 76, u 77, u 78, u 79, u 80, u 81, u 82, u 83, u 84, u 85, u 86, u 87, u 88, u 89, u 90, u 91, u 92, u 93, u 94, u 95, u 96, u 97, u 98, u 99, u 100, u 101, u 102, u 103, u 104, u 105, u 106, u 107, u 108, u 109, u 110, u 111, u 112, u 113, u 114, u 115, u 116, u 117, u 118, u 119, u 120, u 121, u 122, u 123, u 124, u 125, u 126, u 127, u 128] := hu
    clear hu
    subst hu'
    change u 1 = _ at f1
    change u 7 = _ at f7
    change u 8 = _ at f8
    change u 9 = _ at f9
    change u 10 = _ at f10
    change u 12 = _ at f12
    change u 14 = _ at f14
    rw [f1, f7, f8, f9, f10, f12, f14]
    clear f1 f7 f8 f9 f10 f12 f14 hsz
    by_cases hin : i < n + 1
    · have h1 : (i : Int) ≤ (n : Int) := by omega
      obtain ⟨gi, ci, d1, d2⟩ := HG.out i hin
      have D2 := Lib.hid d2
      clear d2
      go_wp2
      refine wp_loop (fun a V => ∃ (k : Nat), i ≤ k ∧ k ≤ n + 1 ∧ a.defers = [] ∧ (a.tmps.size = 129 ∧ a.tmps.getD 1 undef = .slice bo n bcap ∧ a.tmps.getD 7 undef = .int .i64 m ∧ a.tmps.getD 8 undef = .int .i64 0 ∧ a.tmps.getD 9 undef = .int .i64 0 ∧ a.tmps.getD 10 undef = .bool false ∧ a.tmps.getD 12 undef = .slice (some ⟨gu, 0, none⟩) (n + 1) cu ∧ a.tmps.getD 14 undef = .int .i64 i ∧ a.tmps.getD 15 undef = .int .i64 k) ∧ V = W)
        (fun a _ => n + 1 - (intOf (a.tmps.getD 15 undef)).toNat) ?_ ?_
      · exact ⟨i, Nat.le_refl _, by omega, rfl, ⟨rfl, rfl, rfl, rfl, rfl, rfl, rfl, rfl, rfl⟩, rfl⟩
      rintro ⟨t, _⟩ V ⟨k, hk1, hk2, hds, ⟨hsz, f1, f7, f8, f9, f10, f12, f14, f15⟩, hV⟩
      subst hV
      subst hds
      obtain ⟨u', hu⟩ := frame_fun hsz
      obtain ⟨u, rfl⟩ : ∃ x, x = u' := ⟨_, rfl⟩
      have hu' : t = #[u 0, u 1, u 2, u 3, u 4, u 5, u 6, u 7, u 8, u 9, u 10, u 11, u 12, u 13, u 14, u 15, u 16, u 17, u 18, u 19, u 20, u 21, u 22, u 23, u 24, u 25, u 26, u 27, u 28, u 29, u 30, u 31, u 32, u 33, u 34, u 35, u 36, u 37, u 38, u 39, u 40, u 41, u 42, u 43, u 44, u 45, u 46, u 47, u 48, u 49, u 50, u 51, u 52, u 53, u 54, u 55, u 56, u 57, u 58, u 59, u 60, u 61, u 62, u 63, u 64, u 65, u 66, u 67, u 68, u 69, u 70, u 71, u 72, u 73, u 74, u 75, u 76, u 77, u 78, u 79, u 80, u 81, u 82, u 83, u 84, u 85, u 86, u 87, u 88, u 89, u 90, u 91, u 92, u 93, u 94, u 95, u 96, u 97, u 98, u 99, u 100, u 101, u 102, u 103, u 104, u 105, u 106, u 107, u 108, u 109, u 110, u 111, u 112, u 113, u 114, u 115, u 116, u 117, u 118, u 119, u 120, u 121, u 122, u 123, u 124, u 125, u 126, u 127, u 128] := hu
      clear hu
      subst hu'
      change u 1 = _ at f1
      change u 7 = _ at f7
      change u 8 = _ at f8
      change u 9 = _ at f9
      change u 10 = _ at f10
      change u 12 = _ at f12
      change u 14 = _ at f14
      change u 15 = _ at f15
      rw [f1, f7, f8, f9, f10, f12, f14, f15]
      clear f1 f7 f8 f9 f10 f12 f14 f15 hsz
      by_cases hkn : k < n + 1
      · have h2 : (k : Int) ≤ (n : Int) := by omega
        have h3 : (i : Int) < (n : Int) + 1 := by omega
        have h4 : (k : Int) < (n : Int) + 1 := by omega
        have d3 := D2.out k hkn
        rw [HNO.out i k hi1 (by omega)] at d3
        go_wp2
        first | exact ⟨⟨k + 1, by omega, by omega, by first | rfl | trivial, ⟨rfl, rfl, rfl, rfl, rfl, rfl, rfl, rfl, rfl⟩, by first | rfl | trivial⟩, by simp [intOf]; omega⟩ | exact ⟨⟨k + 1, by omega, by omega, by simp⟩, by simp [intOf]; omega⟩
      · obtain rfl : k = n + 1 := by omega
        have h2 : ¬ (((n + 1 : Nat) : Int) ≤ (n : Int)) := by omega
        go_wp2
        first | exact ⟨⟨i + 1, by omega, by omega, by first | rfl | trivial, ⟨rfl, rfl, rfl, rfl, rfl, rfl, rfl, rfl⟩, by first | rfl | trivial⟩, by simp [intOf]; omega⟩ | exact ⟨⟨i + 1, by omega, by omega, by simp⟩, by simp [intOf]; omega⟩
    · obtain rfl : i = n + 1 := by omega
      have h1 : ¬ (((n + 1 : Nat) : Int) ≤ (n : Int)) := by omega
      go_wp2_with fail
      refine (HWO.out _ hE04).mono ?_
      rintro e w6 ⟨rfl, hE6⟩
      have hE06 := hE04.trans hE6
      clear hE6
      go_wp2
      go_ret
      exact ⟨rfl, hE06⟩
  · clear HF
    have hb1 := HM.out fa fb hab
    have hmx : ∀ j, R fa j = true → j ≤ fb := hmax
    have HBE := Lib.hid hbef; have HMX := Lib.hid hmx
    clear hbef hmax hmx
    go_wp2
    refine wp_loop (fun a W => ∃ (i : Nat), m ≤ i ∧ i ≤ n + 1 ∧ a.defers = [] ∧ (a.tmps.size = 129 ∧ a.tmps.getD 1 undef = .slice bo n bcap ∧ a.tmps.getD 7 undef = .int .i64 m ∧ a.tmps.getD 8 undef = .int .i64 (fa : Int) ∧ a.tmps.getD 9 undef = .int .i64 (fb : Int) ∧ a.tmps.getD 10 undef = .bool true ∧ a.tmps.getD 12 undef = .slice (some ⟨gu, 0, none⟩) (n + 1) cu ∧ a.tmps.getD 14 undef = .int .i64 i) ∧ W = w4)
      (fun a _ => n + 1 - (intOf (a.tmps.getD 14 undef)).toNat) ?_ ?_
    · exact ⟨m, Nat.le_refl _, by omega, rfl, ⟨rfl, rfl, rfl, rfl, rfl, rfl, rfl, rfl⟩, rfl⟩
    rintro ⟨t, _⟩ W ⟨i, hi1, hi2, hds, ⟨hsz, f1, f7, f8, f9, f10, f12, f14⟩, hW⟩
    subst hW
    subst hds
    obtain ⟨u', hu⟩ := frame_fun hsz
    obtain ⟨u, rfl⟩ : ∃ x, x = u' := ⟨_, rfl⟩
    have hu' : t = #[u 0, u 1, u 2, u 3, u 4, u 5, u 6, u 7, u 8, u 9, u 10, u 11, u 12, u 13, u 14, u 15, u 16, u 17, u 18, u 19, u 20, u 21, u 22, u 23, u 24, u 25, u 26, u 27, u 28, u 29, u 30, u 31, u 32, u 33, u 34, u 35, u 36, u 37, u 38, u 39, u 40, u 41, u 42, u 43, u 44, u 45, u 46, u 47, u 48, u 49, u 50, u 51, u 52, u 53, u 54, u 55, u 56, u 57, u 58, u 59, u 60, u 61, u 62, u 63, u 64, u 65, u 66, u 67, u 68, u 69, u 70, u 71, u 72, u 73, u 74, u 75, u 76, u 77, u 78, u 79, u 80, u 81, u 82, u 83, u 84, u 85, u 86, u 87, u 88, u 89, u 90, u 91, u 92, u 93, u 94, u 95, u 96, u 97, u 98, u 99, u 100, u 101, u 102, u 103, u 104, u 105, u 106, u 107, u 108, u 109, u 110, u 111, u 112, u 113, u 114, u 115, u 116, u 117, u 118, u 119, u 120, u 121, u 122, u 123, u 124, u 125, u 126, u 127, u 128] := hu
    clear hu
    subst hu'
    change u 1 = _ at f1
    change u 7 = _ at f7
    change u 8 = _ at f8
    change u 9 = _ at f9
    change u 10 = _ at f10
    change u 12 = _ at f12
    change u 14 = _ at f14
    rw [f1, f7, f8, f9, f10, f12, f14]
    clear f1 f7 f8 f9 f10 f12 f14 hsz
    by_cases hin : i < n + 1
    · have h1 : (i : Int) ≤ (n : Int) := by omega
      obtain ⟨gi, ci, d1, d2⟩ := HG.out i hin
      have D2 := Lib.hid d2
      clear d2
      go_wp2
      refine wp_loop (fun a V => ∃ (k : Nat), i ≤ k ∧ k ≤ n + 1 ∧ a.defers = [] ∧ (a.tmps.size = 129 ∧ a.tmps.getD 1 undef = .slice bo n bcap ∧ a.tmps.getD 7 undef = .int .i64 m ∧ a.tmps.getD 8 undef = .int .i64 (fa : Int) ∧ a.tmps.getD 9 undef = .int .i64 (fb : Int) ∧ a.tmps.getD 10 undef = .bool true ∧ a.tmps.getD 12 undef = .slice (some ⟨gu, 0, none⟩) (n + 1) cu ∧ a.tmps.getD 14 undef = .int .i64 i ∧ a.tmps.getD 15 undef = .int .i64 k) ∧ V = W)
        (fun a _ => n + 1 - (intOf (a.tmps.getD 15 undef)).toNat) ?_ ?_
      · exact ⟨i, Nat.le_refl _, by omega, rfl, ⟨rfl, rfl, rfl, rfl, rfl, rfl, rfl, rfl, rfl⟩, rfl⟩
      rintro ⟨t, _⟩ V ⟨k, hk1, hk2, hds, ⟨hsz, f1, f7, f8, f9, f10, f12, f14, f15⟩, hV⟩
      subst hV
      subst hds
      obtain ⟨u', hu⟩ := frame_fun hsz
      obtain ⟨u, rfl⟩ : ∃ x, x = u' := ⟨_, rfl⟩
      have hu' : t = #[u 0, u 1, u 2, u 3, u 4, u 5, u 6, u 7, u 8, u 9, u 10, u 11, u 12, u 13, u 14, u 15, u 16, u 17, u 18, u 19, u 20, u 21, u 22, u 23, u 24, u 25, u 26, u 27, u 28, u 29, u 30, u 31, u 32, u 33, u 34, u 35, u 36, u 37, u 38, u 39, u 40, u 41, u 42, u 43, u 44, u 45, u 46, u 47, u 48, u 49, u 50, u 51, u 52, u 53, u 54, u 55, u 56, u 57, u 58, u 59, u 60, u 61, u 62, u 63, u 64, u 65, u 66, u 67, u 68, u 69, u 70, u 71, u 72, u 73, u 74, u 75, u 76, u 77, u 78, u 79, u 80, u 81, u 82, u 83, u 84, u 85, u 86, u 87, u 88, u 89, u 90, u 91, u 92, u 93, u 94, u 95, u 96, u 97, u 98, u 99, u 100, u 101, u 102, u 103, u 104, u 105, u 106, u 107, u 108, u 109, u 110, u 111, u 112, u 113, u 114, u 115, u 116, u 117, u 118, u 119, u 120, u 121, u 122, u 123, u 124, u 125, u 126, u 127, u 128] := hu
      clear hu
      subst hu'
      change u 1 = _ at f1
      change u 7 = _ at f7
      change u 8 = _ at f8
      change u 9 = _ at f9
      change u 10 = _ at f10
      change u 12 = _ at f12
      change u 14 = _ at f14
      change u 15 = _ at f15
      rw [f1, f7, f8, f9, f10, f12, f14, f15]
      clear f1 f7 f8 f9 f10 f12 f14 f15 hsz
      by_cases hkn : k < n + 1
      · have h2 : (k : Int) ≤ (n : Int) := by omega
        have h3 : (i : Int) < (n : Int) + 1 := by omega
        have h4 : (k : Int) < (n : Int) + 1 := by omega
        have d3 := D2.out k hkn
        obtain ⟨rb, hrb⟩ : ∃ r, R i k = r := ⟨_, rfl⟩
        rw [hrb] at d3
        have HRB := Lib.hid hrb
        clear hrb
        cases rb
        · go_wp2
          first | exact ⟨⟨k + 1, by omega, by omega, by first | rfl | trivial, ⟨rfl, rfl, rfl, rfl, rfl, rfl, rfl, rfl, rfl⟩, by first | rfl | trivial⟩, by simp [intOf]; omega⟩ | exact ⟨⟨k + 1, by omega, by omega, by simp⟩, by simp [intOf]; omega⟩
        · have g1 : ¬ ((i : Int) < (fa : Int)) := by
            intro h
            have := HBE.out i k hi1 (by omega)
            rw [HRB.out] at this; cases this
          by_cases hia : i = fa
          · have g2 : ((i : Int) == (fa : Int)) = true := by rw [beq_iff_eq]; omega
            have g3 : ¬ ((fb : Int) < (k : Int)) := by
              have := HMX.out k (by rw [← hia]; exact HRB.out)
              omega
            have HIA := Lib.hid hia
            clear hia
            go_wp2
            first | exact ⟨⟨k + 1, by omega, by omega, by first | rfl | trivial, ⟨rfl, rfl, rfl, rfl, rfl, rfl, rfl, rfl, rfl⟩, by first | rfl | trivial⟩, by simp [intOf]; omega⟩ | exact ⟨⟨k + 1, by omega, by omega, by simp⟩, by simp [intOf]; omega⟩
          · have g2 : ((i : Int) == (fa : Int)) = false := by rw [beq_eq_false_iff_ne]; omega
            have HIA := Lib.hid hia
            clear hia
            go_wp2
            first | exact ⟨⟨k + 1, by omega, by omega, by first | rfl | trivial, ⟨rfl, rfl, rfl, rfl, rfl, rfl, rfl, rfl, rfl⟩, by first | rfl | trivial⟩, by simp [intOf]; omega⟩ | exact ⟨⟨k + 1, by omega, by omega, by simp⟩, by simp [intOf]; omega⟩
      · obtain rfl : k = n + 1 := by omega
        have h2 : ¬ (((n + 1 : Nat) : Int) ≤ (n : Int)) := by omega
        go_wp2
        first | exact ⟨⟨i + 1, by omega, by omega, by first | rfl | trivial, ⟨rfl, rfl, rfl, rfl, rfl, rfl, rfl, rfl⟩, by first | rfl | trivial⟩, by simp [intOf]; omega⟩ | exact ⟨⟨i + 1, by omega, by omega, by simp⟩, by simp [intOf]; omega⟩
    · obtain rfl : i = n + 1 := by omega
      have h1 : ¬ (((n + 1 : Nat) : Int) ≤ (n : Int)) := by omega
      obtain ⟨gi, ci, d1, d2⟩ := HG.out fa (by omega)
      have d3 := d2 fb (by omega)
      rw [hab] at d3
      have h3 : (fa : Int) < (n : Int) + 1 := by omega
      have h4 : (fb : Int) < (n : Int) + 1 := by omega
      have h5 : (m : Int) ≤ (fa : Int) := by omega
      have h6 : (fa : Int) ≤ (fb : Int) := by omega
      have h7 : (fb : Int) ≤ (n : Int) := by omega
      clear d2 hab
      go_wp2_with fail
      refine (HWO.out _ hE04).mono ?_
      rintro e w6 ⟨rfl, hE6⟩
      have hE06 := hE04.trans hE6
      clear hE6
      go_wp2
      go_ret
      exact ⟨rfl, hE06⟩
end Go.Proofs.YtapfoaiibjdfnaaDoor
