/- ablautref02.Copy, Equal; ablautlaw06.PatsFinds: the walk. -/
import Derived.Test.YtapfoaiibjdfnaaDoorRefFind
import Derived.Test.YtapfoaiibjdfnaaDoorWorks6
namespace Go.Proofs.YtapfoaiibjdfnaaDoor
open Go.RowKit Go.Ab
attribute [local go_sem] Oper.semAt_some wide_fn wide_depth

theorem Tryd.infoSnd : (Tryd.prog.info? 24).map (fun i => (i.zero, i.size, i.bytes)) = some (some (.agg #[.int .u32 0, .int .u32 0]), 2, 8) := by kernel_rfl

set_option maxRecDepth 100000 in
set_option maxHeartbeats 4000000 in
theorem wcopy_any {w : World} {v : Value} {ws : Wd} (hv : WordAt w v ws) (hl : ws.length ≤ 300) :
    Calls Tryd.prog 20 #[v] w fun e w' => ∃ u, e = .returned u ∧ WordAt w' u ws ∧ Ext w w' := by
  obtain ⟨ao, cap, rfl, hlm⟩ := hv.slice
  have HV := Lib.hid hv
  have hok := hv.2
  clear hv hlm
  obtain ⟨N, hN⟩ : ∃ N, ws.length = N := ⟨_, rfl⟩
  have HN := Lib.hid hN
  have HOK := Lib.hid hok
  rw [hN] at hl
  show Calls Tryd.prog 20 #[.slice ao ws.length cap] w _
  rw [hN]
  clear hN hok
  go_enter Tryd.func20, Tryd.ntmps20
  go_wp2
  refine wp_loop (fun a W => ∃ (k : Nat) (v3 : Value), k ≤ N ∧ a.defers = [] ∧ (a.tmps.size = 19 ∧ a.tmps.getD 0 undef = .slice ao N cap ∧ a.tmps.getD 3 undef = v3 ∧ a.tmps.getD 4 undef = .int .i64 k) ∧ W.ownsRow w.heap.size 24 2 v3 k (sndL (ws.take k)) ∧ Ext w W)
    (fun a _ => N - (intOf (a.tmps.getD 4 undef)).toNat) ?_ ?_
  · exact ⟨0, _, by omega, rfl, ⟨rfl, rfl, rfl, rfl⟩, World.ownsRow_nil _ _ _ _, Turn.refl _ _⟩
  rintro ⟨t, _⟩ W ⟨k, v3, hk, hds, ⟨hsz, f0, f3, f4⟩, hO, hE⟩
  subst hds
  obtain ⟨u', hu⟩ := frame_fun hsz
  obtain ⟨u, rfl⟩ : ∃ x, x = u' := ⟨_, rfl⟩
  have hu' : t = #[u 0, u 1, u 2, u 3, u 4, u 5, u 6, u 7, u 8, u 9, u 10, u 11, u 12, u 13, u 14, u 15, u 16, u 17, u 18] := hu
  clear hu
  subst hu'
  change u 0 = _ at f0
  change u 3 = _ at f3
  change u 4 = _ at f4
  rw [f0, f3, f4]
  clear f0 f3 f4 hsz
  have HO := Lib.hid hO
  clear hO
  by_cases hkN : k < N
  · have h1 : (k : Int) < (N : Int) := by omega
    have hkl : k < ws.length := by rw [HN.out]; exact hkN
    obtain ⟨g, off, cap', he, hg, d1, d2⟩ := (HV.out.ext hE).at hkl
    simp only [Value.slice.injEq] at he
    obtain ⟨hbo, hq', hcc⟩ := he
    clear hq'
    subst hbo
    subst hcc
    obtain ⟨a, ha⟩ : ∃ a, (ws.getD k (0, 0)).1 = a := ⟨_, rfl⟩
    obtain ⟨b, hb⟩ : ∃ b, (ws.getD k (0, 0)).2 = b := ⟨_, rfl⟩
    rw [ha] at d1
    rw [hb] at d2
    have htk : sndL (ws.take (k + 1)) = sndL (ws.take k) ++ [.int .u32 (a : Int), .int .u32 (b : Int)] := by
      rw [List.take_succ_eq_append_getElem hkl, sndL_append]
      have h0 : ws.getD k (0, 0) = ws[k] := by rw [List.getD_eq_getElem?_getD, List.getElem?_eq_getElem hkl]; rfl
      have : ws[k] = (a, b) := by rw [← h0, ← ha, ← hb]
      rw [this]; rfl
    have HTK := Lib.hid htk
    have hwb := hE.size
    clear ha hb htk hg
    go_wp2_with (at_builtin; refine append_row rfl (.tmp 11) (.tmp 16) 28 rfl w.heap.size 24 _ 2 8 Tryd.underlying28 Tryd.infoSnd rfl (by decide) _ _ _ rfl (own_ext HO.out ((Turn.refl _ W).alloc (.cells #[.int .u32 (a : Int), .int .u32 (b : Int)] 24))) ⟨W.heap.size, 0, none⟩ 1 1 [.int .u32 (a : Int), .int .u32 (b : Int)] rfl rfl (new_cells' rfl) ?c2 ?c3 ?c4 ?c5 ?_)
    case c2 => first | rfl | (intro u hu; simp only [List.mem_cons, List.not_mem_nil, or_false] at hu; rcases hu with rfl | rfl <;> rfl)
    case c3 => unfold maxLen; omega
    case c4 => omega
    case c5 => first | omega | (simp; omega)
    intro ao5 c5 w5 hO5 hT5 _
    have hT6 : Turn (fun b' => v3.ownBlock = some b') W w5 := Turn.trans (Turn.alloc (Turn.refl _ W) _) hT5
    have hE5 := hE.after hT6 (fun b' h1 e => by have := (HO.out.lt _ e).1; omega)
    rw [← HTK.out] at hO5
    have HO5 := Lib.hid hO5
    clear hT5 hT6 hO5 hE d1 d2 hwb
    go_wp2
    exact ⟨⟨k + 1, _, by omega, by first | rfl | trivial, ⟨rfl, rfl, rfl, rfl⟩, HO5.out, hE5⟩, by simp [intOf]; omega⟩
  · obtain rfl : k = N := by omega
    have h1 : ¬ (k : Int) < (k : Int) := by omega
    have hfin : WordAt W v3 ws := by
      have := HO.out
      rw [List.take_of_length_le (by rw [HN.out]; exact Nat.le_refl _)] at this
      refine ⟨?_, HOK.out⟩
      rw [HN.out]
      exact Rd.of_own this
    have HF := Lib.hid hfin
    clear hfin
    go_wp2
    go_ret
    exact ⟨_, rfl, HF.out, hE⟩

set_option maxRecDepth 100000 in
set_option maxHeartbeats 4000000 in
theorem wequal_any {w : World} {u v : Value} {ws : Wd} (hu : WordAt w u ws) (hv : WordAt w v ws) :
    Calls Tryd.prog 25 #[u, v] w fun e w' => e = .returned (.bool true) ∧ Ext w w' := by
  obtain ⟨ao, cap, rfl, hlm⟩ := hu.slice
  obtain ⟨bo, bcap, rfl, _⟩ := hv.slice
  unfold maxLen at hlm
  have HU := Lib.hid hu; have HV := Lib.hid hv
  clear hu hv
  obtain ⟨N, hN⟩ : ∃ N, ws.length = N := ⟨_, rfl⟩
  have HN := Lib.hid hN
  show Calls Tryd.prog 25 #[.slice ao ws.length cap, .slice bo ws.length bcap] w _
  rw [hN] at hlm ⊢
  clear hN
  go_enter Tryd.func25, Tryd.ntmps25
  go_wp2
  refine wp_loop (fun a W => ∃ (k : Nat), k ≤ N ∧ a.defers = [] ∧ (a.tmps.size = 26 ∧ a.tmps.getD 0 undef = .slice ao N cap ∧ a.tmps.getD 1 undef = .slice bo N bcap ∧ a.tmps.getD 5 undef = .int .i64 k) ∧ Ext w W)
    (fun a _ => N - (intOf (a.tmps.getD 5 undef)).toNat) ?_ ?_
  · exact ⟨0, by omega, rfl, ⟨rfl, rfl, rfl, rfl⟩, Turn.refl _ _⟩
  rintro ⟨t, _⟩ W ⟨k, hk, hds, ⟨hsz, f0, f1, f5⟩, hE⟩
  subst hds
  obtain ⟨u', hu⟩ := frame_fun hsz
  obtain ⟨u, rfl⟩ : ∃ x, x = u' := ⟨_, rfl⟩
  have hu' : t = #[u 0, u 1, u 2, u 3, u 4, u 5, u 6, u 7, u 8, u 9, u 10, u 11, u 12, u 13, u 14, u 15, u 16, u 17, u 18, u 19, u 20, u 21, u 22, u 23, u 24, u 25] := hu
  clear hu
  subst hu'
  change u 0 = _ at f0
  change u 1 = _ at f1
  change u 5 = _ at f5
  rw [f0, f1, f5]
  clear f0 f1 f5 hsz
  by_cases hkN : k < N
  · have h1 : (k : Int) < (N : Int) := by omega
    have hkl : k < ws.length := by rw [HN.out]; exact hkN
    obtain ⟨g, off, cap', he, hg, d1, d2⟩ := (HU.out.ext hE).at hkl
    simp only [Value.slice.injEq] at he
    obtain ⟨hbo, hq', hcc⟩ := he
    clear hq'
    subst hbo
    subst hcc
    obtain ⟨g2, off2, cap2, he, hg2, e1, e2⟩ := (HV.out.ext hE).at hkl
    simp only [Value.slice.injEq] at he
    obtain ⟨hbo, hq', hcc⟩ := he
    clear hq'
    subst hbo
    subst hcc
    obtain ⟨a, ha⟩ : ∃ a, (ws.getD k (0, 0)).1 = a := ⟨_, rfl⟩
    obtain ⟨b, hb⟩ : ∃ b, (ws.getD k (0, 0)).2 = b := ⟨_, rfl⟩
    rw [ha] at d1 e1
    rw [hb] at d2 e2
    clear ha hb hg hg2
    go_wp2
    go_quiet (fail)
    go_wp2
    first | exact ⟨⟨k + 1, by omega, by first | rfl | trivial, ⟨rfl, rfl, rfl, rfl⟩, hE.drewN _⟩, by simp [intOf]; omega⟩ | exact ⟨⟨k + 1, by omega, by simp⟩, by simp [intOf]; omega⟩
  · obtain rfl : k = N := by omega
    have h1 : ¬ (k : Int) < (k : Int) := by omega
    go_wp2
    go_ret
    exact ⟨rfl, hE⟩

set_option maxRecDepth 100000 in
set_option maxHeartbeats 8000000 in
theorem finds_law (w : World) (hT : Tab w) {p : Pat} {cs : List Value} {v : Value} {ws : Wd} (hp : PatAt (fun g => g < w.heap.size) w p cs) (hv : WordAt w v ws) (at' : Int) :
    Calls Tryd.prog 4 #[.agg cs.toArray, v, .int .i64 at'] w fun e w' => e = .returned (.bool true) ∧ Ext w w' := by
  have hK : ∀ (V : World), Ext w V → ∀ g, g < w.heap.size → g < V.heap.size := fun V hE g h => Nat.lt_of_lt_of_le h hE.size
  have hmono : Mono ws.length (relR p ws) := by
    unfold relR
    split
    · exact relP_mono ws p
    · exact Mono.no _
  have hma := fun (V : World) (hE : Ext w V) => matches_any (hp.ext hE) (hK V hE) (hv.ext hE) (hT.keep hE id)
  have hfi := fun (V : World) (hE : Ext w V) => find_any (hp.ext hE) (hK V hE) (hv.ext hE) (hT.keep hE id) at'
  have hrm := fun (V : World) (hE : Ext w V) => refmatches_any (hp.ext hE) (hv.ext hE)
  have hrf := fun (V : World) (hE : Ext w V) => reffind_any (hp.ext hE) (hv.ext hE) at'
  have hcp := fun (V : World) (hE : Ext w V) (hl : ws.length ≤ 300) => wcopy_any (hv.ext hE) hl
  have heq := fun (V : World) (u : Value) (hE : Ext w V) (hu : WordAt V u ws) => wequal_any (hv.ext hE) hu
  have hwo := fun (V : World) (hE : Ext w V) => works_any V (hT.keep hE id)
  obtain ⟨ao, cap, rfl, hlc, hcm, _⟩ := patAt_cells hp
  obtain ⟨bo, bcap, rfl, hbm⟩ := hv.slice
  have HMA := Lib.hid hma; have HFI := Lib.hid hfi; have HRM := Lib.hid hrm; have HRF := Lib.hid hrf; have HCP := Lib.hid hcp; have HEQ := Lib.hid heq; have HWO := Lib.hid hwo; have HMO := Lib.hid hmono
  clear hma hfi hrm hrf hcp heq hwo hp hlc hcm hv hT hK hmono
  obtain ⟨z, hz⟩ : ∃ z, placeE p ws at' = z := ⟨_, rfl⟩
  obtain ⟨y, hy⟩ : ∃ z, relE p ws = z := ⟨_, rfl⟩
  obtain ⟨mv, hmv⟩ : ∃ z, matV p ws = z := ⟨_, rfl⟩
  obtain ⟨R, hR⟩ : ∃ L, relR p ws = L := ⟨_, rfl⟩
  obtain ⟨n, hN⟩ : ∃ n, ws.length = n := ⟨_, rfl⟩
  have HN := Lib.hid hN
  rw [hz, hR] at HFI HRF
  rw [hmv, hy] at HMA HRM
  rw [hR] at HMO
  rw [hN] at HMA HFI HRM HRF HCP HEQ HMO hbm ⊢
  clear hz hy hmv hR hN
  unfold maxLen at hbm
  unfold patCells at HMA HFI HRM HRF ⊢
  go_enter Tryd.func4, Tryd.ntmps4
  by_cases h300 : 300 < n
  · have g0 : (300 : Int) < (n : Int) := by omega
    go_wp2_with fail
    have hE0 : Ext w (w.alloc (.cells #[.int .i64 p.k, .int .u32 (p.pl : Int), .int .u32 (p.mi : Int), .bool p.nt, .int .i64 p.mn, .int .i64 p.mx, .slice ao p.l.length cap] 27)) := (Turn.refl _ w).alloc _
    refine (HWO.out _ hE0).mono ?_
    rintro e w3 ⟨rfl, hE3⟩
    have hE03 := hE0.trans hE3
    clear hE3 hE0
    go_wp2
    go_ret
    exact ⟨rfl, hE03⟩
  have g0 : ¬ (300 : Int) < (n : Int) := by omega
  go_wp2_with fail
  have hx0 : (w.alloc (.cells #[.int .i64 p.k, .int .u32 (p.pl : Int), .int .u32 (p.mi : Int), .bool p.nt, .int .i64 p.mn, .int .i64 p.mx, .slice ao p.l.length cap] 27)).heap[w.heap.size]? = some (.cells #[.int .i64 p.k, .int .u32 (p.pl : Int), .int .u32 (p.mi : Int), .bool p.nt, .int .i64 p.mn, .int .i64 p.mx, .slice ao p.l.length cap] 27 (0, 0)) := new_at rfl
  have hE0 : Ext w (w.alloc (.cells #[.int .i64 p.k, .int .u32 (p.pl : Int), .int .u32 (p.mi : Int), .bool p.nt, .int .i64 p.mn, .int .i64 p.mx, .slice ao p.l.length cap] 27)) := (Turn.refl _ w).alloc _
  generalize (w.alloc (.cells #[.int .i64 p.k, .int .u32 (p.pl : Int), .int .u32 (p.mi : Int), .bool p.nt, .int .i64 p.mn, .int .i64 p.mx, .slice ao p.l.length cap] 27)) = w1 at hx0 hE0 ⊢
  generalize w.heap.size = B at hx0 ⊢
  refine (HCP.out _ hE0 (by omega)).mono ?_
  rintro e w2 ⟨u1, rfl, r1, hE2⟩
  have E := hE0.trans hE2
  have hx := hE2.keep hx0
  have R1 := Lib.hid r1
  clear hE2 hx0 hE0 r1
  have cX := fun j => cell_of_row _ _ j _ _ _ hx
  go_wp2_with fail
  refine (HMA.out _ E).mono ?_
  rintro e w3 ⟨rfl, hE2⟩
  replace E := E.trans hE2
  replace hx := hE2.keep hx
  replace R1 := Lib.hid (R1.out.ext hE2)
  clear hE2 cX
  have cX := fun j => cell_of_row _ _ j _ _ _ hx
  go_wp2_with fail
  refine (HRM.out _ E).mono ?_
  rintro e w4 ⟨rfl, hE2⟩
  replace E := E.trans hE2
  replace hx := hE2.keep hx
  replace R1 := Lib.hid (R1.out.ext hE2)
  clear hE2 cX
  have cX := fun j => cell_of_row _ _ j _ _ _ hx
  go_wp2_with fail
  refine (HFI.out _ E).mono ?_
  rintro e w5 ⟨hF1, hE2⟩
  obtain ⟨x1, y1, ok1, rfl, hf1⟩ := hF1
  replace E := E.trans hE2
  replace hx := hE2.keep hx
  replace R1 := Lib.hid (R1.out.ext hE2)
  have F1 := Lib.hid hf1
  clear hE2 cX hf1
  have cX := fun j => cell_of_row _ _ j _ _ _ hx
  go_wp2_with fail
  refine (HRF.out _ E).mono ?_
  rintro e w6 ⟨hF2, hE2⟩
  obtain ⟨x2, y2, ok2, rfl, hf2⟩ := hF2
  replace E := E.trans hE2
  replace R1 := Lib.hid (R1.out.ext hE2)
  have hsame : x1 = x2 ∧ y1 = y2 ∧ ok1 = ok2 := by
    have h1 := F1.out
    by_cases hz0 : z = 0
    · rw [if_pos hz0] at h1 hf2
      exact findIs_unique HMO.out h1 hf2
    · rw [if_neg hz0] at h1 hf2
      exact ⟨h1.1.trans hf2.1.symm, h1.2.1.trans hf2.2.1.symm, h1.2.2.trans hf2.2.2.symm⟩
  obtain ⟨rfl, rfl, rfl⟩ := hsame
  clear hE2 cX hx hf2 F1
  have hb1 : ∀ b : Bool, (b == b) = true := by decide
  have hm1 := hb1 mv
  have hm2 := hb1 ok1
  clear hb1
  go_wp2_with fail
  refine (HEQ.out _ _ E R1.out).mono ?_
  rintro e w7 ⟨rfl, hE2⟩
  replace E := E.trans hE2
  clear hE2
  go_wp2_with fail
  refine (HWO.out _ E).mono ?_
  rintro e w8 ⟨rfl, hE2⟩
  replace E := E.trans hE2
  clear hE2
  go_wp2
  go_ret
  exact ⟨rfl, E⟩
end Go.Proofs.YtapfoaiibjdfnaaDoor
