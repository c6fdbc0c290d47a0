/- ablautlaw06.PatsEnds: the walk. -/
import Derived.Test.YtapfoaiibjdfnaaDoorRefEnds
import Derived.Test.YtapfoaiibjdfnaaDoorWorks6
namespace Go.Proofs.YtapfoaiibjdfnaaDoor
open Go.RowKit Go.Ab
attribute [local go_sem] Oper.semAt_some wide_fn wide_depth

set_option maxRecDepth 100000 in
set_option maxHeartbeats 8000000 in
theorem ends_law (w : World) (hT : Tab w) {p : Pat} {cs : List Value} {v : Value} {ws : Wd} (hp : PatAt (fun g => g < w.heap.size) w p cs) (hv : WordAt w v ws) (at' : Int) :
    Calls Tryd.prog 3 #[.agg cs.toArray, v, .int .i64 at'] w fun e w' => e = .returned (.bool true) ∧ Ext w w' := by
  have hK : ∀ (V : World), Ext w V → ∀ g, g < w.heap.size → g < V.heap.size := fun V hE g h => Nat.lt_of_lt_of_le h hE.size
  have hen := fun (V : World) (hE : Ext w V) => ends_any (hp.ext hE) (hK V hE) (hv.ext hE) (hT.keep hE id) at'
  have hbe := fun (V : World) (hE : Ext w V) => begins_any (hp.ext hE) (hK V hE) (hv.ext hE) (hT.keep hE id) at'
  have hre := fun (V : World) (hE : Ext w V) => refends_any (hp.ext hE) (hv.ext hE) at'
  have hrb := fun (V : World) (hE : Ext w V) => refbegins_any (hp.ext hE) (hv.ext hE) at'
  have hwo := fun (V : World) (hE : Ext w V) => works_any V (hT.keep hE id)
  obtain ⟨ao, cap, rfl, hlc, hcm, _⟩ := patAt_cells hp
  obtain ⟨bo, bcap, rfl, hbm⟩ := hv.slice
  have HEN := Lib.hid hen; have HBE := Lib.hid hbe; have HRE := Lib.hid hre; have HRB := Lib.hid hrb; have HWO := Lib.hid hwo
  clear hen hbe hre hrb hwo hp hlc hcm hv hT hK
  obtain ⟨z, hz⟩ : ∃ z, placeE p ws at' = z := ⟨_, rfl⟩
  obtain ⟨L, hL⟩ : ∃ L, endL p ws at' = L := ⟨_, rfl⟩
  obtain ⟨M, hM⟩ : ∃ L, begL p ws at' = L := ⟨_, rfl⟩
  obtain ⟨n, hN⟩ : ∃ n, ws.length = n := ⟨_, rfl⟩
  rw [hz] at HEN HBE HRE HRB
  rw [hL] at HEN HRE
  rw [hM] at HBE HRB
  rw [hN] at HEN HBE HRE HRB hbm ⊢
  clear hz hL hM hN
  unfold maxLen at hbm
  unfold patCells at HEN HBE HRE HRB ⊢
  go_enter Tryd.func3, Tryd.ntmps3
  by_cases h300 : 300 < n
  · have g0 : (300 : Int) < (n : Int) := by omega
    go_wp2_with fail
    have hE0 : Ext w (w.alloc (.cells #[.int .i64 p.k, .int .u32 (p.pl : Int), .int .u32 (p.mi : Int), .bool p.nt, .int .i64 p.mn, .int .i64 p.mx, .slice ao p.l.length cap] 27)) := (Turn.refl _ w).alloc _
    refine (HWO.out _ hE0).mono ?_
    rintro e w3 ⟨rfl, hE3⟩
    have hE03 := hE0.trans hE3
    clear hE3 hE0
    go_wp2
    go_ret
    exact ⟨rfl, hE03⟩
  have g0 : ¬ (300 : Int) < (n : Int) := by omega
  go_wp2_with fail
  have hx0 : (w.alloc (.cells #[.int .i64 p.k, .int .u32 (p.pl : Int), .int .u32 (p.mi : Int), .bool p.nt, .int .i64 p.mn, .int .i64 p.mx, .slice ao p.l.length cap] 27)).heap[w.heap.size]? = some (.cells #[.int .i64 p.k, .int .u32 (p.pl : Int), .int .u32 (p.mi : Int), .bool p.nt, .int .i64 p.mn, .int .i64 p.mx, .slice ao p.l.length cap] 27 (0, 0)) := new_at rfl
  have hE0 : Ext w (w.alloc (.cells #[.int .i64 p.k, .int .u32 (p.pl : Int), .int .u32 (p.mi : Int), .bool p.nt, .int .i64 p.mn, .int .i64 p.mx, .slice ao p.l.length cap] 27)) := (Turn.refl _ w).alloc _
  generalize (w.alloc (.cells #[.int .i64 p.k, .int .u32 (p.pl : Int), .int .u32 (p.mi : Int), .bool p.nt, .int .i64 p.mn, .int .i64 p.mx, .slice ao p.l.length cap] 27)) = w1 at hx0 hE0 ⊢
  generalize w.heap.size = B at hx0 ⊢
  refine (HEN.out _ hE0).mono ?_
  rintro e w2 ⟨u1, rfl, hO1, hE2⟩
  have E := hE0.trans hE2
  have hx := hE2.keep hx0
  have r1 := Rd.of_own hO1
  obtain ⟨ao1, cp1, rfl⟩ := own_slice hO1
  clear hE2 hx0 hE0 hO1
  have cX := fun j => cell_of_row _ _ j _ _ _ hx
  go_wp2_with fail
  refine (HRE.out _ E).mono ?_
  rintro e w3 ⟨u2, rfl, hO2, hE2⟩
  replace E := E.trans hE2
  replace hx := hE2.keep hx
  replace r1 := r1.ext hE2
  have r2 := Rd.of_own hO2
  obtain ⟨ao2, cp2, rfl⟩ := own_slice hO2
  clear hE2 hO2 cX
  have cX := fun j => cell_of_row _ _ j _ _ _ hx
  go_wp2_with fail
  refine (HBE.out _ E).mono ?_
  rintro e w4 ⟨u3, rfl, hO3, hE2⟩
  replace E := E.trans hE2
  replace hx := hE2.keep hx
  replace r1 := r1.ext hE2
  replace r2 := r2.ext hE2
  have r3 := Rd.of_own hO3
  obtain ⟨ao3, cp3, rfl⟩ := own_slice hO3
  clear hE2 hO3 cX
  have cX := fun j => cell_of_row _ _ j _ _ _ hx
  go_wp2_with fail
  refine (HRB.out _ E).mono ?_
  rintro e w5 ⟨u4, rfl, hO4, hE2⟩
  replace E := E.trans hE2
  replace r1 := r1.ext hE2
  replace r2 := r2.ext hE2
  replace r3 := r3.ext hE2
  have r4 := Rd.of_own hO4
  obtain ⟨ao4, cp4, rfl⟩ := own_slice hO4
  clear hE2 hO4 cX hx
  go_wp2_with fail
  have hc := places_any r1 r2
  rw [decide_eq_true rfl] at hc
  refine hc.mono ?_
  clear hc
  rintro e w6 ⟨rfl, hE2⟩
  replace E := E.trans hE2
  replace r3 := r3.ext hE2
  replace r4 := r4.ext hE2
  clear hE2 r1 r2
  go_wp2_with fail
  have hc := places_any r3 r4
  rw [decide_eq_true rfl] at hc
  refine hc.mono ?_
  clear hc
  rintro e w7 ⟨rfl, hE2⟩
  replace E := E.trans hE2
  clear hE2 r3 r4
  go_wp2_with fail
  refine (HWO.out _ E).mono ?_
  rintro e w8 ⟨rfl, hE2⟩
  replace E := E.trans hE2
  clear hE2
  go_wp2
  go_ret
  exact ⟨rfl, E⟩
end Go.Proofs.YtapfoaiibjdfnaaDoor
