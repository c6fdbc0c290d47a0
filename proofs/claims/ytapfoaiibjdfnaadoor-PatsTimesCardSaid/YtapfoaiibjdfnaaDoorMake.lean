/- ablautlaw06's p, a, v, c, seq. -/
import Derived.Test.YtapfoaiibjdfnaaDoorCheckP
namespace Go.Proofs.YtapfoaiibjdfnaaDoor
open Go.RowKit Go.Ab
attribute [local go_sem] Oper.semAt_some wide_fn wide_depth

theorem Tryd.patSize (cs : Array Value) (h : cs.size = 7) : (Tryd.prog.info? 27).map (·.size) = some cs.size := by rw [h]; kernel_rfl
theorem Tryd.sndSize (cs : Array Value) (h : cs.size = 2) : (Tryd.prog.info? 24).map (·.size) = some cs.size := by rw [h]; kernel_rfl
theorem snd_result {fn : Func} {p : Tmp} (h : fn.results = #[.cell p 24]) {tmps : Array Value} {w : World} {g : Nat} {cs : Array Value} (hs : cs.size = 2) (hp : tmps.getD p undef = .pointer (some ⟨g, 0, none⟩)) (hg : w.heap[g]? = some (.cells cs 24 (0, 0))) :
    (results fn tmps).run Tryd.prog w = .ok (.agg cs) w := results_cell_row h tmps w g _ _ _ _ hp hg Tryd.underlying24 rfl (Tryd.sndSize _ hs)
theorem pat_result {fn : Func} {p : Tmp} (h : fn.results = #[.cell p 27]) {tmps : Array Value} {w : World} {g : Nat} {cs : Array Value} (hs : cs.size = 7) (hp : tmps.getD p undef = .pointer (some ⟨g, 0, none⟩)) (hg : w.heap[g]? = some (.cells cs 27 (0, 0))) :
    (results fn tmps).run Tryd.prog w = .ok (.agg cs) w := results_cell_row h tmps w g _ _ _ _ hp hg Tryd.underlying27 rfl (Tryd.patSize _ hs)

theorem p_any (w : World) : Calls Tryd.prog 43 #[] w fun e w' => e = .returned (.agg #[.int .u32 2, .int .u32 5]) ∧ Ext w w' := by
  go_enter Tryd.func43, Tryd.ntmps43
  go_wp2
  exact bodyPost_ret (snd_result rfl rfl rfl (new_at rfl)) rfl ⟨rfl, (Turn.refl _ w).alloc _⟩
theorem a_any (w : World) : Calls Tryd.prog 45 #[] w fun e w' => e = .returned (.agg #[.int .u32 4, .int .u32 2]) ∧ Ext w w' := by
  go_enter Tryd.func45, Tryd.ntmps45
  go_wp2
  exact bodyPost_ret (snd_result rfl rfl rfl (new_at rfl)) rfl ⟨rfl, (Turn.refl _ w).alloc _⟩
theorem v_any (w : World) : Calls Tryd.prog 42 #[] w fun e w' => e = .returned (.agg (patCells 1 4 0 false 0 0 none 0 0).toArray) ∧ Ext w w' := by
  go_enter Tryd.func42, Tryd.ntmps42
  go_wp2
  exact bodyPost_ret (pat_result rfl rfl rfl (new_at rfl)) rfl ⟨rfl, (Turn.refl _ w).alloc _⟩
theorem c_any (w : World) : Calls Tryd.prog 46 #[] w fun e w' => e = .returned (.agg (patCells 1 2 0 false 0 0 none 0 0).toArray) ∧ Ext w w' := by
  go_enter Tryd.func46, Tryd.ntmps46
  go_wp2
  exact bodyPost_ret (pat_result rfl rfl rfl (new_at rfl)) rfl ⟨rfl, (Turn.refl _ w).alloc _⟩
theorem seq_any (ao : Option Addr) (n cap : Nat) (w : World) : Calls Tryd.prog 30 #[.slice ao n cap] w fun e w' => e = .returned (.agg (patCells 3 0 0 false 0 0 ao n cap).toArray) ∧ Ext w w' := by
  go_enter Tryd.func30, Tryd.ntmps30
  go_wp2
  exact bodyPost_ret (pat_result rfl rfl rfl (new_at rfl)) rfl ⟨rfl, (Turn.refl _ w).alloc _⟩

theorem rep_any {K : Nat → Prop} {w : World} {p : Pat} {cs : List Value} (hp : PatAt K w p cs) (lo hi : Int) :
    Calls Tryd.prog 31 #[.agg cs.toArray, .int .i64 lo, .int .i64 hi] w fun e w' => ∃ ds, e = .returned (.agg ds.toArray) ∧ PatAt (fun g => K g ∨ w.heap.size ≤ g) w' (.node 5 0 0 false lo hi [p]) ds ∧ Ext w w' := by
  have hp0 := hp
  obtain ⟨ao, cap, hc, hlc, hcm, _⟩ := patAt_cells hp
  rw [hc] at hp0 ⊢
  clear hc hp
  have HP := Lib.hid hp0
  obtain ⟨N, hN⟩ : ∃ N, p.l.length = N := ⟨_, rfl⟩
  rw [hN] at HP ⊢
  clear hp0 hlc hcm hN
  obtain ⟨k, hk⟩ : ∃ x, p.k = x := ⟨_, rfl⟩
  obtain ⟨pl, hpl⟩ : ∃ x, p.pl = x := ⟨_, rfl⟩
  obtain ⟨mi, hmi⟩ : ∃ x, p.mi = x := ⟨_, rfl⟩
  obtain ⟨nt, hnt⟩ : ∃ x, p.nt = x := ⟨_, rfl⟩
  obtain ⟨mn, hmn⟩ : ∃ x, p.mn = x := ⟨_, rfl⟩
  obtain ⟨mx, hmx⟩ : ∃ x, p.mx = x := ⟨_, rfl⟩
  rw [hk, hpl, hmi, hnt, hmn, hmx] at HP ⊢
  clear hk hpl hmi hnt hmn hmx
  unfold patCells
  go_enter Tryd.func31, Tryd.ntmps31
  go_wp2
  refine bodyPost_ret (pat_result (g := w.heap.size + 1) (cs := (patCells 5 0 0 false lo hi (some ⟨w.heap.size + 2, 0, none⟩) 1 1).toArray) rfl rfl rfl ?_) rfl ⟨patCells 5 0 0 false lo hi (some ⟨w.heap.size + 2, 0, none⟩) 1 1, rfl, ?_, ?_⟩
  · exact new_keep (new_at (by simp))
  · have hE : Ext w _ := (((Turn.refl (fun _ => False) w).alloc (.cells #[.int .i64 k, .int .u32 (pl : Int), .int .u32 (mi : Int), .bool nt, .int .i64 mn, .int .i64 mx, .slice ao N cap] 27)).alloc (.cells (patCells 5 0 0 false lo hi (some ⟨w.heap.size + 2, 0, none⟩) 1 1).toArray 27)).alloc (.cells #[.int .i64 k, .int .u32 (pl : Int), .int .u32 (mi : Int), .bool nt, .int .i64 mn, .int .i64 mx, .slice ao N cap] 27)
    have hp := (HP.out.mono (L := fun g => K g ∨ w.heap.size ≤ g) (fun g h => .inl h)).ext hE
    unfold PatAt
    refine ⟨_, _, rfl, by decide, by decide, by simp, by decide, PatsAt.mk fun j hj => ?_⟩
    obtain rfl : j = 0 := by simpa using hj
    refine ⟨w.heap.size + 2, 0, _, rfl, .inr (by omega), by simp, fun j v hv => ?_, hp⟩
    have := new_cells' (w := ((w.alloc (.cells #[.int .i64 k, .int .u32 (pl : Int), .int .u32 (mi : Int), .bool nt, .int .i64 mn, .int .i64 mx, .slice ao N cap] 27)).alloc (.cells (patCells 5 0 0 false lo hi (some ⟨w.heap.size + 2, 0, none⟩) 1 1).toArray 27))) (n := w.heap.size + 2) (t := 27) (by simp) j v hv
    rw [Addr.add_mid] at this
    have h2 : 0 + (0 + 0) * 7 + j = 0 + j := by omega
    rw [h2]
    exact this
  · exact (((Turn.refl _ w).alloc _).alloc _).alloc _
end Go.Proofs.YtapfoaiibjdfnaaDoor
