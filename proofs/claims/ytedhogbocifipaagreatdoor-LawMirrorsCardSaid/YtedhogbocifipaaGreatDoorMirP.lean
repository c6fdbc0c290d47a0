/- pats.Mirror. -/
import Derived.Test.YtedhogbocifipaaGreatDoorMirror
set_option maxRecDepth 100000
set_option maxHeartbeats 16000000
namespace Go.Proofs.YtedhogbocifipaaGreatDoor
open Go.RowKit Go.Ab
attribute [local go_sem] Oper.semAt_some wide_fn wide_depth

theorem pat_result2 {fn : Func} {p u : Tmp} (h : fn.results = #[.cell p 27, .tmp u]) {tmps : Array Value} {w : World} {g : Nat} {cs : Array Value} (hp : tmps.getD p undef = .pointer (some ⟨g, 0, none⟩)) (hg : w.heap[g]? = some (.cells cs 27 (0, 0))) (hi : (Tryz.prog.info? 27).map (·.size) = some cs.size) :
  (results fn tmps).run Tryz.prog w = .ok (.tuple #[.agg cs, tmps.getD u undef]) w := by
 have hp' : tmps[p]?.getD undef = .pointer (some ⟨g, 0, none⟩) := by simpa using hp
 simp [results, h, hp', asAddr, run_loadVar_row w g _ _ _ _ _ hg Tryz.underlying27 rfl hi]

theorem mirror_any {K : Nat → Prop} {w : World} {p : Pat} {cs : List Value} (hp : PatAt K w p cs) (hK : ∀ g, K g → g < w.heap.size) (hT : Tab w) :
  Calls Tryz.prog 70 #[.agg cs.toArray] w fun e w' => ∃ ds : List Value, e = .returned (.tuple #[.agg ds.toArray, .int .i64 (chkP p)]) ∧
   (chkP p = 0 → PatSep 27 w' (mirP p) ds (fun b => w.heap.size ≤ b ∧ b < w'.heap.size)) ∧ (chkP p ≠ 0 → ds = patCells 0 0 0 false 0 0 none 0 0) ∧ Ext w w' := by
 have hck := fun (V : World) (hE : Ext w V) => check_any (K := K) (hp.ext hE) (fun g hg => Nat.lt_of_lt_of_le (hK g hg) hE.size) (hT.keep hE id)
 have hmi := fun (V : World) (hE : Ext w V) (h : chkP p = 0) => mirror_all p K V cs (hp.ext hE) (chkP_ok h)
 obtain ⟨ao, cap, rfl, hlc, hcm, _⟩ := patAt_cells hp
 have HCK := Lib.hid hck; have HMI := Lib.hid hmi
 clear hck hmi hp hlc hcm hT hK
 obtain ⟨z, hz⟩ : ∃ z, chkP p = z := ⟨_, rfl⟩
 obtain ⟨mp, hmp⟩ : ∃ m, mirP p = m := ⟨_, rfl⟩
 rw [hz] at HCK HMI ⊢
 rw [hmp] at HMI ⊢
 clear hz hmp
 unfold patCells at HCK HMI
 rw [show patCells p.k p.pl p.mi p.nt p.mn p.mx ao p.l.length cap = [.int .i64 p.k, .int .u32 (p.pl : Int), .int .u32 (p.mi : Int), .bool p.nt, .int .i64 p.mn, .int .i64 p.mx, .slice ao p.l.length cap] from rfl]
 go_enter Tryz.func70, Tryz.ntmps70
 go_wp2_with fail
 have hx : ((w.alloc (.cells #[.int .i64 p.k, .int .u32 (p.pl : Int), .int .u32 (p.mi : Int), .bool p.nt, .int .i64 p.mn, .int .i64 p.mx, .slice ao p.l.length cap] 27)).alloc (.cells #[.int .i64 0, .int .u32 0, .int .u32 0, .bool false, .int .i64 0, .int .i64 0, .slice none 0 0] 27)).heap[w.heap.size]? = some (.cells #[.int .i64 p.k, .int .u32 (p.pl : Int), .int .u32 (p.mi : Int), .bool p.nt, .int .i64 p.mn, .int .i64 p.mx, .slice ao p.l.length cap] 27 (0, 0)) := new_keep (new_at rfl)
 have hy : ((w.alloc (.cells #[.int .i64 p.k, .int .u32 (p.pl : Int), .int .u32 (p.mi : Int), .bool p.nt, .int .i64 p.mn, .int .i64 p.mx, .slice ao p.l.length cap] 27)).alloc (.cells #[.int .i64 0, .int .u32 0, .int .u32 0, .bool false, .int .i64 0, .int .i64 0, .slice none 0 0] 27)).heap[w.heap.size + 1]? = some (.cells #[.int .i64 0, .int .u32 0, .int .u32 0, .bool false, .int .i64 0, .int .i64 0, .slice none 0 0] 27 (0, 0)) := new_at (by simp)
 have hE1 : Ext w ((w.alloc (.cells #[.int .i64 p.k, .int .u32 (p.pl : Int), .int .u32 (p.mi : Int), .bool p.nt, .int .i64 p.mn, .int .i64 p.mx, .slice ao p.l.length cap] 27)).alloc (.cells #[.int .i64 0, .int .u32 0, .int .u32 0, .bool false, .int .i64 0, .int .i64 0, .slice none 0 0] 27)) := ((Turn.refl _ w).alloc _).alloc _
 refine (HCK.out _ hE1).mono ?_
 generalize ((w.alloc (.cells #[.int .i64 p.k, .int .u32 (p.pl : Int), .int .u32 (p.mi : Int), .bool p.nt, .int .i64 p.mn, .int .i64 p.mx, .slice ao p.l.length cap] 27)).alloc (.cells #[.int .i64 0, .int .u32 0, .int .u32 0, .bool false, .int .i64 0, .int .i64 0, .slice none 0 0] 27)) = w1 at hx hy hE1 ⊢
 obtain ⟨B, hB⟩ : ∃ B, w.heap.size = B := ⟨_, rfl⟩
 rw [hB] at hx hy ⊢
 have HB := Lib.hid hB
 clear hB
 rintro e w2 ⟨rfl, hE2⟩
 have hE02 := hE1.trans hE2
 have hx2 := hE2.keep hx
 have hy2 := hE2.keep hy
 have hB2 : B + 1 < w2.heap.size := (Array.getElem?_eq_some_iff.1 hy2).1
 clear hE2 hx hy hE1 HCK
 have cX := fun j => cell_of_row _ _ j _ _ _ hx2
 have HY2 := Lib.hid hy2; have HX2 := Lib.hid hx2
 clear hy2 hx2
 by_cases hz0 : z = 0
 ·subst hz0
  have HM2 := Lib.hid (HMI.out w2 hE02 rfl)
  clear HMI
  go_wp2_with fail
  refine HM2.out.mono ?_
  rintro e w3 ⟨ds, rfl, hS, hE3⟩
  have hy3 := hE3.keep HY2.out
  have hE03 := hE02.trans hE3
  obtain ⟨k, pl, mi, nt, mn, mx, eo, n, ec, rfl⟩ := sep_cells hS
  have HS := Lib.hid hS; have HY3 := Lib.hid hy3
  clear hS hy3 cX HM2 hE3
  unfold patCells
  go_wp2_with (refine wpList_store_row rfl 27 (.tmp 2) (.tmp 12) rfl (B + 1) (patCells k pl mi nt mn mx eo n ec).toArray rfl rfl _ _ HY3.out (by kernel_rfl) rfl (all_oneCell_toArray patCells_one) ?_)
  have hT9 := Turn.setRow w3 (B + 1) (patCells k pl mi nt mn mx eo n ec).toArray
  have hS9 := HS.out.keep hT9 (fun b hb e => by omega)
  refine bodyPost_ret (pat_result2 (p := 2) (u := 3) rfl rfl (setRow_heap _ _ _ _ _ _ HY3.out) (by kernel_rfl)) rfl ?_
  refine ⟨patCells k pl mi nt mn mx eo n ec, rfl, ?_, ?_⟩
  ·refine hS9.mono fun b hb => ?_
   have := hT9.size
   have := hE02.size
   omega
  ·exact hE03.after hT9 (fun b h1 e => by have := HB.out; omega)
 ·have gz : (z == 0) = false := by rw [beq_eq_false_iff_ne]; exact hz0
  clear HMI
  go_wp2_with (refine wpList_store_row rfl 27 (.tmp 2) (.tmp 9) rfl (B + 1) (patCells 0 0 0 false 0 0 none 0 0).toArray rfl rfl _ _ HY2.out (by kernel_rfl) rfl (all_oneCell_toArray patCells_one) ?_)
  have hT9 := Turn.setRow w2 (B + 1) (patCells 0 0 0 false 0 0 none 0 0).toArray
  refine bodyPost_ret (pat_result2 (p := 2) (u := 3) rfl rfl (setRow_heap _ _ _ _ _ _ HY2.out) (by kernel_rfl)) rfl ?_
  refine ⟨patCells 0 0 0 false 0 0 none 0 0, rfl, fun h => absurd h hz0, fun _ => rfl, ?_⟩
  exact hE02.after hT9 (fun b h1 e => by have := HB.out; omega)
end Go.Proofs.YtedhogbocifipaaGreatDoor
