/- ablautref06.Empty. -/
import Derived.Test.YtapfoaiibjdfnaaDoorTableC
import Derived.Test.YtapfoaiibjdfnaaDoorMe
import Derived.Test.YtapfoaiibjdfnaaDoorMf
namespace Go.Proofs.YtapfoaiibjdfnaaDoor
open Go.RowKit Go.Ab
attribute [local go_sem] Oper.semAt_some wide_fn wide_depth

theorem Tryd.infoSndE : (Tryd.prog.info? 24).map (fun i => (i.zero, i.size, i.bytes)) = some (some (.agg #[.int .u32 0, .int .u32 0]), 2, 8) := by kernel_rfl
set_option maxRecDepth 100000 in
set_option maxHeartbeats 8000000 in
theorem refempty_any {K : Nat → Prop} {w : World} {p : Pat} {cs : List Value} (hp : PatAt K w p cs) :
    Calls Tryd.prog 35 #[.agg cs.toArray] w fun e w' => e = .returned (.bool (emptyV p)) ∧ Ext w w' := by
  have hck := fun (V : World) (hE : Ext w V) => refcheck_any (hp.ext hE)
  have htb := fun (V : World) (v : Value) (hE : Ext w V) (h : chkP p = 0) (hv : WordAt V v [(0, 0), (0, 0)]) => table_all p K V cs v [(0, 0), (0, 0)] (hp.ext hE) hv (by decide) ((chkP_zero p).1 h).1
  have hlaw : chkP p = 0 → relP [(0, 0), (0, 0)] p 1 1 = emptyV p := fun h => by
    have h1 := (emptyP_law [(0, 0), (0, 0)] (by decide) p ((chkP_zero p).1 h).1).1 1 (by omega) (by decide)
    unfold emptyV
    rw [decide_eq_true h, Bool.true_and]
    exact Bool.eq_iff_iff.2 h1
  have hbad : chkP p ≠ 0 → emptyV p = false := fun h => by unfold emptyV; rw [decide_eq_false h, Bool.false_and]
  obtain ⟨ao, cap, rfl, hlc, hcm, _⟩ := patAt_cells hp
  have HCK := Lib.hid hck; have HTB := Lib.hid htb; have HLAW := Lib.hid hlaw; have HBAD := Lib.hid hbad
  clear hck htb hlaw hbad hp hlc hcm
  obtain ⟨z, hz⟩ : ∃ z, chkP p = z := ⟨_, rfl⟩
  obtain ⟨R, hR⟩ : ∃ R, relP [(0, 0), (0, 0)] p = R := ⟨_, rfl⟩
  obtain ⟨eb, heb⟩ : ∃ b, emptyV p = b := ⟨_, rfl⟩
  rw [hz] at HCK HTB HLAW HBAD
  rw [hR] at HTB HLAW
  rw [heb] at HLAW HBAD ⊢
  clear hz hR heb
  unfold patCells at HCK HTB ⊢
  go_enter Tryd.func35, Tryd.ntmps35
  go_wp2_with fail
  refine (HCK.out _ ((Turn.refl _ w).alloc _)).mono ?_
  rintro e w2 ⟨rfl, hE2⟩
  have hE02 : Ext w w2 := Turn.trans ((Turn.refl _ w).alloc _) hE2
  have hx : w2.heap[w.heap.size]? = some (.cells #[.int .i64 p.k, .int .u32 (p.pl : Int), .int .u32 (p.mi : Int), .bool p.nt, .int .i64 p.mn, .int .i64 p.mx, .slice ao p.l.length cap] 27 (0, 0)) := hE2.keep (new_at rfl)
  have cX := fun j => cell_of_row _ _ j _ _ _ hx
  clear hE2
  by_cases hz0 : z = 0
  case neg =>
    have gz : (z == 0) = false := by rw [beq_eq_false_iff_ne]; exact hz0
    have hb := HBAD.out hz0
    subst hb
    clear hz0 cX hx
    go_wp2
    go_ret
    exact ⟨rfl, hE02⟩
  subst hz0
  have hl := HLAW.out rfl
  have HL := Lib.hid hl
  clear hl HLAW HBAD
  have hcs : ∀ (D : World), Ext w2 D → D.cell? ⟨w.heap.size, 0, none⟩ = some (.int .i64 p.k) ∧ D.cell? ⟨w.heap.size, 1, none⟩ = some (.int .u32 (p.pl : Int)) ∧ D.cell? ⟨w.heap.size, 2, none⟩ = some (.int .u32 (p.mi : Int)) ∧ D.cell? ⟨w.heap.size, 3, none⟩ = some (.bool p.nt) ∧ D.cell? ⟨w.heap.size, 4, none⟩ = some (.int .i64 p.mn) ∧ D.cell? ⟨w.heap.size, 5, none⟩ = some (.int .i64 p.mx) ∧ D.cell? ⟨w.heap.size, 6, none⟩ = some (.slice ao p.l.length cap) := by
    intro D hD
    have h0 := hD.keep hx
    simp [World.cell?, h0]
  have HS := Lib.hid hcs
  clear hcs cX
  obtain ⟨ii, hi, hz, hs, hby⟩ := info_parts Tryd.infoSndE
  obtain ⟨wm, hm, hOm, hGm⟩ := run_make_full (P := Tryd.prog) w2.drew w2.heap.size 28 24 ii _ 2 Tryd.underlying28 hi hz hs .i64 .i64 2 (by rw [hby]; decide) (by decide) (Nat.le_refl _)
  have hEm : Ext w2 wm := Turn.trans (Turn.drew (Turn.refl _ w2)) ((Turn.refl _ _).grown hGm (fun k e => by cases e))
  have hmc : (madeCells (Value.agg #[.int .u32 0, .int .u32 0]).cells (2 * 2)).toList = sndL [(0, 0), (0, 0)] := by simp [madeCells, sndL, Value.cells, Array.range]
  rw [hmc] at hOm
  have hWA : WordAt wm (.slice (some ⟨w2.heap.size, 0, none⟩) 2 2) [(0, 0), (0, 0)] := ⟨Rd.of_own hOm, by simp [WdOk]⟩
  have HWA := Lib.hid hWA
  have hm2 : (Instr.makeSlice 28 (.int .i64 2) (.int .i64 2)).run Tryd.prog w2.drew = .ok (.slice (some ⟨w2.heap.size, 0, none⟩) 2 2) wm := hm
  clear hm hOm hGm hWA hi hz hs hby
  have hbit := bitR R 1 1 (by decide)
  rw [HL.out] at hbit
  have hlt := rowM_lt R 1
  have HBIT := Lib.hid hbit
  clear hbit hmc
  go_wp2
  refine wp_region_held_drew (S := fun D => D.cell? ⟨w.heap.size, 0, none⟩ = some (.int .i64 p.k) ∧ D.cell? ⟨w.heap.size, 1, none⟩ = some (.int .u32 (p.pl : Int)) ∧ D.cell? ⟨w.heap.size, 2, none⟩ = some (.int .u32 (p.mi : Int)) ∧ D.cell? ⟨w.heap.size, 3, none⟩ = some (.bool p.nt) ∧ D.cell? ⟨w.heap.size, 4, none⟩ = some (.int .i64 p.mn) ∧ D.cell? ⟨w.heap.size, 5, none⟩ = some (.int .i64 p.mx) ∧ D.cell? ⟨w.heap.size, 6, none⟩ = some (.slice ao p.l.length cap)) (by kernel_rfl) (HS.out _ (Turn.drew (Turn.refl _ w2))) ?_
  intro hS0
  refine wpAnyH_take (i := 0) (v := ?_) rfl (by kernel_rfl) (by kernel_rfl) (by kernel_rfl) (fun _ _ _ h => h) (Or.inl ⟨by rfl, ?_⟩) (hS0) ?_
  rotate_left
  · intro w hSw; (try dsimp only at hSw); go_simp; try with_reducible rfl
  change wpAnyH _ _ _ _ _ _ _ (Act.put _ (some 6) _) _
  try simp only [Act.put, List.setIfInBounds_toArray, List.set_cons_zero, List.set_cons_succ]
  refine wpAnyH_ready (rs := [1]) (by kernel_rfl) (by simp) ?_
  refine AllReadyH.cons rfl (fun K hK => ?_) AllReadyH.nil
  (try rw [if_pos (show Region.wanted _ _ = true from rfl)])
  go_simp
  refine hK.out _ _ (HS.out _ hEm) (fun hS1 => ?_)
  clear hK K
  refine wpAnyH_ready (rs := [2]) (by kernel_rfl) (by simp) ?_
  refine AllReadyH.cons rfl (fun K hK => ?_) AllReadyH.nil
  (try rw [if_pos (show Region.wanted _ _ = true from rfl)])
  go_simp
  refine (HTB.out _ _ (hE02.trans hEm) (by first | rfl | trivial) HWA.out).mono ?_
  rintro e W3 ⟨ut, rfl, hOt, hN⟩
  have hE3 := Turn.trans hEm hN
  obtain ⟨gt, ct, rfl, hgt, hct⟩ := RowsR.own hOt
  have c0 := hct 1 (by decide)
  clear hOt hN hgt hct
  refine hK.out _ _ (HS.out _ hE3) (fun hS2 => ?_)
  clear hK K
  refine wpAnyH_take (i := 3) (v := ?_) rfl (by kernel_rfl) (by kernel_rfl) (by kernel_rfl) (fun _ _ _ h => h) (Or.inl ⟨by rfl, ?_⟩) (hS2) ?_
  rotate_left
  · intro w hSw; (try dsimp only at hSw); go_simp; try with_reducible rfl
  change wpAnyH _ _ _ _ _ _ _ (Act.put _ (some 9) _) _
  try simp only [Act.put, List.setIfInBounds_toArray, List.set_cons_zero, List.set_cons_succ]
  refine wpAnyH_ready (rs := [4]) (by kernel_rfl) (by simp) ?_
  refine AllReadyH.cons rfl (fun K hK => ?_) AllReadyH.nil
  (try rw [if_pos (show Region.wanted _ _ = true from rfl)])
  go_simp
  refine hK.out _ _ (HS.out _ hE3) (fun hS3 => ?_)
  clear hK K
  refine wpAnyH_take (i := 5) (v := ?_) rfl (by kernel_rfl) (by kernel_rfl) (by kernel_rfl) (fun _ _ _ h => h) (Or.inl ⟨by rfl, ?_⟩) (hS3) ?_
  rotate_left
  · intro w hSw; (try dsimp only at hSw); go_simp; try with_reducible rfl
  change wpAnyH _ _ _ _ _ _ _ (Act.put _ (some 11) _) _
  try simp only [Act.put, List.setIfInBounds_toArray, List.set_cons_zero, List.set_cons_succ]
  refine wpAnyH_take (i := 6) (v := ?_) rfl (by kernel_rfl) (by kernel_rfl) (by kernel_rfl) (fun _ _ _ h => h) (Or.inl ⟨by rfl, ?_⟩) (hS3) ?_
  rotate_left
  · intro w hSw; (try dsimp only at hSw); go_simp; try with_reducible rfl
  change wpAnyH _ _ _ _ _ _ _ (Act.put _ (some 12) _) _
  try simp only [Act.put, List.setIfInBounds_toArray, List.set_cons_zero, List.set_cons_succ]
  refine wpAnyH_take (i := 7) (v := ?_) rfl (by kernel_rfl) (by kernel_rfl) (by kernel_rfl) (fun _ _ _ h => h) (Or.inl ⟨by rfl, ?_⟩) (hS3) ?_
  rotate_left
  · intro w hSw; (try dsimp only at hSw); go_simp; try with_reducible rfl
  change wpAnyH _ _ _ _ _ _ _ (Act.put _ (some 13) _) _
  try simp only [Act.put, List.setIfInBounds_toArray, List.set_cons_zero, List.set_cons_succ]
  refine wpAnyH_take (i := 8) (v := ?_) rfl (by kernel_rfl) (by kernel_rfl) (by kernel_rfl) (fun _ _ _ h => h) (Or.inl ⟨by rfl, ?_⟩) (hS3) ?_
  rotate_left
  · intro w hSw; (try dsimp only at hSw); go_simp; try with_reducible rfl
  change wpAnyH _ _ _ _ _ _ _ (Act.put _ (some 2) _) _
  try simp only [Act.put, List.setIfInBounds_toArray, List.set_cons_zero, List.set_cons_succ]
  refine wpAnyH_done (by kernel_rfl) ?_ _
  clear hS0 hS1 hS2 hS3 c0 HS hm2
  go_wp2
  go_ret
  refine ⟨?_, hE02.trans hE3⟩
  rw [← HBIT.out]
  first | rfl | (congr 2; simp) | trace_state
end Go.Proofs.YtapfoaiibjdfnaaDoor
