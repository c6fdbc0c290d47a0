/- ablautlaw06.PatsChecks: the walk (printed by genchecks.py). -/
import Derived.Test.YtapfoaiibjdfnaaDoorMe
import Derived.Test.YtapfoaiibjdfnaaDoorRefEmpty
import Derived.Test.YtapfoaiibjdfnaaDoorMg
namespace Go.Proofs.YtapfoaiibjdfnaaDoor
open Go.RowKit Go.Ab
attribute [local go_sem] Oper.semAt_some wide_fn wide_depth

set_option maxRecDepth 100000 in
set_option maxHeartbeats 16000000 in
theorem checks_law (w : World) (hT : Tab w) {p q : Pat} {cs ds : List Value} (hp : PatAt (fun g => g < w.heap.size) w p cs) (hq : PatAt (fun g => g < w.heap.size) w q ds) :
    Calls Tryd.prog 10 #[.agg cs.toArray, .agg ds.toArray] w fun e w' => e = .returned (.bool true) ∧ Ext w w' := by
  have hK : ∀ (V : World), Ext w V → ∀ g, g < w.heap.size → g < V.heap.size := fun V hE g h => Nat.lt_of_lt_of_le h hE.size
  have hck := fun (V : World) (hE : Ext w V) => check_any (hp.ext hE) (hK V hE) (hT.keep hE id)
  have hrc := fun (V : World) (hE : Ext w V) => refcheck_any (hp.ext hE)
  have hsz := fun (V : World) (hE : Ext w V) => size_any (hp.ext hE) (hK V hE)
  have hrs := fun (V : World) (hE : Ext w V) => refsize_any (hp.ext hE)
  have hem := fun (V : World) (hE : Ext w V) => isempty_any (hp.ext hE) (hK V hE) (hT.keep hE id)
  have hre := fun (V : World) (hE : Ext w V) => refempty_any (hp.ext hE)
  have hxy := fun (V : World) (hE : Ext w V) => equal_any (hp.ext hE) (hq.ext hE) (hK V hE) (hT.keep hE id)
  have hrxy := fun (V : World) (hE : Ext w V) => refequal_any (hp.ext hE) (hq.ext hE)
  have hyx := fun (V : World) (hE : Ext w V) => equal_any (hq.ext hE) (hp.ext hE) (hK V hE) (hT.keep hE id)
  have hryx := fun (V : World) (hE : Ext w V) => refequal_any (hq.ext hE) (hp.ext hE)
  have hxx := fun (V : World) (hE : Ext w V) => equal_any (hp.ext hE) (hp.ext hE) (hK V hE) (hT.keep hE id)
  have hwo := fun (V : World) (hE : Ext w V) => works_any V (hT.keep hE id)
  rw [equalV_refl, show decide (chkP p = 0) = (chkP p == 0) from rfl] at hxx
  obtain ⟨ao, cap, rfl, hlc, hcm, _⟩ := patAt_cells hp
  obtain ⟨qo, qcap, rfl, hlc', hcm', _⟩ := patAt_cells hq
  have HCK := Lib.hid hck; have HRC := Lib.hid hrc; have HSZ := Lib.hid hsz; have HRS := Lib.hid hrs; have HEM := Lib.hid hem; have HRE := Lib.hid hre; have HXY := Lib.hid hxy; have HRXY := Lib.hid hrxy; have HYX := Lib.hid hyx; have HRYX := Lib.hid hryx; have HXX := Lib.hid hxx; have HWO := Lib.hid hwo
  clear hck hrc hsz hrs hem hre hxy hrxy hyx hryx hxx hwo hp hq hlc hcm hlc' hcm' hT hK
  obtain ⟨z, hz⟩ : ∃ b, chkP p = b := ⟨_, rfl⟩
  obtain ⟨s, hs⟩ : ∃ b, sizeP p = b := ⟨_, rfl⟩
  obtain ⟨em, hem⟩ : ∃ b, emptyV p = b := ⟨_, rfl⟩
  obtain ⟨xy, hxy⟩ : ∃ b, equalV p q = b := ⟨_, rfl⟩
  obtain ⟨yx, hyx⟩ : ∃ b, equalV q p = b := ⟨_, rfl⟩
  rw [hz] at HCK HRC HXX
  rw [hs] at HSZ HRS
  rw [hem] at HEM HRE
  rw [hxy] at HXY HRXY
  rw [hyx] at HYX HRYX
  clear hz hs hem hxy hyx
  unfold patCells at HCK HRC HSZ HRS HEM HRE HXY HRXY HYX HRYX HXX ⊢
  go_enter Tryd.func10, Tryd.ntmps10
  go_wp2_with fail
  have hx0 : ((w.alloc (.cells #[.int .i64 p.k, .int .u32 (p.pl : Int), .int .u32 (p.mi : Int), .bool p.nt, .int .i64 p.mn, .int .i64 p.mx, .slice ao p.l.length cap] 27)).alloc (.cells #[.int .i64 q.k, .int .u32 (q.pl : Int), .int .u32 (q.mi : Int), .bool q.nt, .int .i64 q.mn, .int .i64 q.mx, .slice qo q.l.length qcap] 27)).heap[w.heap.size]? = some (.cells #[.int .i64 p.k, .int .u32 (p.pl : Int), .int .u32 (p.mi : Int), .bool p.nt, .int .i64 p.mn, .int .i64 p.mx, .slice ao p.l.length cap] 27 (0, 0)) := new_keep (new_at rfl)
  have hy0 : ((w.alloc (.cells #[.int .i64 p.k, .int .u32 (p.pl : Int), .int .u32 (p.mi : Int), .bool p.nt, .int .i64 p.mn, .int .i64 p.mx, .slice ao p.l.length cap] 27)).alloc (.cells #[.int .i64 q.k, .int .u32 (q.pl : Int), .int .u32 (q.mi : Int), .bool q.nt, .int .i64 q.mn, .int .i64 q.mx, .slice qo q.l.length qcap] 27)).heap[w.heap.size + 1]? = some (.cells #[.int .i64 q.k, .int .u32 (q.pl : Int), .int .u32 (q.mi : Int), .bool q.nt, .int .i64 q.mn, .int .i64 q.mx, .slice qo q.l.length qcap] 27 (0, 0)) := new_at (by simp)
  have hE0 : Ext w ((w.alloc (.cells #[.int .i64 p.k, .int .u32 (p.pl : Int), .int .u32 (p.mi : Int), .bool p.nt, .int .i64 p.mn, .int .i64 p.mx, .slice ao p.l.length cap] 27)).alloc (.cells #[.int .i64 q.k, .int .u32 (q.pl : Int), .int .u32 (q.mi : Int), .bool q.nt, .int .i64 q.mn, .int .i64 q.mx, .slice qo q.l.length qcap] 27)) := ((Turn.refl _ w).alloc _).alloc _
  generalize ((w.alloc (.cells #[.int .i64 p.k, .int .u32 (p.pl : Int), .int .u32 (p.mi : Int), .bool p.nt, .int .i64 p.mn, .int .i64 p.mx, .slice ao p.l.length cap] 27)).alloc (.cells #[.int .i64 q.k, .int .u32 (q.pl : Int), .int .u32 (q.mi : Int), .bool q.nt, .int .i64 q.mn, .int .i64 q.mx, .slice qo q.l.length qcap] 27)) = w1 at hx0 hy0 hE0 ⊢
  generalize w.heap.size = B at hx0 hy0 ⊢
  have hcc : ∀ (D : World), D.heap[B]? = some (.cells #[.int .i64 p.k, .int .u32 (p.pl : Int), .int .u32 (p.mi : Int), .bool p.nt, .int .i64 p.mn, .int .i64 p.mx, .slice ao p.l.length cap] 27 (0, 0)) → D.heap[B + 1]? = some (.cells #[.int .i64 q.k, .int .u32 (q.pl : Int), .int .u32 (q.mi : Int), .bool q.nt, .int .i64 q.mn, .int .i64 q.mx, .slice qo q.l.length qcap] 27 (0, 0)) → D.cell? ⟨B, 0, none⟩ = some (.int .i64 p.k) ∧ D.cell? ⟨B, 1, none⟩ = some (.int .u32 (p.pl : Int)) ∧ D.cell? ⟨B, 2, none⟩ = some (.int .u32 (p.mi : Int)) ∧ D.cell? ⟨B, 3, none⟩ = some (.bool p.nt) ∧ D.cell? ⟨B, 4, none⟩ = some (.int .i64 p.mn) ∧ D.cell? ⟨B, 5, none⟩ = some (.int .i64 p.mx) ∧ D.cell? ⟨B, 6, none⟩ = some (.slice ao p.l.length cap) ∧ D.cell? ⟨(B + 1), 0, none⟩ = some (.int .i64 q.k) ∧ D.cell? ⟨(B + 1), 1, none⟩ = some (.int .u32 (q.pl : Int)) ∧ D.cell? ⟨(B + 1), 2, none⟩ = some (.int .u32 (q.mi : Int)) ∧ D.cell? ⟨(B + 1), 3, none⟩ = some (.bool q.nt) ∧ D.cell? ⟨(B + 1), 4, none⟩ = some (.int .i64 q.mn) ∧ D.cell? ⟨(B + 1), 5, none⟩ = some (.int .i64 q.mx) ∧ D.cell? ⟨(B + 1), 6, none⟩ = some (.slice qo q.l.length qcap) := by
    intro D h0 h1
    simp [World.cell?, h0, h1]
  have hcs : ∀ (D : World), Ext w1 D → D.cell? ⟨B, 0, none⟩ = some (.int .i64 p.k) ∧ D.cell? ⟨B, 1, none⟩ = some (.int .u32 (p.pl : Int)) ∧ D.cell? ⟨B, 2, none⟩ = some (.int .u32 (p.mi : Int)) ∧ D.cell? ⟨B, 3, none⟩ = some (.bool p.nt) ∧ D.cell? ⟨B, 4, none⟩ = some (.int .i64 p.mn) ∧ D.cell? ⟨B, 5, none⟩ = some (.int .i64 p.mx) ∧ D.cell? ⟨B, 6, none⟩ = some (.slice ao p.l.length cap) ∧ D.cell? ⟨(B + 1), 0, none⟩ = some (.int .i64 q.k) ∧ D.cell? ⟨(B + 1), 1, none⟩ = some (.int .u32 (q.pl : Int)) ∧ D.cell? ⟨(B + 1), 2, none⟩ = some (.int .u32 (q.mi : Int)) ∧ D.cell? ⟨(B + 1), 3, none⟩ = some (.bool q.nt) ∧ D.cell? ⟨(B + 1), 4, none⟩ = some (.int .i64 q.mn) ∧ D.cell? ⟨(B + 1), 5, none⟩ = some (.int .i64 q.mx) ∧ D.cell? ⟨(B + 1), 6, none⟩ = some (.slice qo q.l.length qcap) := fun D hD => hcc D (hD.keep hx0) (hD.keep hy0)
  have HS := Lib.hid hcs
  clear hcc hcs hx0 hy0
  refine wp_region_held_drew (S := fun D => D.cell? ⟨B, 0, none⟩ = some (.int .i64 p.k) ∧ D.cell? ⟨B, 1, none⟩ = some (.int .u32 (p.pl : Int)) ∧ D.cell? ⟨B, 2, none⟩ = some (.int .u32 (p.mi : Int)) ∧ D.cell? ⟨B, 3, none⟩ = some (.bool p.nt) ∧ D.cell? ⟨B, 4, none⟩ = some (.int .i64 p.mn) ∧ D.cell? ⟨B, 5, none⟩ = some (.int .i64 p.mx) ∧ D.cell? ⟨B, 6, none⟩ = some (.slice ao p.l.length cap) ∧ D.cell? ⟨(B + 1), 0, none⟩ = some (.int .i64 q.k) ∧ D.cell? ⟨(B + 1), 1, none⟩ = some (.int .u32 (q.pl : Int)) ∧ D.cell? ⟨(B + 1), 2, none⟩ = some (.int .u32 (q.mi : Int)) ∧ D.cell? ⟨(B + 1), 3, none⟩ = some (.bool q.nt) ∧ D.cell? ⟨(B + 1), 4, none⟩ = some (.int .i64 q.mn) ∧ D.cell? ⟨(B + 1), 5, none⟩ = some (.int .i64 q.mx) ∧ D.cell? ⟨(B + 1), 6, none⟩ = some (.slice qo q.l.length qcap)) (by kernel_rfl) (HS.out _ (Turn.drew (Turn.refl _ w1))) ?_
  intro hS0
  refine wpAnyH_take (i := 0) (v := ?_) rfl (by kernel_rfl) (by kernel_rfl) (by kernel_rfl) (fun _ _ _ h => h) (Or.inl ⟨by rfl, ?_⟩) (hS0) ?_
  rotate_left
  · intro w hSw; (try dsimp only at hSw); go_simp; try with_reducible rfl
  change wpAnyH _ _ _ _ _ _ _ (Act.put _ (some 5) _) _
  try simp only [Act.put, List.setIfInBounds_toArray, List.set_cons_zero, List.set_cons_succ]
  refine wpAnyH_take (i := 2) (v := ?_) rfl (by kernel_rfl) (by kernel_rfl) (by kernel_rfl) (fun _ _ _ h => h) (Or.inl ⟨by rfl, ?_⟩) (hS0) ?_
  rotate_left
  · intro w hSw; (try dsimp only at hSw); go_simp; try with_reducible rfl
  change wpAnyH _ _ _ _ _ _ _ (Act.put _ (some 7) _) _
  try simp only [Act.put, List.setIfInBounds_toArray, List.set_cons_zero, List.set_cons_succ]
  refine wpAnyH_ready (rs := [1]) (by kernel_rfl) (by simp) ?_
  refine AllReadyH.cons rfl (fun K hK => ?_) AllReadyH.nil
  (try rw [if_pos (show Region.wanted _ _ = true from rfl)])
  go_simp
  refine (HCK.out _ (hE0.trans (Turn.drew (Turn.refl _ w1)))).mono ?_
  rintro e W2 ⟨rfl, hN⟩
  have hW2 : Ext w1 W2 := Turn.trans (Turn.drew (Turn.refl _ w1)) hN
  refine hK.out _ _ (HS.out _ hW2) (fun hS2 => ?_)
  clear hK K hN
  refine wpAnyH_ready (rs := [3]) (by kernel_rfl) (by simp) ?_
  refine AllReadyH.cons rfl (fun K hK => ?_) AllReadyH.nil
  (try rw [if_pos (show Region.wanted _ _ = true from rfl)])
  go_simp
  refine (HRC.out _ (hE0.trans hW2)).mono ?_
  rintro e W3 ⟨rfl, hN⟩
  have hW3 : Ext w1 W3 := Turn.trans hW2 hN
  refine hK.out _ _ (HS.out _ hW3) (fun hS3 => ?_)
  clear hK K hN
  refine wpAnyH_take (i := 4) (v := ?_) rfl (by kernel_rfl) (by kernel_rfl) (by kernel_rfl) (fun _ _ _ h => h) (Or.inl ⟨by rfl, ?_⟩) (hS3) ?_
  rotate_left
  · intro w hSw; (try dsimp only at hSw); go_simp; try with_reducible rfl
  change wpAnyH _ _ _ _ _ _ _ (Act.put _ (some 9) _) _
  try simp only [Act.put, List.setIfInBounds_toArray, List.set_cons_zero, List.set_cons_succ]
  refine wpAnyH_take (i := 5) (v := ?_) rfl (by kernel_rfl) (by kernel_rfl) (by kernel_rfl) (fun _ _ _ h => h) (Or.inl ⟨by rfl, ?_⟩) (hS3) ?_
  rotate_left
  · intro w hSw; (try dsimp only at hSw); go_simp; try with_reducible rfl
  change wpAnyH _ _ _ _ _ _ _ (Act.put _ (some 10) _) _
  try simp only [Act.put, List.setIfInBounds_toArray, List.set_cons_zero, List.set_cons_succ]
  refine wpAnyH_take (i := 6) (v := ?_) rfl (by kernel_rfl) (by kernel_rfl) (by kernel_rfl) (fun _ _ _ h => h) (Or.inl ⟨by rfl, ?_⟩) (hS3) ?_
  rotate_left
  · intro w hSw; (try dsimp only at hSw); go_simp; try with_reducible rfl
  change wpAnyH _ _ _ _ _ _ _ (Act.put _ (some 11) _) _
  try simp only [Act.put, List.setIfInBounds_toArray, List.set_cons_zero, List.set_cons_succ]
  refine wpAnyH_take (i := 8) (v := ?_) rfl (by kernel_rfl) (by kernel_rfl) (by kernel_rfl) (fun _ _ _ h => h) (Or.inl ⟨by rfl, ?_⟩) (hS3) ?_
  rotate_left
  · intro w hSw; (try dsimp only at hSw); go_simp; try with_reducible rfl
  change wpAnyH _ _ _ _ _ _ _ (Act.put _ (some 13) _) _
  try simp only [Act.put, List.setIfInBounds_toArray, List.set_cons_zero, List.set_cons_succ]
  refine wpAnyH_ready (rs := [7]) (by kernel_rfl) (by simp) ?_
  refine AllReadyH.cons rfl (fun K hK => ?_) AllReadyH.nil
  (try rw [if_pos (show Region.wanted _ _ = true from rfl)])
  go_simp
  refine (HSZ.out _ (hE0.trans hW3)).mono ?_
  rintro e W4 ⟨rfl, hN⟩
  have hW4 : Ext w1 W4 := Turn.trans hW3 hN
  refine hK.out _ _ (HS.out _ hW4) (fun hS4 => ?_)
  clear hK K hN
  refine wpAnyH_ready (rs := [9]) (by kernel_rfl) (by simp) ?_
  refine AllReadyH.cons rfl (fun K hK => ?_) AllReadyH.nil
  (try rw [if_pos (show Region.wanted _ _ = true from rfl)])
  go_simp
  refine (HRS.out _ (hE0.trans hW4)).mono ?_
  rintro e W5 ⟨rfl, hN⟩
  have hW5 : Ext w1 W5 := Turn.trans hW4 hN
  refine hK.out _ _ (HS.out _ hW5) (fun hS5 => ?_)
  clear hK K hN
  refine wpAnyH_take (i := 10) (v := ?_) rfl (by kernel_rfl) (by kernel_rfl) (by kernel_rfl) (fun _ _ _ h => h) (Or.inl ⟨by rfl, ?_⟩) (hS5) ?_
  rotate_left
  · intro w hSw; (try dsimp only at hSw); go_simp; try with_reducible rfl
  change wpAnyH _ _ _ _ _ _ _ (Act.put _ (some 15) _) _
  try simp only [Act.put, List.setIfInBounds_toArray, List.set_cons_zero, List.set_cons_succ]
  refine wpAnyH_take (i := 11) (v := ?_) rfl (by kernel_rfl) (by kernel_rfl) (by kernel_rfl) (fun _ _ _ h => h) (Or.inl ⟨by rfl, ?_⟩) (hS5) ?_
  rotate_left
  · intro w hSw; (try dsimp only at hSw); go_simp; try with_reducible rfl
  change wpAnyH _ _ _ _ _ _ _ (Act.put _ (some 16) _) _
  try simp only [Act.put, List.setIfInBounds_toArray, List.set_cons_zero, List.set_cons_succ]
  refine wpAnyH_take (i := 12) (v := ?_) rfl (by kernel_rfl) (by kernel_rfl) (by kernel_rfl) (fun _ _ _ h => h) (Or.inl ⟨by rfl, ?_⟩) (hS5) ?_
  rotate_left
  · intro w hSw; (try dsimp only at hSw); go_simp; try with_reducible rfl
  change wpAnyH _ _ _ _ _ _ _ (Act.put _ (some 17) _) _
  try simp only [Act.put, List.setIfInBounds_toArray, List.set_cons_zero, List.set_cons_succ]
  refine wpAnyH_take (i := 13) (v := ?_) rfl (by kernel_rfl) (by kernel_rfl) (by kernel_rfl) (fun _ _ _ h => h) (Or.inl ⟨by rfl, ?_⟩) (hS5) ?_
  rotate_left
  · intro w hSw; (try dsimp only at hSw); go_simp; try with_reducible rfl
  change wpAnyH _ _ _ _ _ _ _ (Act.put _ (some 18) _) _
  try simp only [Act.put, List.setIfInBounds_toArray, List.set_cons_zero, List.set_cons_succ]
  refine wpAnyH_take (i := 15) (v := ?_) rfl (by kernel_rfl) (by kernel_rfl) (by kernel_rfl) (fun _ _ _ h => h) (Or.inl ⟨by rfl, ?_⟩) (hS5) ?_
  rotate_left
  · intro w hSw; (try dsimp only at hSw); go_simp; try with_reducible rfl
  change wpAnyH _ _ _ _ _ _ _ (Act.put _ (some 20) _) _
  try simp only [Act.put, List.setIfInBounds_toArray, List.set_cons_zero, List.set_cons_succ]
  refine wpAnyH_ready (rs := [14]) (by kernel_rfl) (by simp) ?_
  refine AllReadyH.cons rfl (fun K hK => ?_) AllReadyH.nil
  (try rw [if_pos (show Region.wanted _ _ = true from rfl)])
  go_simp
  refine (HEM.out _ (hE0.trans hW5)).mono ?_
  rintro e W6 ⟨rfl, hN⟩
  have hW6 : Ext w1 W6 := Turn.trans hW5 hN
  refine hK.out _ _ (HS.out _ hW6) (fun hS6 => ?_)
  clear hK K hN
  refine wpAnyH_ready (rs := [16]) (by kernel_rfl) (by simp) ?_
  refine AllReadyH.cons rfl (fun K hK => ?_) AllReadyH.nil
  (try rw [if_pos (show Region.wanted _ _ = true from rfl)])
  go_simp
  refine (HRE.out _ (hE0.trans hW6)).mono ?_
  rintro e W7 ⟨rfl, hN⟩
  have hW7 : Ext w1 W7 := Turn.trans hW6 hN
  refine hK.out _ _ (HS.out _ hW7) (fun hS7 => ?_)
  clear hK K hN
  refine wpAnyH_take (i := 17) (v := ?_) rfl (by kernel_rfl) (by kernel_rfl) (by kernel_rfl) (fun _ _ _ h => h) (Or.inl ⟨by rfl, ?_⟩) (hS7) ?_
  rotate_left
  · intro w hSw; (try dsimp only at hSw); go_simp; try with_reducible rfl
  change wpAnyH _ _ _ _ _ _ _ (Act.put _ (some 22) _) _
  try simp only [Act.put, List.setIfInBounds_toArray, List.set_cons_zero, List.set_cons_succ]
  refine wpAnyH_take (i := 18) (v := ?_) rfl (by kernel_rfl) (by kernel_rfl) (by kernel_rfl) (fun _ _ _ h => h) (Or.inl ⟨by rfl, ?_⟩) (hS7) ?_
  rotate_left
  · intro w hSw; (try dsimp only at hSw); go_simp; try with_reducible rfl
  change wpAnyH _ _ _ _ _ _ _ (Act.put _ (some 23) _) _
  try simp only [Act.put, List.setIfInBounds_toArray, List.set_cons_zero, List.set_cons_succ]
  refine wpAnyH_take (i := 19) (v := ?_) rfl (by kernel_rfl) (by kernel_rfl) (by kernel_rfl) (fun _ _ _ h => h) (Or.inl ⟨by rfl, ?_⟩) (hS7) ?_
  rotate_left
  · intro w hSw; (try dsimp only at hSw); go_simp; try with_reducible rfl
  change wpAnyH _ _ _ _ _ _ _ (Act.put _ (some 24) _) _
  try simp only [Act.put, List.setIfInBounds_toArray, List.set_cons_zero, List.set_cons_succ]
  refine wpAnyH_take (i := 20) (v := ?_) rfl (by kernel_rfl) (by kernel_rfl) (by kernel_rfl) (fun _ _ _ h => h) (Or.inl ⟨by rfl, ?_⟩) (hS7) ?_
  rotate_left
  · intro w hSw; (try dsimp only at hSw); go_simp; try with_reducible rfl
  change wpAnyH _ _ _ _ _ _ _ (Act.put _ (some 25) _) _
  try simp only [Act.put, List.setIfInBounds_toArray, List.set_cons_zero, List.set_cons_succ]
  refine wpAnyH_take (i := 21) (v := ?_) rfl (by kernel_rfl) (by kernel_rfl) (by kernel_rfl) (fun _ _ _ h => h) (Or.inl ⟨by rfl, ?_⟩) (hS7) ?_
  rotate_left
  · intro w hSw; (try dsimp only at hSw); go_simp; try with_reducible rfl
  change wpAnyH _ _ _ _ _ _ _ (Act.put _ (some 26) _) _
  try simp only [Act.put, List.setIfInBounds_toArray, List.set_cons_zero, List.set_cons_succ]
  refine wpAnyH_take (i := 23) (v := ?_) rfl (by kernel_rfl) (by kernel_rfl) (by kernel_rfl) (fun _ _ _ h => h) (Or.inl ⟨by rfl, ?_⟩) (hS7) ?_
  rotate_left
  · intro w hSw; (try dsimp only at hSw); go_simp; try with_reducible rfl
  change wpAnyH _ _ _ _ _ _ _ (Act.put _ (some 28) _) _
  try simp only [Act.put, List.setIfInBounds_toArray, List.set_cons_zero, List.set_cons_succ]
  refine wpAnyH_take (i := 24) (v := ?_) rfl (by kernel_rfl) (by kernel_rfl) (by kernel_rfl) (fun _ _ _ h => h) (Or.inl ⟨by rfl, ?_⟩) (hS7) ?_
  rotate_left
  · intro w hSw; (try dsimp only at hSw); go_simp; try with_reducible rfl
  change wpAnyH _ _ _ _ _ _ _ (Act.put _ (some 29) _) _
  try simp only [Act.put, List.setIfInBounds_toArray, List.set_cons_zero, List.set_cons_succ]
  refine wpAnyH_ready (rs := [22]) (by kernel_rfl) (by simp) ?_
  refine AllReadyH.cons rfl (fun K hK => ?_) AllReadyH.nil
  (try rw [if_pos (show Region.wanted _ _ = true from rfl)])
  go_simp
  refine (HXY.out _ (hE0.trans hW7)).mono ?_
  rintro e W8 ⟨rfl, hN⟩
  have hW8 : Ext w1 W8 := Turn.trans hW7 hN
  refine hK.out _ _ (HS.out _ hW8) (fun hS8 => ?_)
  clear hK K hN
  refine wpAnyH_ready (rs := [25]) (by kernel_rfl) (by simp) ?_
  refine AllReadyH.cons rfl (fun K hK => ?_) AllReadyH.nil
  (try rw [if_pos (show Region.wanted _ _ = true from rfl)])
  go_simp
  refine (HRXY.out _ (hE0.trans hW8)).mono ?_
  rintro e W9 ⟨rfl, hN⟩
  have hW9 : Ext w1 W9 := Turn.trans hW8 hN
  refine hK.out _ _ (HS.out _ hW9) (fun hS9 => ?_)
  clear hK K hN
  refine wpAnyH_take (i := 26) (v := ?_) rfl (by kernel_rfl) (by kernel_rfl) (by kernel_rfl) (fun _ _ _ h => h) (Or.inl ⟨by rfl, ?_⟩) (hS9) ?_
  rotate_left
  · intro w hSw; (try dsimp only at hSw); go_simp; try with_reducible rfl
  change wpAnyH _ _ _ _ _ _ _ (Act.put _ (some 31) _) _
  try simp only [Act.put, List.setIfInBounds_toArray, List.set_cons_zero, List.set_cons_succ]
  refine wpAnyH_take (i := 27) (v := ?_) rfl (by kernel_rfl) (by kernel_rfl) (by kernel_rfl) (fun _ _ _ h => h) (Or.inl ⟨by rfl, ?_⟩) (hS9) ?_
  rotate_left
  · intro w hSw; (try dsimp only at hSw); go_simp; try with_reducible rfl
  change wpAnyH _ _ _ _ _ _ _ (Act.put _ (some 32) _) _
  try simp only [Act.put, List.setIfInBounds_toArray, List.set_cons_zero, List.set_cons_succ]
  refine wpAnyH_take (i := 28) (v := ?_) rfl (by kernel_rfl) (by kernel_rfl) (by kernel_rfl) (fun _ _ _ h => h) (Or.inl ⟨by rfl, ?_⟩) (hS9) ?_
  rotate_left
  · intro w hSw; (try dsimp only at hSw); go_simp; try with_reducible rfl
  change wpAnyH _ _ _ _ _ _ _ (Act.put _ (some 33) _) _
  try simp only [Act.put, List.setIfInBounds_toArray, List.set_cons_zero, List.set_cons_succ]
  refine wpAnyH_take (i := 29) (v := ?_) rfl (by kernel_rfl) (by kernel_rfl) (by kernel_rfl) (fun _ _ _ h => h) (Or.inl ⟨by rfl, ?_⟩) (hS9) ?_
  rotate_left
  · intro w hSw; (try dsimp only at hSw); go_simp; try with_reducible rfl
  change wpAnyH _ _ _ _ _ _ _ (Act.put _ (some 34) _) _
  try simp only [Act.put, List.setIfInBounds_toArray, List.set_cons_zero, List.set_cons_succ]
  refine wpAnyH_take (i := 30) (v := ?_) rfl (by kernel_rfl) (by kernel_rfl) (by kernel_rfl) (fun _ _ _ h => h) (Or.inl ⟨by rfl, ?_⟩) (hS9) ?_
  rotate_left
  · intro w hSw; (try dsimp only at hSw); go_simp; try with_reducible rfl
  change wpAnyH _ _ _ _ _ _ _ (Act.put _ (some 35) _) _
  try simp only [Act.put, List.setIfInBounds_toArray, List.set_cons_zero, List.set_cons_succ]
  refine wpAnyH_take (i := 32) (v := ?_) rfl (by kernel_rfl) (by kernel_rfl) (by kernel_rfl) (fun _ _ _ h => h) (Or.inl ⟨by rfl, ?_⟩) (hS9) ?_
  rotate_left
  · intro w hSw; (try dsimp only at hSw); go_simp; try with_reducible rfl
  change wpAnyH _ _ _ _ _ _ _ (Act.put _ (some 37) _) _
  try simp only [Act.put, List.setIfInBounds_toArray, List.set_cons_zero, List.set_cons_succ]
  refine wpAnyH_take (i := 33) (v := ?_) rfl (by kernel_rfl) (by kernel_rfl) (by kernel_rfl) (fun _ _ _ h => h) (Or.inl ⟨by rfl, ?_⟩) (hS9) ?_
  rotate_left
  · intro w hSw; (try dsimp only at hSw); go_simp; try with_reducible rfl
  change wpAnyH _ _ _ _ _ _ _ (Act.put _ (some 38) _) _
  try simp only [Act.put, List.setIfInBounds_toArray, List.set_cons_zero, List.set_cons_succ]
  refine wpAnyH_ready (rs := [31]) (by kernel_rfl) (by simp) ?_
  refine AllReadyH.cons rfl (fun K hK => ?_) AllReadyH.nil
  (try rw [if_pos (show Region.wanted _ _ = true from rfl)])
  go_simp
  refine (HYX.out _ (hE0.trans hW9)).mono ?_
  rintro e W10 ⟨rfl, hN⟩
  have hW10 : Ext w1 W10 := Turn.trans hW9 hN
  refine hK.out _ _ (HS.out _ hW10) (fun hS10 => ?_)
  clear hK K hN
  refine wpAnyH_ready (rs := [34]) (by kernel_rfl) (by simp) ?_
  refine AllReadyH.cons rfl (fun K hK => ?_) AllReadyH.nil
  (try rw [if_pos (show Region.wanted _ _ = true from rfl)])
  go_simp
  refine (HRYX.out _ (hE0.trans hW10)).mono ?_
  rintro e W11 ⟨rfl, hN⟩
  have hW11 : Ext w1 W11 := Turn.trans hW10 hN
  refine hK.out _ _ (HS.out _ hW11) (fun hS11 => ?_)
  clear hK K hN
  refine wpAnyH_take (i := 35) (v := ?_) rfl (by kernel_rfl) (by kernel_rfl) (by kernel_rfl) (fun _ _ _ h => h) (Or.inl ⟨by rfl, ?_⟩) (hS11) ?_
  rotate_left
  · intro w hSw; (try dsimp only at hSw); go_simp; try with_reducible rfl
  change wpAnyH _ _ _ _ _ _ _ (Act.put _ (some 40) _) _
  try simp only [Act.put, List.setIfInBounds_toArray, List.set_cons_zero, List.set_cons_succ]
  refine wpAnyH_take (i := 36) (v := ?_) rfl (by kernel_rfl) (by kernel_rfl) (by kernel_rfl) (fun _ _ _ h => h) (Or.inl ⟨by rfl, ?_⟩) (hS11) ?_
  rotate_left
  · intro w hSw; (try dsimp only at hSw); go_simp; try with_reducible rfl
  change wpAnyH _ _ _ _ _ _ _ (Act.put _ (some 41) _) _
  try simp only [Act.put, List.setIfInBounds_toArray, List.set_cons_zero, List.set_cons_succ]
  refine wpAnyH_take (i := 37) (v := ?_) rfl (by kernel_rfl) (by kernel_rfl) (by kernel_rfl) (fun _ _ _ h => h) (Or.inl ⟨by rfl, ?_⟩) (hS11) ?_
  rotate_left
  · intro w hSw; (try dsimp only at hSw); go_simp; try with_reducible rfl
  change wpAnyH _ _ _ _ _ _ _ (Act.put _ (some 42) _) _
  try simp only [Act.put, List.setIfInBounds_toArray, List.set_cons_zero, List.set_cons_succ]
  refine wpAnyH_take (i := 38) (v := ?_) rfl (by kernel_rfl) (by kernel_rfl) (by kernel_rfl) (fun _ _ _ h => h) (Or.inl ⟨by rfl, ?_⟩) (hS11) ?_
  rotate_left
  · intro w hSw; (try dsimp only at hSw); go_simp; try with_reducible rfl
  change wpAnyH _ _ _ _ _ _ _ (Act.put _ (some 43) _) _
  try simp only [Act.put, List.setIfInBounds_toArray, List.set_cons_zero, List.set_cons_succ]
  refine wpAnyH_take (i := 39) (v := ?_) rfl (by kernel_rfl) (by kernel_rfl) (by kernel_rfl) (fun _ _ _ h => h) (Or.inl ⟨by rfl, ?_⟩) (hS11) ?_
  rotate_left
  · intro w hSw; (try dsimp only at hSw); go_simp; try with_reducible rfl
  change wpAnyH _ _ _ _ _ _ _ (Act.put _ (some 44) _) _
  try simp only [Act.put, List.setIfInBounds_toArray, List.set_cons_zero, List.set_cons_succ]
  refine wpAnyH_take (i := 41) (v := ?_) rfl (by kernel_rfl) (by kernel_rfl) (by kernel_rfl) (fun _ _ _ h => h) (Or.inl ⟨by rfl, ?_⟩) (hS11) ?_
  rotate_left
  · intro w hSw; (try dsimp only at hSw); go_simp; try with_reducible rfl
  change wpAnyH _ _ _ _ _ _ _ (Act.put _ (some 46) _) _
  try simp only [Act.put, List.setIfInBounds_toArray, List.set_cons_zero, List.set_cons_succ]
  refine wpAnyH_ready (rs := [40]) (by kernel_rfl) (by simp) ?_
  refine AllReadyH.cons rfl (fun K hK => ?_) AllReadyH.nil
  (try rw [if_pos (show Region.wanted _ _ = true from rfl)])
  go_simp
  refine (HXX.out _ (hE0.trans hW11)).mono ?_
  rintro e W12 ⟨rfl, hN⟩
  have hW12 : Ext w1 W12 := Turn.trans hW11 hN
  refine hK.out _ _ (HS.out _ hW12) (fun hS12 => ?_)
  clear hK K hN
  refine wpAnyH_ready (rs := [42]) (by kernel_rfl) (by simp) ?_
  refine AllReadyH.cons rfl (fun K hK => ?_) AllReadyH.nil
  (try rw [if_pos (show Region.wanted _ _ = true from rfl)])
  go_simp
  refine (HRC.out _ (hE0.trans hW12)).mono ?_
  rintro e W13 ⟨rfl, hN⟩
  have hW13 : Ext w1 W13 := Turn.trans hW12 hN
  refine hK.out _ _ (HS.out _ hW13) (fun hS13 => ?_)
  clear hK K hN
  refine wpAnyH_take (i := 43) (v := ?_) rfl (by kernel_rfl) (by kernel_rfl) (by kernel_rfl) (fun _ _ _ h => h) (Or.inl ⟨by rfl, ?_⟩) (hS13) ?_
  rotate_left
  · intro w hSw; (try dsimp only at hSw); go_simp; try with_reducible rfl
  change wpAnyH _ _ _ _ _ _ _ (Act.put _ (some 48) _) _
  try simp only [Act.put, List.setIfInBounds_toArray, List.set_cons_zero, List.set_cons_succ]
  refine wpAnyH_take (i := 44) (v := ?_) rfl (by kernel_rfl) (by kernel_rfl) (by kernel_rfl) (fun _ _ _ h => h) (Or.inl ⟨by rfl, ?_⟩) (hS13) ?_
  rotate_left
  · intro w hSw; (try dsimp only at hSw); go_simp; try with_reducible rfl
  change wpAnyH _ _ _ _ _ _ _ (Act.put _ (some 49) _) _
  try simp only [Act.put, List.setIfInBounds_toArray, List.set_cons_zero, List.set_cons_succ]
  refine wpAnyH_take (i := 45) (v := ?_) rfl (by kernel_rfl) (by kernel_rfl) (by kernel_rfl) (fun _ _ _ h => h) (Or.inl ⟨by rfl, ?_⟩) (hS13) ?_
  rotate_left
  · intro w hSw; (try dsimp only at hSw); go_simp; try with_reducible rfl
  change wpAnyH _ _ _ _ _ _ _ (Act.put _ (some 50) _) _
  try simp only [Act.put, List.setIfInBounds_toArray, List.set_cons_zero, List.set_cons_succ]
  refine wpAnyH_take (i := 46) (v := ?_) rfl (by kernel_rfl) (by kernel_rfl) (by kernel_rfl) (fun _ _ _ h => h) (Or.inl ⟨by rfl, ?_⟩) (hS13) ?_
  rotate_left
  · intro w hSw; (try dsimp only at hSw); go_simp; try with_reducible rfl
  change wpAnyH _ _ _ _ _ _ _ (Act.put _ (some 51) _) _
  try simp only [Act.put, List.setIfInBounds_toArray, List.set_cons_zero, List.set_cons_succ]
  refine wpAnyH_ready (rs := [47]) (by kernel_rfl) (by simp) ?_
  refine AllReadyH.cons rfl (fun K hK => ?_) AllReadyH.nil
  (try rw [if_pos (show Region.wanted _ _ = true from rfl)])
  go_simp
  refine (HWO.out _ (hE0.trans hW13)).mono ?_
  rintro e W14 ⟨rfl, hN⟩
  have hW14 : Ext w1 W14 := Turn.trans hW13 hN
  refine hK.out _ _ (HS.out _ hW14) (fun hS14 => ?_)
  clear hK K hN
  refine wpAnyH_take (i := 48) (v := ?_) rfl (by kernel_rfl) (by kernel_rfl) (by kernel_rfl) (fun _ _ _ h => h) (Or.inl ⟨by rfl, ?_⟩) (hS14) ?_
  rotate_left
  · intro w hSw; (try dsimp only at hSw); go_simp; try with_reducible rfl
  change wpAnyH _ _ _ _ _ _ _ (Act.put _ (some 53) _) _
  try simp only [Act.put, List.setIfInBounds_toArray, List.set_cons_zero, List.set_cons_succ]
  refine wpAnyH_take (i := 49) (v := ?_) rfl (by kernel_rfl) (by kernel_rfl) (by kernel_rfl) (fun _ _ _ h => h) (Or.inl ⟨by rfl, ?_⟩) (hS14) ?_
  rotate_left
  · intro w hSw; (try dsimp only at hSw); go_simp; try with_reducible rfl
  change wpAnyH _ _ _ _ _ _ _ (Act.put _ (some 4) _) _
  try simp only [Act.put, List.setIfInBounds_toArray, List.set_cons_zero, List.set_cons_succ]
  refine wpAnyH_done (by kernel_rfl) ?_ _
  clear hS2 hS3 hS4 hS5 hS6 hS7 hS8 hS9 hS10 hS11 hS12 hS13 hS14 hS0
  go_wp2
  go_ret
  exact ⟨rfl, hE0.trans hW14⟩
end Go.Proofs.YtapfoaiibjdfnaaDoor
