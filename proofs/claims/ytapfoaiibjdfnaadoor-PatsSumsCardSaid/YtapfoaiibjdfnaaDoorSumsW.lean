/- ablautlaw06.PatsSums: the walk (printed by gensums.py). -/
import Derived.Test.YtapfoaiibjdfnaaDoorGoodC
namespace Go.Proofs.YtapfoaiibjdfnaaDoor
open Go.RowKit Go.Ab
attribute [local go_sem] Oper.semAt_some wide_fn wide_depth

theorem sums_law_both {w : World} {p q : Pat} {cs ds : List Value} {v : Value} {ws : Wd} (hT : Tab w) (hp : PatAt (fun g => g < w.heap.size) w p cs) (hq : PatAt (fun g => g < w.heap.size) w q ds) (hv : WordAt w v ws)
    (hc : cs.length = 7) (hd : ds.length = 7) (h1 : relE p ws = 0) (h2 : relE q ws = 0) (h3 : sizeP p + sizeP q ≤ 39) (V : World) (hE : Ext w V) (gb : Nat) (hb : V.heap[gb]? = some (.cells (cs ++ ds).toArray 27 (0, 0))) (k : Int) (hk : k = 3 ∨ k = 4) :
    Calls Tryd.prog 27 #[.agg (patCells k 0 0 false 0 0 (some ⟨gb, 0, none⟩) 2 2).toArray, v] V fun e w' => ∃ u, e = .returned (.tuple #[u, .bool true]) ∧ Grid w' u (ws.length + 1) (ws.length + 1) (if k = 3 then comp (relP ws p) (relP ws q) else orB (relP ws p) (relP ws q)) ∧ Ext V w' := by
  have hn : ws.length ≤ 32 := (relE_zero.1 h1).2.1
  have ht : totP p + totP q ≤ 39 := by rw [sizeP_tot, sizeP_tot] at h3; omega
  have hall : ∀ x ∈ [p, q], allN x := fun x hx => by
    simp only [List.mem_cons, List.not_mem_nil, or_false] at hx
    rcases hx with rfl | rfl
    · exact good_allN h1
    · exact good_allN h2
  have hpat : PatAt (fun g => g < V.heap.size) V (.node k 0 0 false 0 0 [p, q]) (patCells k 0 0 false 0 0 (some ⟨gb, 0, none⟩) 2 2) := by
    unfold PatAt
    refine ⟨_, _, rfl, by decide, by decide, by simp, by decide, PatsAt.block (css := [cs, ds]) (by simpa using hb) rfl ?_ ?_ (Array.getElem?_eq_some_iff.1 hb).1⟩
    · intro c h
      simp only [List.mem_cons, List.not_mem_nil, or_false] at h
      rcases h with rfl | rfl
      · exact hc
      · exact hd
    · intro j hj
      match j, hj with
      | 0, _ => exact PatAt.bound (hp.ext hE)
      | 1, _ => exact PatAt.bound (hq.ext hE)
  have htot : totP (.node k 0 0 false 0 0 [p, q]) ≤ 40 := by
    rw [totP_node, totL_cons, totL_cons]; simp [totL]; omega
  rcases hk with rfl | rfl
  · have hg := good_of h1 (allN_seq hall) htot
    have := outs_any hpat (fun _ h => h) (hv.ext hE) (hT.keep hE id) hg
    rw [relP_two ws hn] at this
    rw [if_pos rfl]
    exact this
  · have hg := good_of h1 (allN_alt hall) htot
    have := outs_any hpat (fun _ h => h) (hv.ext hE) (hT.keep hE id) hg
    rw [relP_either ws] at this
    rw [if_neg (by decide)]
    exact this

set_option maxRecDepth 100000 in
set_option maxHeartbeats 16000000 in
theorem sums_law (w : World) (hT : Tab w) {p q : Pat} {cs ds : List Value} {v : Value} {ws : Wd} (hp : PatAt (fun g => g < w.heap.size) w p cs) (hq : PatAt (fun g => g < w.heap.size) w q ds) (hv : WordAt w v ws) :
    Calls Tryd.prog 8 #[.agg cs.toArray, .agg ds.toArray, v] w fun e w' => e = .returned (.bool true) ∧ Ext w w' := by
  have hK : ∀ (V : World), Ext w V → ∀ g, g < w.heap.size → g < V.heap.size := fun V hE g h => Nat.lt_of_lt_of_le h hE.size
  have hgx := fun (V : World) (hE : Ext w V) => good_any (hp.ext hE) (hK V hE) (hv.ext hE) (hT.keep hE id)
  have hgy := fun (V : World) (hE : Ext w V) => good_any (hq.ext hE) (hK V hE) (hv.ext hE) (hT.keep hE id)
  have hsx := fun (V : World) (hE : Ext w V) => size_any (hp.ext hE) (hK V hE)
  have hsy := fun (V : World) (hE : Ext w V) => size_any (hq.ext hE) (hK V hE)
  have hwo := fun (V : World) (hE : Ext w V) => works_any V (hT.keep hE id)
  have hox := fun (V : World) (hE : Ext w V) (h : goodV p ws = true) => outs_any (hp.ext hE) (hK V hE) (hv.ext hE) (hT.keep hE id) (goodV_iff.1 h)
  have hoy := fun (V : World) (hE : Ext w V) (h : goodV q ws = true) => outs_any (hq.ext hE) (hK V hE) (hv.ext hE) (hT.keep hE id) (goodV_iff.1 h)
  have hlaw : goodV p ws = true → ws.length ≤ 32 ∧ Mono ws.length (relP ws p) ∧ Mono ws.length (relP ws q) := fun h => ⟨goodV_len h, relP_mono ws p, relP_mono ws q⟩
  have hsb : sizeP p ≤ 41 ∧ sizeP q ≤ 41 := by rw [sizeP_tot, sizeP_tot]; omega
  have hbo := fun (h1 : goodV p ws = true) (h2 : goodV q ws = true) (h3 : sizeP p + sizeP q ≤ 39) (hc : cs.length = 7) (hd : ds.length = 7) => sums_law_both hT hp hq hv hc hd (goodV_iff.1 h1) (goodV_iff.1 h2) h3
  obtain ⟨ao, cap, rfl, hlc, hcm, _⟩ := patAt_cells hp
  obtain ⟨qo, qcap, rfl, hlc', hcm', _⟩ := patAt_cells hq
  obtain ⟨bo, bcap, rfl, hbm⟩ := hv.slice
  have hbo := fun h1 h2 h3 => hbo h1 h2 h3 rfl rfl
  have HGX := Lib.hid hgx; have HGY := Lib.hid hgy; have HSX := Lib.hid hsx; have HSY := Lib.hid hsy; have HWO := Lib.hid hwo; have HOX := Lib.hid hox; have HOY := Lib.hid hoy; have HLAW := Lib.hid hlaw; have HBO := Lib.hid hbo
  clear hgx hgy hsx hsy hwo hox hoy hlaw hbo hp hq hlc hcm hlc' hcm' hv hT hK
  obtain ⟨X, hX⟩ : ∃ R, relP ws p = R := ⟨_, rfl⟩
  obtain ⟨Y, hY⟩ : ∃ R, relP ws q = R := ⟨_, rfl⟩
  obtain ⟨gx, hgx⟩ : ∃ b, goodV p ws = b := ⟨_, rfl⟩
  obtain ⟨gy, hgy⟩ : ∃ b, goodV q ws = b := ⟨_, rfl⟩
  obtain ⟨sx, hsx⟩ : ∃ b, sizeP p = b := ⟨_, rfl⟩
  obtain ⟨sy, hsy⟩ : ∃ b, sizeP q = b := ⟨_, rfl⟩
  obtain ⟨n, hN⟩ : ∃ n, ws.length = n := ⟨_, rfl⟩
  rw [hgx] at HGX HOX HBO HLAW
  rw [hgy] at HGY HOY HBO
  rw [hsx] at HSX HBO hsb
  rw [hsy] at HSY HBO hsb
  rw [hX] at HOX HBO HLAW
  rw [hY] at HOY HBO HLAW
  rw [hN] at HGX HGY HOX HOY HBO HLAW hbm ⊢
  clear hX hY hgx hgy hsx hsy hN
  obtain ⟨hs1, hs2⟩ := hsb
  unfold maxLen at hbm
  unfold patCells at HGX HGY HSX HSY HOX HOY HBO ⊢
  simp only [List.cons_append, List.nil_append] at HBO
  go_enter Tryd.func8, Tryd.ntmps8
  go_wp2_with fail
  have hx0 : ((w.alloc (.cells #[.int .i64 p.k, .int .u32 (p.pl : Int), .int .u32 (p.mi : Int), .bool p.nt, .int .i64 p.mn, .int .i64 p.mx, .slice ao p.l.length cap] 27)).alloc (.cells #[.int .i64 q.k, .int .u32 (q.pl : Int), .int .u32 (q.mi : Int), .bool q.nt, .int .i64 q.mn, .int .i64 q.mx, .slice qo q.l.length qcap] 27)).heap[w.heap.size]? = some (.cells #[.int .i64 p.k, .int .u32 (p.pl : Int), .int .u32 (p.mi : Int), .bool p.nt, .int .i64 p.mn, .int .i64 p.mx, .slice ao p.l.length cap] 27 (0, 0)) := new_keep (new_at rfl)
  have hy0 : ((w.alloc (.cells #[.int .i64 p.k, .int .u32 (p.pl : Int), .int .u32 (p.mi : Int), .bool p.nt, .int .i64 p.mn, .int .i64 p.mx, .slice ao p.l.length cap] 27)).alloc (.cells #[.int .i64 q.k, .int .u32 (q.pl : Int), .int .u32 (q.mi : Int), .bool q.nt, .int .i64 q.mn, .int .i64 q.mx, .slice qo q.l.length qcap] 27)).heap[w.heap.size + 1]? = some (.cells #[.int .i64 q.k, .int .u32 (q.pl : Int), .int .u32 (q.mi : Int), .bool q.nt, .int .i64 q.mn, .int .i64 q.mx, .slice qo q.l.length qcap] 27 (0, 0)) := new_at (by simp)
  have hE0 : Ext w ((w.alloc (.cells #[.int .i64 p.k, .int .u32 (p.pl : Int), .int .u32 (p.mi : Int), .bool p.nt, .int .i64 p.mn, .int .i64 p.mx, .slice ao p.l.length cap] 27)).alloc (.cells #[.int .i64 q.k, .int .u32 (q.pl : Int), .int .u32 (q.mi : Int), .bool q.nt, .int .i64 q.mn, .int .i64 q.mx, .slice qo q.l.length qcap] 27)) := ((Turn.refl _ w).alloc _).alloc _
  generalize ((w.alloc (.cells #[.int .i64 p.k, .int .u32 (p.pl : Int), .int .u32 (p.mi : Int), .bool p.nt, .int .i64 p.mn, .int .i64 p.mx, .slice ao p.l.length cap] 27)).alloc (.cells #[.int .i64 q.k, .int .u32 (q.pl : Int), .int .u32 (q.mi : Int), .bool q.nt, .int .i64 q.mn, .int .i64 q.mx, .slice qo q.l.length qcap] 27)) = w1 at hx0 hy0 hE0 ⊢
  generalize w.heap.size = B at hx0 hy0 ⊢
  have hcc : ∀ (D : World), D.heap[B]? = some (.cells #[.int .i64 p.k, .int .u32 (p.pl : Int), .int .u32 (p.mi : Int), .bool p.nt, .int .i64 p.mn, .int .i64 p.mx, .slice ao p.l.length cap] 27 (0, 0)) → D.heap[B + 1]? = some (.cells #[.int .i64 q.k, .int .u32 (q.pl : Int), .int .u32 (q.mi : Int), .bool q.nt, .int .i64 q.mn, .int .i64 q.mx, .slice qo q.l.length qcap] 27 (0, 0)) → D.cell? ⟨B, 0, none⟩ = some (.int .i64 p.k) ∧ D.cell? ⟨B, 1, none⟩ = some (.int .u32 (p.pl : Int)) ∧ D.cell? ⟨B, 2, none⟩ = some (.int .u32 (p.mi : Int)) ∧ D.cell? ⟨B, 3, none⟩ = some (.bool p.nt) ∧ D.cell? ⟨B, 4, none⟩ = some (.int .i64 p.mn) ∧ D.cell? ⟨B, 5, none⟩ = some (.int .i64 p.mx) ∧ D.cell? ⟨B, 6, none⟩ = some (.slice ao p.l.length cap) ∧ D.cell? ⟨(B + 1), 0, none⟩ = some (.int .i64 q.k) ∧ D.cell? ⟨(B + 1), 1, none⟩ = some (.int .u32 (q.pl : Int)) ∧ D.cell? ⟨(B + 1), 2, none⟩ = some (.int .u32 (q.mi : Int)) ∧ D.cell? ⟨(B + 1), 3, none⟩ = some (.bool q.nt) ∧ D.cell? ⟨(B + 1), 4, none⟩ = some (.int .i64 q.mn) ∧ D.cell? ⟨(B + 1), 5, none⟩ = some (.int .i64 q.mx) ∧ D.cell? ⟨(B + 1), 6, none⟩ = some (.slice qo q.l.length qcap) := by
    intro D h0 h1
    simp [World.cell?, h0, h1]
  have hcs : ∀ (D : World), Ext w1 D → D.cell? ⟨B, 0, none⟩ = some (.int .i64 p.k) ∧ D.cell? ⟨B, 1, none⟩ = some (.int .u32 (p.pl : Int)) ∧ D.cell? ⟨B, 2, none⟩ = some (.int .u32 (p.mi : Int)) ∧ D.cell? ⟨B, 3, none⟩ = some (.bool p.nt) ∧ D.cell? ⟨B, 4, none⟩ = some (.int .i64 p.mn) ∧ D.cell? ⟨B, 5, none⟩ = some (.int .i64 p.mx) ∧ D.cell? ⟨B, 6, none⟩ = some (.slice ao p.l.length cap) ∧ D.cell? ⟨(B + 1), 0, none⟩ = some (.int .i64 q.k) ∧ D.cell? ⟨(B + 1), 1, none⟩ = some (.int .u32 (q.pl : Int)) ∧ D.cell? ⟨(B + 1), 2, none⟩ = some (.int .u32 (q.mi : Int)) ∧ D.cell? ⟨(B + 1), 3, none⟩ = some (.bool q.nt) ∧ D.cell? ⟨(B + 1), 4, none⟩ = some (.int .i64 q.mn) ∧ D.cell? ⟨(B + 1), 5, none⟩ = some (.int .i64 q.mx) ∧ D.cell? ⟨(B + 1), 6, none⟩ = some (.slice qo q.l.length qcap) := fun D hD => hcc D (hD.keep hx0) (hD.keep hy0)
  have HS := Lib.hid hcs; have HX := Lib.hid hx0; have HY := Lib.hid hy0
  clear hcc hcs hx0 hy0
  cases gx
  · refine wp_region_held_drew (S := (fun D => D.cell? ⟨B, 0, none⟩ = some (.int .i64 p.k) ∧ D.cell? ⟨B, 1, none⟩ = some (.int .u32 (p.pl : Int)) ∧ D.cell? ⟨B, 2, none⟩ = some (.int .u32 (p.mi : Int)) ∧ D.cell? ⟨B, 3, none⟩ = some (.bool p.nt) ∧ D.cell? ⟨B, 4, none⟩ = some (.int .i64 p.mn) ∧ D.cell? ⟨B, 5, none⟩ = some (.int .i64 p.mx) ∧ D.cell? ⟨B, 6, none⟩ = some (.slice ao p.l.length cap) ∧ D.cell? ⟨(B + 1), 0, none⟩ = some (.int .i64 q.k) ∧ D.cell? ⟨(B + 1), 1, none⟩ = some (.int .u32 (q.pl : Int)) ∧ D.cell? ⟨(B + 1), 2, none⟩ = some (.int .u32 (q.mi : Int)) ∧ D.cell? ⟨(B + 1), 3, none⟩ = some (.bool q.nt) ∧ D.cell? ⟨(B + 1), 4, none⟩ = some (.int .i64 q.mn) ∧ D.cell? ⟨(B + 1), 5, none⟩ = some (.int .i64 q.mx) ∧ D.cell? ⟨(B + 1), 6, none⟩ = some (.slice qo q.l.length qcap))) (by kernel_rfl) (HS.out _ (Turn.drew (Turn.refl _ w1))) ?_
    intro hS0
    refine wpAnyH_take (i := 0) (v := ?_) rfl (by kernel_rfl) (by kernel_rfl) (by kernel_rfl) (fun _ _ _ h => h) (Or.inl ⟨by rfl, ?_⟩) (hS0) ?_
    rotate_left
    · intro w hSw; (try dsimp only at hSw); go_simp; try with_reducible rfl
    change wpAnyH _ _ _ _ _ _ _ (Act.put _ (some 19) _) _
    try simp only [Act.put, List.setIfInBounds_toArray, List.set_cons_zero, List.set_cons_succ]
    refine wpAnyH_take (i := 1) (v := ?_) rfl (by kernel_rfl) (by kernel_rfl) (by kernel_rfl) (fun _ _ _ h => h) (Or.inl ⟨by rfl, ?_⟩) (hS0) ?_
    rotate_left
    · intro w hSw; (try dsimp only at hSw); go_simp; try with_reducible rfl
    change wpAnyH _ _ _ _ _ _ _ (Act.put _ (some 20) _) _
    try simp only [Act.put, List.setIfInBounds_toArray, List.set_cons_zero, List.set_cons_succ]
    refine wpAnyH_ready (rs := [2]) (by kernel_rfl) (by simp) ?_
    refine AllReadyH.cons rfl (fun K hK => ?_) AllReadyH.nil
    (try rw [if_pos (show Region.wanted _ _ = true from rfl)])
    go_simp
    refine (HGX.out _ (hE0.trans (Turn.drew (Turn.refl _ w1)))).mono ?_
    rintro e W2 ⟨rfl, hN⟩
    have hW2 : Ext w1 W2 := Turn.trans (Turn.drew (Turn.refl _ w1)) hN
    refine hK.out _ _ (HS.out _ hW2) (fun hS2 => ?_)
    clear hK K hN
    refine wpAnyH_take (i := 3) (v := ?_) rfl (by kernel_rfl) (by kernel_rfl) (by kernel_rfl) (fun _ _ _ h => h) (Or.inl ⟨by rfl, ?_⟩) (hS2) ?_
    rotate_left
    · intro w hSw; (try dsimp only at hSw); go_simp; try with_reducible rfl
    change wpAnyH _ _ _ _ _ _ _ (Act.put _ (some 22) _) _
    try simp only [Act.put, List.setIfInBounds_toArray, List.set_cons_zero, List.set_cons_succ]
    refine wpAnyH_take (i := 4) (v := ?_) rfl (by kernel_rfl) (by kernel_rfl) (by kernel_rfl) (fun _ _ _ h => h) (Or.inl ⟨by rfl, ?_⟩) (hS2) ?_
    rotate_left
    · intro w hSw; (try dsimp only at hSw); go_simp; try with_reducible rfl
    change wpAnyH _ _ _ _ _ _ _ (Act.put _ (some 23) _) _
    try simp only [Act.put, List.setIfInBounds_toArray, List.set_cons_zero, List.set_cons_succ]
    refine wpAnyH_take (i := 5) (v := undef) rfl (by kernel_rfl) (by kernel_rfl) (by kernel_rfl) (fun _ _ _ h => h) (Or.inr ⟨by rfl, rfl⟩) (hS2) ?_
    change wpAnyH _ _ _ _ _ _ _ (Act.put _ (some 24) _) _
    try simp only [Act.put, List.setIfInBounds_toArray, List.set_cons_zero, List.set_cons_succ]
    refine wpAnyH_take (i := 6) (v := undef) rfl (by kernel_rfl) (by kernel_rfl) (by kernel_rfl) (fun _ _ _ h => h) (Or.inr ⟨by rfl, rfl⟩) (hS2) ?_
    change wpAnyH _ _ _ _ _ _ _ (Act.put _ (some 25) _) _
    try simp only [Act.put, List.setIfInBounds_toArray, List.set_cons_zero, List.set_cons_succ]
    refine wpAnyH_take (i := 7) (v := undef) rfl (by kernel_rfl) (by kernel_rfl) (by kernel_rfl) (fun _ _ _ h => h) (Or.inr ⟨by rfl, rfl⟩) (hS2) ?_
    change wpAnyH _ _ _ _ _ _ _ (Act.put _ (some 26) _) _
    try simp only [Act.put, List.setIfInBounds_toArray, List.set_cons_zero, List.set_cons_succ]
    refine wpAnyH_take (i := 8) (v := undef) rfl (by kernel_rfl) (by kernel_rfl) (by kernel_rfl) (fun _ _ _ h => h) (Or.inr ⟨by rfl, rfl⟩) (hS2) ?_
    change wpAnyH _ _ _ _ _ _ _ (Act.put _ (some 27) _) _
    try simp only [Act.put, List.setIfInBounds_toArray, List.set_cons_zero, List.set_cons_succ]
    refine wpAnyH_take (i := 9) (v := ?_) rfl (by kernel_rfl) (by kernel_rfl) (by kernel_rfl) (fun _ _ _ h => h) (Or.inl ⟨by rfl, ?_⟩) (hS2) ?_
    rotate_left
    · intro w hSw; (try dsimp only at hSw); go_simp; try with_reducible rfl
    change wpAnyH _ _ _ _ _ _ _ (Act.put _ (some 28) _) _
    try simp only [Act.put, List.setIfInBounds_toArray, List.set_cons_zero, List.set_cons_succ]
    refine wpAnyH_take (i := 10) (v := ?_) rfl (by kernel_rfl) (by kernel_rfl) (by kernel_rfl) (fun _ _ _ h => h) (Or.inl ⟨by rfl, ?_⟩) (hS2) ?_
    rotate_left
    · intro w hSw; (try dsimp only at hSw); go_simp; try with_reducible rfl
    change wpAnyH _ _ _ _ _ _ _ (Act.put _ (some 29) _) _
    try simp only [Act.put, List.setIfInBounds_toArray, List.set_cons_zero, List.set_cons_succ]
    refine wpAnyH_take (i := 11) (v := undef) rfl (by kernel_rfl) (by kernel_rfl) (by kernel_rfl) (fun _ _ _ h => h) (Or.inr ⟨by rfl, rfl⟩) (hS2) ?_
    change wpAnyH _ _ _ _ _ _ _ (Act.put _ (some 30) _) _
    try simp only [Act.put, List.setIfInBounds_toArray, List.set_cons_zero, List.set_cons_succ]
    refine wpAnyH_take (i := 12) (v := undef) rfl (by kernel_rfl) (by kernel_rfl) (by kernel_rfl) (fun _ _ _ h => h) (Or.inr ⟨by rfl, rfl⟩) (hS2) ?_
    change wpAnyH _ _ _ _ _ _ _ (Act.put _ (some 31) _) _
    try simp only [Act.put, List.setIfInBounds_toArray, List.set_cons_zero, List.set_cons_succ]
    refine wpAnyH_take (i := 13) (v := undef) rfl (by kernel_rfl) (by kernel_rfl) (by kernel_rfl) (fun _ _ _ h => h) (Or.inr ⟨by rfl, rfl⟩) (hS2) ?_
    change wpAnyH _ _ _ _ _ _ _ (Act.put _ (some 32) _) _
    try simp only [Act.put, List.setIfInBounds_toArray, List.set_cons_zero, List.set_cons_succ]
    refine wpAnyH_take (i := 14) (v := undef) rfl (by kernel_rfl) (by kernel_rfl) (by kernel_rfl) (fun _ _ _ h => h) (Or.inr ⟨by rfl, rfl⟩) (hS2) ?_
    change wpAnyH _ _ _ _ _ _ _ (Act.put _ (some 33) _) _
    try simp only [Act.put, List.setIfInBounds_toArray, List.set_cons_zero, List.set_cons_succ]
    refine wpAnyH_take (i := 15) (v := undef) rfl (by kernel_rfl) (by kernel_rfl) (by kernel_rfl) (fun _ _ _ h => h) (Or.inr ⟨by rfl, rfl⟩) (hS2) ?_
    change wpAnyH _ _ _ _ _ _ _ (Act.put _ (some 34) _) _
    try simp only [Act.put, List.setIfInBounds_toArray, List.set_cons_zero, List.set_cons_succ]
    refine wpAnyH_take (i := 16) (v := undef) rfl (by kernel_rfl) (by kernel_rfl) (by kernel_rfl) (fun _ _ _ h => h) (Or.inr ⟨by rfl, rfl⟩) (hS2) ?_
    change wpAnyH _ _ _ _ _ _ _ (Act.put _ (some 35) _) _
    try simp only [Act.put, List.setIfInBounds_toArray, List.set_cons_zero, List.set_cons_succ]
    refine wpAnyH_take (i := 17) (v := ?_) rfl (by kernel_rfl) (by kernel_rfl) (by kernel_rfl) (fun _ _ _ h => h) (Or.inl ⟨by rfl, ?_⟩) (hS2) ?_
    rotate_left
    · intro w hSw; (try dsimp only at hSw); go_simp; try with_reducible rfl
    change wpAnyH _ _ _ _ _ _ _ (Act.put _ (some 36) _) _
    try simp only [Act.put, List.setIfInBounds_toArray, List.set_cons_zero, List.set_cons_succ]
    refine wpAnyH_done (by kernel_rfl) ?_ _
    go_wp2_with fail
    refine (HWO.out _ (hE0.trans hW2)).mono ?_
    rintro e W9 ⟨rfl, hE9⟩
    have hE09 := (hE0.trans hW2).trans hE9
    clear hE9
    go_wp2
    go_ret
    exact ⟨rfl, hE09⟩
  cases gy
  · refine wp_region_held_drew (S := (fun D => D.cell? ⟨B, 0, none⟩ = some (.int .i64 p.k) ∧ D.cell? ⟨B, 1, none⟩ = some (.int .u32 (p.pl : Int)) ∧ D.cell? ⟨B, 2, none⟩ = some (.int .u32 (p.mi : Int)) ∧ D.cell? ⟨B, 3, none⟩ = some (.bool p.nt) ∧ D.cell? ⟨B, 4, none⟩ = some (.int .i64 p.mn) ∧ D.cell? ⟨B, 5, none⟩ = some (.int .i64 p.mx) ∧ D.cell? ⟨B, 6, none⟩ = some (.slice ao p.l.length cap) ∧ D.cell? ⟨(B + 1), 0, none⟩ = some (.int .i64 q.k) ∧ D.cell? ⟨(B + 1), 1, none⟩ = some (.int .u32 (q.pl : Int)) ∧ D.cell? ⟨(B + 1), 2, none⟩ = some (.int .u32 (q.mi : Int)) ∧ D.cell? ⟨(B + 1), 3, none⟩ = some (.bool q.nt) ∧ D.cell? ⟨(B + 1), 4, none⟩ = some (.int .i64 q.mn) ∧ D.cell? ⟨(B + 1), 5, none⟩ = some (.int .i64 q.mx) ∧ D.cell? ⟨(B + 1), 6, none⟩ = some (.slice qo q.l.length qcap))) (by kernel_rfl) (HS.out _ (Turn.drew (Turn.refl _ w1))) ?_
    intro hS0
    refine wpAnyH_take (i := 0) (v := ?_) rfl (by kernel_rfl) (by kernel_rfl) (by kernel_rfl) (fun _ _ _ h => h) (Or.inl ⟨by rfl, ?_⟩) (hS0) ?_
    rotate_left
    · intro w hSw; (try dsimp only at hSw); go_simp; try with_reducible rfl
    change wpAnyH _ _ _ _ _ _ _ (Act.put _ (some 19) _) _
    try simp only [Act.put, List.setIfInBounds_toArray, List.set_cons_zero, List.set_cons_succ]
    refine wpAnyH_take (i := 1) (v := ?_) rfl (by kernel_rfl) (by kernel_rfl) (by kernel_rfl) (fun _ _ _ h => h) (Or.inl ⟨by rfl, ?_⟩) (hS0) ?_
    rotate_left
    · intro w hSw; (try dsimp only at hSw); go_simp; try with_reducible rfl
    change wpAnyH _ _ _ _ _ _ _ (Act.put _ (some 20) _) _
    try simp only [Act.put, List.setIfInBounds_toArray, List.set_cons_zero, List.set_cons_succ]
    refine wpAnyH_ready (rs := [2]) (by kernel_rfl) (by simp) ?_
    refine AllReadyH.cons rfl (fun K hK => ?_) AllReadyH.nil
    (try rw [if_pos (show Region.wanted _ _ = true from rfl)])
    go_simp
    refine (HGX.out _ (hE0.trans (Turn.drew (Turn.refl _ w1)))).mono ?_
    rintro e W2 ⟨rfl, hN⟩
    have hW2 : Ext w1 W2 := Turn.trans (Turn.drew (Turn.refl _ w1)) hN
    refine hK.out _ _ (HS.out _ hW2) (fun hS2 => ?_)
    clear hK K hN
    refine wpAnyH_take (i := 3) (v := ?_) rfl (by kernel_rfl) (by kernel_rfl) (by kernel_rfl) (fun _ _ _ h => h) (Or.inl ⟨by rfl, ?_⟩) (hS2) ?_
    rotate_left
    · intro w hSw; (try dsimp only at hSw); go_simp; try with_reducible rfl
    change wpAnyH _ _ _ _ _ _ _ (Act.put _ (some 22) _) _
    try simp only [Act.put, List.setIfInBounds_toArray, List.set_cons_zero, List.set_cons_succ]
    refine wpAnyH_take (i := 4) (v := ?_) rfl (by kernel_rfl) (by kernel_rfl) (by kernel_rfl) (fun _ _ _ h => h) (Or.inl ⟨by rfl, ?_⟩) (hS2) ?_
    rotate_left
    · intro w hSw; (try dsimp only at hSw); go_simp; try with_reducible rfl
    change wpAnyH _ _ _ _ _ _ _ (Act.put _ (some 23) _) _
    try simp only [Act.put, List.setIfInBounds_toArray, List.set_cons_zero, List.set_cons_succ]
    refine wpAnyH_take (i := 5) (v := ?_) rfl (by kernel_rfl) (by kernel_rfl) (by kernel_rfl) (fun _ _ _ h => h) (Or.inl ⟨by rfl, ?_⟩) (hS2) ?_
    rotate_left
    · intro w hSw; (try dsimp only at hSw); go_simp; try with_reducible rfl
    change wpAnyH _ _ _ _ _ _ _ (Act.put _ (some 24) _) _
    try simp only [Act.put, List.setIfInBounds_toArray, List.set_cons_zero, List.set_cons_succ]
    refine wpAnyH_take (i := 6) (v := ?_) rfl (by kernel_rfl) (by kernel_rfl) (by kernel_rfl) (fun _ _ _ h => h) (Or.inl ⟨by rfl, ?_⟩) (hS2) ?_
    rotate_left
    · intro w hSw; (try dsimp only at hSw); go_simp; try with_reducible rfl
    change wpAnyH _ _ _ _ _ _ _ (Act.put _ (some 25) _) _
    try simp only [Act.put, List.setIfInBounds_toArray, List.set_cons_zero, List.set_cons_succ]
    refine wpAnyH_ready (rs := [7]) (by kernel_rfl) (by simp) ?_
    refine AllReadyH.cons rfl (fun K hK => ?_) AllReadyH.nil
    (try rw [if_pos (show Region.wanted _ _ = true from rfl)])
    go_simp
    refine (HGY.out _ (hE0.trans hW2)).mono ?_
    rintro e W3 ⟨rfl, hN⟩
    have hW3 : Ext w1 W3 := Turn.trans hW2 hN
    refine hK.out _ _ (HS.out _ hW3) (fun hS3 => ?_)
    clear hK K hN
    refine wpAnyH_take (i := 8) (v := ?_) rfl (by kernel_rfl) (by kernel_rfl) (by kernel_rfl) (fun _ _ _ h => h) (Or.inl ⟨by rfl, ?_⟩) (hS3) ?_
    rotate_left
    · intro w hSw; (try dsimp only at hSw); go_simp; try with_reducible rfl
    change wpAnyH _ _ _ _ _ _ _ (Act.put _ (some 27) _) _
    try simp only [Act.put, List.setIfInBounds_toArray, List.set_cons_zero, List.set_cons_succ]
    refine wpAnyH_take (i := 9) (v := ?_) rfl (by kernel_rfl) (by kernel_rfl) (by kernel_rfl) (fun _ _ _ h => h) (Or.inl ⟨by rfl, ?_⟩) (hS3) ?_
    rotate_left
    · intro w hSw; (try dsimp only at hSw); go_simp; try with_reducible rfl
    change wpAnyH _ _ _ _ _ _ _ (Act.put _ (some 28) _) _
    try simp only [Act.put, List.setIfInBounds_toArray, List.set_cons_zero, List.set_cons_succ]
    refine wpAnyH_take (i := 10) (v := ?_) rfl (by kernel_rfl) (by kernel_rfl) (by kernel_rfl) (fun _ _ _ h => h) (Or.inl ⟨by rfl, ?_⟩) (hS3) ?_
    rotate_left
    · intro w hSw; (try dsimp only at hSw); go_simp; try with_reducible rfl
    change wpAnyH _ _ _ _ _ _ _ (Act.put _ (some 29) _) _
    try simp only [Act.put, List.setIfInBounds_toArray, List.set_cons_zero, List.set_cons_succ]
    refine wpAnyH_take (i := 11) (v := undef) rfl (by kernel_rfl) (by kernel_rfl) (by kernel_rfl) (fun _ _ _ h => h) (Or.inr ⟨by rfl, rfl⟩) (hS3) ?_
    change wpAnyH _ _ _ _ _ _ _ (Act.put _ (some 30) _) _
    try simp only [Act.put, List.setIfInBounds_toArray, List.set_cons_zero, List.set_cons_succ]
    refine wpAnyH_take (i := 12) (v := undef) rfl (by kernel_rfl) (by kernel_rfl) (by kernel_rfl) (fun _ _ _ h => h) (Or.inr ⟨by rfl, rfl⟩) (hS3) ?_
    change wpAnyH _ _ _ _ _ _ _ (Act.put _ (some 31) _) _
    try simp only [Act.put, List.setIfInBounds_toArray, List.set_cons_zero, List.set_cons_succ]
    refine wpAnyH_take (i := 13) (v := undef) rfl (by kernel_rfl) (by kernel_rfl) (by kernel_rfl) (fun _ _ _ h => h) (Or.inr ⟨by rfl, rfl⟩) (hS3) ?_
    change wpAnyH _ _ _ _ _ _ _ (Act.put _ (some 32) _) _
    try simp only [Act.put, List.setIfInBounds_toArray, List.set_cons_zero, List.set_cons_succ]
    refine wpAnyH_take (i := 14) (v := undef) rfl (by kernel_rfl) (by kernel_rfl) (by kernel_rfl) (fun _ _ _ h => h) (Or.inr ⟨by rfl, rfl⟩) (hS3) ?_
    change wpAnyH _ _ _ _ _ _ _ (Act.put _ (some 33) _) _
    try simp only [Act.put, List.setIfInBounds_toArray, List.set_cons_zero, List.set_cons_succ]
    refine wpAnyH_take (i := 15) (v := undef) rfl (by kernel_rfl) (by kernel_rfl) (by kernel_rfl) (fun _ _ _ h => h) (Or.inr ⟨by rfl, rfl⟩) (hS3) ?_
    change wpAnyH _ _ _ _ _ _ _ (Act.put _ (some 34) _) _
    try simp only [Act.put, List.setIfInBounds_toArray, List.set_cons_zero, List.set_cons_succ]
    refine wpAnyH_take (i := 16) (v := undef) rfl (by kernel_rfl) (by kernel_rfl) (by kernel_rfl) (fun _ _ _ h => h) (Or.inr ⟨by rfl, rfl⟩) (hS3) ?_
    change wpAnyH _ _ _ _ _ _ _ (Act.put _ (some 35) _) _
    try simp only [Act.put, List.setIfInBounds_toArray, List.set_cons_zero, List.set_cons_succ]
    refine wpAnyH_take (i := 17) (v := ?_) rfl (by kernel_rfl) (by kernel_rfl) (by kernel_rfl) (fun _ _ _ h => h) (Or.inl ⟨by rfl, ?_⟩) (hS3) ?_
    rotate_left
    · intro w hSw; (try dsimp only at hSw); go_simp; try with_reducible rfl
    change wpAnyH _ _ _ _ _ _ _ (Act.put _ (some 36) _) _
    try simp only [Act.put, List.setIfInBounds_toArray, List.set_cons_zero, List.set_cons_succ]
    refine wpAnyH_done (by kernel_rfl) ?_ _
    go_wp2_with fail
    refine (HWO.out _ (hE0.trans hW3)).mono ?_
    rintro e W9 ⟨rfl, hE9⟩
    have hE09 := (hE0.trans hW3).trans hE9
    clear hE9
    go_wp2
    go_ret
    exact ⟨rfl, hE09⟩
  by_cases hsum : sx + sy ≤ 39
  · have hg1 : ¬ ((39 : Int) < (sx : Int) + (sy : Int)) := by omega
    have hg2 : decide ((39 : Int) < (sx : Int) + (sy : Int)) = false := by simpa using hg1
    have hws : IntKind.i64.wrap ((sx : Int) + (sy : Int)) = (sx : Int) + (sy : Int) := IntWalk.i64_in _ (by omega)
    refine wp_region_held_drew (S := (fun D => D.cell? ⟨B, 0, none⟩ = some (.int .i64 p.k) ∧ D.cell? ⟨B, 1, none⟩ = some (.int .u32 (p.pl : Int)) ∧ D.cell? ⟨B, 2, none⟩ = some (.int .u32 (p.mi : Int)) ∧ D.cell? ⟨B, 3, none⟩ = some (.bool p.nt) ∧ D.cell? ⟨B, 4, none⟩ = some (.int .i64 p.mn) ∧ D.cell? ⟨B, 5, none⟩ = some (.int .i64 p.mx) ∧ D.cell? ⟨B, 6, none⟩ = some (.slice ao p.l.length cap) ∧ D.cell? ⟨(B + 1), 0, none⟩ = some (.int .i64 q.k) ∧ D.cell? ⟨(B + 1), 1, none⟩ = some (.int .u32 (q.pl : Int)) ∧ D.cell? ⟨(B + 1), 2, none⟩ = some (.int .u32 (q.mi : Int)) ∧ D.cell? ⟨(B + 1), 3, none⟩ = some (.bool q.nt) ∧ D.cell? ⟨(B + 1), 4, none⟩ = some (.int .i64 q.mn) ∧ D.cell? ⟨(B + 1), 5, none⟩ = some (.int .i64 q.mx) ∧ D.cell? ⟨(B + 1), 6, none⟩ = some (.slice qo q.l.length qcap))) (by kernel_rfl) (HS.out _ (Turn.drew (Turn.refl _ w1))) ?_
    intro hS0
    refine wpAnyH_take (i := 0) (v := ?_) rfl (by kernel_rfl) (by kernel_rfl) (by kernel_rfl) (fun _ _ _ h => h) (Or.inl ⟨by rfl, ?_⟩) (hS0) ?_
    rotate_left
    · intro w hSw; (try dsimp only at hSw); go_simp; try with_reducible rfl
    change wpAnyH _ _ _ _ _ _ _ (Act.put _ (some 19) _) _
    try simp only [Act.put, List.setIfInBounds_toArray, List.set_cons_zero, List.set_cons_succ]
    refine wpAnyH_take (i := 1) (v := ?_) rfl (by kernel_rfl) (by kernel_rfl) (by kernel_rfl) (fun _ _ _ h => h) (Or.inl ⟨by rfl, ?_⟩) (hS0) ?_
    rotate_left
    · intro w hSw; (try dsimp only at hSw); go_simp; try with_reducible rfl
    change wpAnyH _ _ _ _ _ _ _ (Act.put _ (some 20) _) _
    try simp only [Act.put, List.setIfInBounds_toArray, List.set_cons_zero, List.set_cons_succ]
    refine wpAnyH_ready (rs := [2]) (by kernel_rfl) (by simp) ?_
    refine AllReadyH.cons rfl (fun K hK => ?_) AllReadyH.nil
    (try rw [if_pos (show Region.wanted _ _ = true from rfl)])
    go_simp
    refine (HGX.out _ (hE0.trans (Turn.drew (Turn.refl _ w1)))).mono ?_
    rintro e W2 ⟨rfl, hN⟩
    have hW2 : Ext w1 W2 := Turn.trans (Turn.drew (Turn.refl _ w1)) hN
    refine hK.out _ _ (HS.out _ hW2) (fun hS2 => ?_)
    clear hK K hN
    refine wpAnyH_take (i := 3) (v := ?_) rfl (by kernel_rfl) (by kernel_rfl) (by kernel_rfl) (fun _ _ _ h => h) (Or.inl ⟨by rfl, ?_⟩) (hS2) ?_
    rotate_left
    · intro w hSw; (try dsimp only at hSw); go_simp; try with_reducible rfl
    change wpAnyH _ _ _ _ _ _ _ (Act.put _ (some 22) _) _
    try simp only [Act.put, List.setIfInBounds_toArray, List.set_cons_zero, List.set_cons_succ]
    refine wpAnyH_take (i := 4) (v := ?_) rfl (by kernel_rfl) (by kernel_rfl) (by kernel_rfl) (fun _ _ _ h => h) (Or.inl ⟨by rfl, ?_⟩) (hS2) ?_
    rotate_left
    · intro w hSw; (try dsimp only at hSw); go_simp; try with_reducible rfl
    change wpAnyH _ _ _ _ _ _ _ (Act.put _ (some 23) _) _
    try simp only [Act.put, List.setIfInBounds_toArray, List.set_cons_zero, List.set_cons_succ]
    refine wpAnyH_take (i := 5) (v := ?_) rfl (by kernel_rfl) (by kernel_rfl) (by kernel_rfl) (fun _ _ _ h => h) (Or.inl ⟨by rfl, ?_⟩) (hS2) ?_
    rotate_left
    · intro w hSw; (try dsimp only at hSw); go_simp; try with_reducible rfl
    change wpAnyH _ _ _ _ _ _ _ (Act.put _ (some 24) _) _
    try simp only [Act.put, List.setIfInBounds_toArray, List.set_cons_zero, List.set_cons_succ]
    refine wpAnyH_take (i := 6) (v := ?_) rfl (by kernel_rfl) (by kernel_rfl) (by kernel_rfl) (fun _ _ _ h => h) (Or.inl ⟨by rfl, ?_⟩) (hS2) ?_
    rotate_left
    · intro w hSw; (try dsimp only at hSw); go_simp; try with_reducible rfl
    change wpAnyH _ _ _ _ _ _ _ (Act.put _ (some 25) _) _
    try simp only [Act.put, List.setIfInBounds_toArray, List.set_cons_zero, List.set_cons_succ]
    refine wpAnyH_ready (rs := [7]) (by kernel_rfl) (by simp) ?_
    refine AllReadyH.cons rfl (fun K hK => ?_) AllReadyH.nil
    (try rw [if_pos (show Region.wanted _ _ = true from rfl)])
    go_simp
    refine (HGY.out _ (hE0.trans hW2)).mono ?_
    rintro e W3 ⟨rfl, hN⟩
    have hW3 : Ext w1 W3 := Turn.trans hW2 hN
    refine hK.out _ _ (HS.out _ hW3) (fun hS3 => ?_)
    clear hK K hN
    refine wpAnyH_take (i := 8) (v := ?_) rfl (by kernel_rfl) (by kernel_rfl) (by kernel_rfl) (fun _ _ _ h => h) (Or.inl ⟨by rfl, ?_⟩) (hS3) ?_
    rotate_left
    · intro w hSw; (try dsimp only at hSw); go_simp; try with_reducible rfl
    change wpAnyH _ _ _ _ _ _ _ (Act.put _ (some 27) _) _
    try simp only [Act.put, List.setIfInBounds_toArray, List.set_cons_zero, List.set_cons_succ]
    refine wpAnyH_take (i := 9) (v := ?_) rfl (by kernel_rfl) (by kernel_rfl) (by kernel_rfl) (fun _ _ _ h => h) (Or.inl ⟨by rfl, ?_⟩) (hS3) ?_
    rotate_left
    · intro w hSw; (try dsimp only at hSw); go_simp; try with_reducible rfl
    change wpAnyH _ _ _ _ _ _ _ (Act.put _ (some 28) _) _
    try simp only [Act.put, List.setIfInBounds_toArray, List.set_cons_zero, List.set_cons_succ]
    refine wpAnyH_take (i := 10) (v := ?_) rfl (by kernel_rfl) (by kernel_rfl) (by kernel_rfl) (fun _ _ _ h => h) (Or.inl ⟨by rfl, ?_⟩) (hS3) ?_
    rotate_left
    · intro w hSw; (try dsimp only at hSw); go_simp; try with_reducible rfl
    change wpAnyH _ _ _ _ _ _ _ (Act.put _ (some 29) _) _
    try simp only [Act.put, List.setIfInBounds_toArray, List.set_cons_zero, List.set_cons_succ]
    refine wpAnyH_take (i := 11) (v := ?_) rfl (by kernel_rfl) (by kernel_rfl) (by kernel_rfl) (fun _ _ _ h => h) (Or.inl ⟨by rfl, ?_⟩) (hS3) ?_
    rotate_left
    · intro w hSw; (try dsimp only at hSw); go_simp; try with_reducible rfl
    change wpAnyH _ _ _ _ _ _ _ (Act.put _ (some 30) _) _
    try simp only [Act.put, List.setIfInBounds_toArray, List.set_cons_zero, List.set_cons_succ]
    refine wpAnyH_take (i := 13) (v := ?_) rfl (by kernel_rfl) (by kernel_rfl) (by kernel_rfl) (fun _ _ _ h => h) (Or.inl ⟨by rfl, ?_⟩) (hS3) ?_
    rotate_left
    · intro w hSw; (try dsimp only at hSw); go_simp; try with_reducible rfl
    change wpAnyH _ _ _ _ _ _ _ (Act.put _ (some 32) _) _
    try simp only [Act.put, List.setIfInBounds_toArray, List.set_cons_zero, List.set_cons_succ]
    refine wpAnyH_ready (rs := [12]) (by kernel_rfl) (by simp) ?_
    refine AllReadyH.cons rfl (fun K hK => ?_) AllReadyH.nil
    (try rw [if_pos (show Region.wanted _ _ = true from rfl)])
    go_simp
    refine (HSX.out _ (hE0.trans hW3)).mono ?_
    rintro e W4 ⟨rfl, hN⟩
    have hW4 : Ext w1 W4 := Turn.trans hW3 hN
    refine hK.out _ _ (HS.out _ hW4) (fun hS4 => ?_)
    clear hK K hN
    refine wpAnyH_ready (rs := [14]) (by kernel_rfl) (by simp) ?_
    refine AllReadyH.cons rfl (fun K hK => ?_) AllReadyH.nil
    (try rw [if_pos (show Region.wanted _ _ = true from rfl)])
    go_simp
    refine (HSY.out _ (hE0.trans hW4)).mono ?_
    rintro e W5 ⟨rfl, hN⟩
    have hW5 : Ext w1 W5 := Turn.trans hW4 hN
    refine hK.out _ _ (HS.out _ hW5) (fun hS5 => ?_)
    clear hK K hN
    refine wpAnyH_take (i := 15) (v := ?_) rfl (by kernel_rfl) (by kernel_rfl) (by kernel_rfl) (fun _ _ _ h => h) (Or.inl ⟨by rfl, ?_⟩) (hS5) ?_
    rotate_left
    · intro w hSw; (try dsimp only at hSw); go_simp; try with_reducible rfl
    change wpAnyH _ _ _ _ _ _ _ (Act.put _ (some 34) _) _
    try simp only [Act.put, List.setIfInBounds_toArray, List.set_cons_zero, List.set_cons_succ]
    refine wpAnyH_take (i := 16) (v := ?_) rfl (by kernel_rfl) (by kernel_rfl) (by kernel_rfl) (fun _ _ _ h => h) (Or.inl ⟨by rfl, ?_⟩) (hS5) ?_
    rotate_left
    · intro w hSw; (try dsimp only at hSw); go_simp; try with_reducible rfl
    change wpAnyH _ _ _ _ _ _ _ (Act.put _ (some 35) _) _
    try simp only [Act.put, List.setIfInBounds_toArray, List.set_cons_zero, List.set_cons_succ]
    refine wpAnyH_take (i := 17) (v := ?_) rfl (by kernel_rfl) (by kernel_rfl) (by kernel_rfl) (fun _ _ _ h => h) (Or.inl ⟨by rfl, ?_⟩) (hS5) ?_
    rotate_left
    · intro w hSw; (try dsimp only at hSw); go_simp; try with_reducible rfl
    change wpAnyH _ _ _ _ _ _ _ (Act.put _ (some 36) _) _
    try simp only [Act.put, List.setIfInBounds_toArray, List.set_cons_zero, List.set_cons_succ]
    refine wpAnyH_done (by kernel_rfl) ?_ _
    clear hws
    have E := hE0.trans hW5
    have hx := hW5.keep HX.out
    have hy := hW5.keep HY.out
    have cX := fun j => cell_of_row _ _ j _ _ _ hx
    have cY := fun j => cell_of_row _ _ j _ _ _ hy
    obtain ⟨hn, hmx, hmy⟩ := HLAW.out (by first | rfl | trivial)
    have HMX := Lib.hid hmx; have HMY := Lib.hid hmy
    clear hmx hmy hS0 hS2 hS3 hS4 hS5 hW2 hW3 hW4 hW5 hg1 hg2 HS hbo HLAW
    go_wp2_with fail
    refine (HOX.out _ E (by first | rfl | trivial)).mono ?_
    rintro e w6 ⟨u, rfl, hG, hN⟩
    obtain ⟨gu, cu, rfl, hGC⟩ := Grid.open hG
    replace E := E.trans hN
    have hx1 := hN.keep hx
    have hy1 := hN.keep hy
    clear cX cY hx hy
    have hx := hx1; have hy := hy1
    clear hx1 hy1
    have cX := fun j => cell_of_row _ _ j _ _ _ hx
    have cY := fun j => cell_of_row _ _ j _ _ _ hy
    have H1 : GridC w6 gu (n + 1) (n + 1) X := hGC
    clear hN hG hGC
    go_wp2_with fail
    refine (HOY.out _ E (by first | rfl | trivial)).mono ?_
    rintro e w7 ⟨u, rfl, hG, hN⟩
    obtain ⟨gv, cv, rfl, hGC⟩ := Grid.open hG
    replace E := E.trans hN
    have hx1 := hN.keep hx
    have hy1 := hN.keep hy
    clear cX cY hx hy
    have hx := hx1; have hy := hy1
    clear hx1 hy1
    have cX := fun j => cell_of_row _ _ j _ _ _ hx
    have cY := fun j => cell_of_row _ _ j _ _ _ hy
    replace H1 := GridC.ext H1 hN
    have H2 : GridC w7 gv (n + 1) (n + 1) Y := hGC
    clear hN hG hGC
    have HH1 := Lib.hid H1; have HH2 := Lib.hid H2
    clear H1 H2
    go_wp2_with fail
    have hb : (w7.alloc (.cells #[.int .i64 p.k, .int .u32 (p.pl : Int), .int .u32 (p.mi : Int), .bool p.nt, .int .i64 p.mn, .int .i64 p.mx, .slice ao p.l.length cap, .int .i64 q.k, .int .u32 (q.pl : Int), .int .u32 (q.mi : Int), .bool q.nt, .int .i64 q.mn, .int .i64 q.mx, .slice qo q.l.length qcap] 27)).heap[w7.heap.size]? = some (.cells #[.int .i64 p.k, .int .u32 (p.pl : Int), .int .u32 (p.mi : Int), .bool p.nt, .int .i64 p.mn, .int .i64 p.mx, .slice ao p.l.length cap, .int .i64 q.k, .int .u32 (q.pl : Int), .int .u32 (q.mi : Int), .bool q.nt, .int .i64 q.mn, .int .i64 q.mx, .slice qo q.l.length qcap] 27 (0, 0)) := new_at rfl
    have hN : Ext w7 (w7.alloc (.cells #[.int .i64 p.k, .int .u32 (p.pl : Int), .int .u32 (p.mi : Int), .bool p.nt, .int .i64 p.mn, .int .i64 p.mx, .slice ao p.l.length cap, .int .i64 q.k, .int .u32 (q.pl : Int), .int .u32 (q.mi : Int), .bool q.nt, .int .i64 q.mn, .int .i64 q.mx, .slice qo q.l.length qcap] 27)) := (Turn.refl _ _).alloc _
    replace E := E.trans hN
    have hx1 := hN.keep hx
    have hy1 := hN.keep hy
    clear cX cY hx hy
    have hx := hx1; have hy := hy1
    clear hx1 hy1
    have cX := fun j => cell_of_row _ _ j _ _ _ hx
    have cY := fun j => cell_of_row _ _ j _ _ _ hy
    have HK1 := Lib.hid (GridC.ext HH1.out hN); have HK2 := Lib.hid (GridC.ext HH2.out hN)
    clear HH1 HH2
    clear hN
    generalize w7.alloc (.cells #[.int .i64 p.k, .int .u32 (p.pl : Int), .int .u32 (p.mi : Int), .bool p.nt, .int .i64 p.mn, .int .i64 p.mx, .slice ao p.l.length cap, .int .i64 q.k, .int .u32 (q.pl : Int), .int .u32 (q.mi : Int), .bool q.nt, .int .i64 q.mn, .int .i64 q.mx, .slice qo q.l.length qcap] 27) = w7a at hb hx hy cX cY E HK1 HK2 ⊢
    generalize w7.heap.size = gb at hb ⊢
    refine (seq_any' (some ⟨gb, 0, none⟩) 2 2 _).mono ?_
    rintro e w8 ⟨rfl, hN⟩
    replace E := E.trans hN
    have hb8 := hN.keep hb
    have hx1 := hN.keep hx
    have hy1 := hN.keep hy
    clear cX cY hx hy
    have hx := hx1; have hy := hy1
    clear hx1 hy1
    have cX := fun j => cell_of_row _ _ j _ _ _ hx
    have cY := fun j => cell_of_row _ _ j _ _ _ hy
    have HH1 := Lib.hid (GridC.ext HK1.out hN); have HH2 := Lib.hid (GridC.ext HK2.out hN)
    clear HK1 HK2 hN hb
    go_wp2_with fail
    refine (HBO.out (by first | rfl | trivial) (by first | rfl | trivial) hsum _ E _ hb8 3 (.inl rfl)).mono ?_
    rintro e w9 ⟨u, rfl, hG, hN⟩
    rw [if_pos rfl] at hG
    obtain ⟨gc, cc, rfl, hGC⟩ := Grid.open hG
    replace E := E.trans hN
    have hx1 := hN.keep hx
    have hy1 := hN.keep hy
    clear cX cY hx hy
    have hx := hx1; have hy := hy1
    clear hx1 hy1
    have cX := fun j => cell_of_row _ _ j _ _ _ hx
    have cY := fun j => cell_of_row _ _ j _ _ _ hy
    have HK1 := Lib.hid (GridC.ext HH1.out hN); have HK2 := Lib.hid (GridC.ext HH2.out hN)
    have HK3 : Hid (GridC w9 gc (n + 1) (n + 1) (comp X Y)) := Lib.hid hGC
    clear HH1 HH2 hN hG hGC hb8
    go_wp2_with fail
    have hb : (w9.alloc (.cells #[.int .i64 p.k, .int .u32 (p.pl : Int), .int .u32 (p.mi : Int), .bool p.nt, .int .i64 p.mn, .int .i64 p.mx, .slice ao p.l.length cap, .int .i64 q.k, .int .u32 (q.pl : Int), .int .u32 (q.mi : Int), .bool q.nt, .int .i64 q.mn, .int .i64 q.mx, .slice qo q.l.length qcap] 27)).heap[w9.heap.size]? = some (.cells #[.int .i64 p.k, .int .u32 (p.pl : Int), .int .u32 (p.mi : Int), .bool p.nt, .int .i64 p.mn, .int .i64 p.mx, .slice ao p.l.length cap, .int .i64 q.k, .int .u32 (q.pl : Int), .int .u32 (q.mi : Int), .bool q.nt, .int .i64 q.mn, .int .i64 q.mx, .slice qo q.l.length qcap] 27 (0, 0)) := new_at rfl
    have hN : Ext w9 (w9.alloc (.cells #[.int .i64 p.k, .int .u32 (p.pl : Int), .int .u32 (p.mi : Int), .bool p.nt, .int .i64 p.mn, .int .i64 p.mx, .slice ao p.l.length cap, .int .i64 q.k, .int .u32 (q.pl : Int), .int .u32 (q.mi : Int), .bool q.nt, .int .i64 q.mn, .int .i64 q.mx, .slice qo q.l.length qcap] 27)) := (Turn.refl _ _).alloc _
    replace E := E.trans hN
    have hx1 := hN.keep hx
    have hy1 := hN.keep hy
    clear cX cY hx hy
    have hx := hx1; have hy := hy1
    clear hx1 hy1
    have cX := fun j => cell_of_row _ _ j _ _ _ hx
    have cY := fun j => cell_of_row _ _ j _ _ _ hy
    have HH1 := Lib.hid (GridC.ext HK1.out hN); have HH2 := Lib.hid (GridC.ext HK2.out hN); have HH3 := Lib.hid (GridC.ext HK3.out hN)
    clear HK1 HK2 HK3
    clear hN
    generalize w9.alloc (.cells #[.int .i64 p.k, .int .u32 (p.pl : Int), .int .u32 (p.mi : Int), .bool p.nt, .int .i64 p.mn, .int .i64 p.mx, .slice ao p.l.length cap, .int .i64 q.k, .int .u32 (q.pl : Int), .int .u32 (q.mi : Int), .bool q.nt, .int .i64 q.mn, .int .i64 q.mx, .slice qo q.l.length qcap] 27) = w9a at hb hx hy cX cY E HH1 HH2 HH3 ⊢
    generalize w9.heap.size = gb2 at hb ⊢
    go_wp2_with fail
    refine (HBO.out (by first | rfl | trivial) (by first | rfl | trivial) hsum _ E _ hb 4 (.inr rfl)).mono ?_
    rintro e w10 ⟨u, rfl, hG, hN⟩
    rw [if_neg (by decide)] at hG
    obtain ⟨gd, cd, rfl, hGC⟩ := Grid.open hG
    replace E := E.trans hN
    have H1 := Lib.hid (GridC.ext HH1.out hN); have H2 := Lib.hid (GridC.ext HH2.out hN); have H3 := Lib.hid (GridC.ext HH3.out hN)
    have H4 : Hid (GridC w10 gd (n + 1) (n + 1) (orB X Y)) := Lib.hid hGC
    clear HH1 HH2 HH3 hN hG hGC hb cX cY hx hy
    go_wp2
    refine wp_loop (fun a W => ∃ (i : Nat), i ≤ n + 1 ∧ a.defers = [] ∧ (a.tmps.size = 155 ∧ a.tmps.getD 2 undef = .slice bo n bcap ∧ a.tmps.getD 7 undef = .slice (some ⟨gu, 0, none⟩) (n + 1) cu ∧ a.tmps.getD 9 undef = .slice (some ⟨gv, 0, none⟩) (n + 1) cv ∧ a.tmps.getD 11 undef = .slice (some ⟨gc, 0, none⟩) (n + 1) cc ∧ a.tmps.getD 13 undef = .slice (some ⟨gd, 0, none⟩) (n + 1) cd ∧ a.tmps.getD 15 undef = .int .i64 i) ∧ Ext w10 W)
      (fun a _ => n + 1 - (intOf (a.tmps.getD 15 undef)).toNat) ?_ ?_
    · exact ⟨0, by omega, rfl, ⟨rfl, rfl, rfl, rfl, rfl, rfl, rfl⟩, Turn.refl _ _⟩
    rintro ⟨t, _⟩ W ⟨i, hi, hds, ⟨hsz, f2, f7, f9, f11, f13, f15⟩, hE⟩
    subst hds
    obtain ⟨u', hu⟩ := frame_fun hsz
    obtain ⟨u, rfl⟩ : ∃ x, x = u' := ⟨_, rfl⟩
    have hu' : t = #[u 0, u 1, u 2, u 3, u 4, u 5, u 6, u 7, u 8, u 9, u 10, u 11, u 12, u 13, u 14, u 15, u 16, u 17, u 18, u 19, u 20, u 21, u 22, u 23, u 24, u 25, u 26, u 27, u 28, u 29, u 30, u 31, u 32, u 33, u 34, u 35, u 36, u 37, u 38, u 39, u 40, u 41, u 42, u 43, u 44, u 45, u 46, u 47, u 48, u 49, u 50, u 51, u 52, u 53, u 54, u 55, u 56, u 57, u 58, u 59, u 60, u 61, u 62, u 63, u 64, u 65, u 66, u 67, u 68, u 69, u 70, u 71, u 72, u 73, u 74, u 75, u 76, u 77, u 78, u 79, u 80, u 81, u 82, u 83, u 84, u 85, u 86, u 87, u 88, u 89, u 90, u 91, u 92, u 93, u 94, u 95, u 96, u 97, u 98, u 99, u 100, u 101, u 102, u 103, u 104, u 105, u 106, u 107, u 108, u 109, u 110, u 111, u 112, u 113, u 114, u 115, u 116, u 117, u 118, u 119, u 120, u 121, u 122, u 123, u 124, u 125, u 126, u 127, u 128, u 129, u 130, u 131, u 132, u 133, u 134, u 135, u 136, u 137, u 138, u 139, u 140, u 141, u 142, u 143, u 144, u 145, u 146, u 147, u 148, u 149, u 150, u 151, u 152, u 153, u 154] := hu
    clear hu
    subst hu'
    change u 2 = _ at f2
    change u 7 = _ at f7
    change u 9 = _ at f9
    change u 11 = _ at f11
    change u 13 = _ at f13
    change u 15 = _ at f15
    rw [f2, f7, f9, f11, f13, f15]
    clear f2 f7 f9 f11 f13 f15 hsz
    by_cases hin : i < n + 1
    · have h1 : (i : Int) ≤ (n : Int) := by omega
      have h1' : (i : Int) < (n : Int) + 1 := by omega
      go_wp2
      refine wp_loop (fun a V => ∃ (k : Nat), k ≤ n + 1 ∧ a.defers = [] ∧ (a.tmps.size = 155 ∧ a.tmps.getD 2 undef = .slice bo n bcap ∧ a.tmps.getD 7 undef = .slice (some ⟨gu, 0, none⟩) (n + 1) cu ∧ a.tmps.getD 9 undef = .slice (some ⟨gv, 0, none⟩) (n + 1) cv ∧ a.tmps.getD 11 undef = .slice (some ⟨gc, 0, none⟩) (n + 1) cc ∧ a.tmps.getD 13 undef = .slice (some ⟨gd, 0, none⟩) (n + 1) cd ∧ a.tmps.getD 15 undef = .int .i64 i ∧ a.tmps.getD 16 undef = .int .i64 k) ∧ Ext w10 V)
        (fun a _ => n + 1 - (intOf (a.tmps.getD 16 undef)).toNat) ?_ ?_
      · exact ⟨0, by omega, rfl, ⟨rfl, rfl, rfl, rfl, rfl, rfl, rfl, rfl⟩, hE⟩
      clear hE
      rintro ⟨t, _⟩ V ⟨k, hk, hds, ⟨hsz, f2, f7, f9, f11, f13, f15, f16⟩, hE⟩
      subst hds
      obtain ⟨u', hu⟩ := frame_fun hsz
      obtain ⟨u, rfl⟩ : ∃ x, x = u' := ⟨_, rfl⟩
      have hu' : t = #[u 0, u 1, u 2, u 3, u 4, u 5, u 6, u 7, u 8, u 9, u 10, u 11, u 12, u 13, u 14, u 15, u 16, u 17, u 18, u 19, u 20, u 21, u 22, u 23, u 24, u 25, u 26, u 27, u 28, u 29, u 30, u 31, u 32, u 33, u 34, u 35, u 36, u 37, u 38, u 39, u 40, u 41, u 42, u 43, u 44, u 45, u 46, u 47, u 48, u 49, u 50, u 51, u 52, u 53, u 54, u 55, u 56, u 57, u 58, u 59, u 60, u 61, u 62, u 63, u 64, u 65, u 66, u 67, u 68, u 69, u 70, u 71, u 72, u 73, u 74, u 75, u 76, u 77, u 78, u 79, u 80, u 81, u 82, u 83, u 84, u 85, u 86, u 87, u 88, u 89, u 90, u 91, u 92, u 93, u 94, u 95, u 96, u 97, u 98, u 99, u 100, u 101, u 102, u 103, u 104, u 105, u 106, u 107, u 108, u 109, u 110, u 111, u 112, u 113, u 114, u 115, u 116, u 117, u 118, u 119, u 120, u 121, u 122, u 123, u 124, u 125, u 126, u 127, u 128, u 129, u 130, u 131, u 132, u 133, u 134, u 135, u 136, u 137, u 138, u 139, u 140, u 141, u 142, u 143, u 144, u 145, u 146, u 147, u 148, u 149, u 150, u 151, u 152, u 153, u 154] := hu
      clear hu
      subst hu'
      change u 2 = _ at f2
      change u 7 = _ at f7
      change u 9 = _ at f9
      change u 11 = _ at f11
      change u 13 = _ at f13
      change u 15 = _ at f15
      change u 16 = _ at f16
      rw [f2, f7, f9, f11, f13, f15, f16]
      clear f2 f7 f9 f11 f13 f15 f16 hsz
      by_cases hkn : k < n + 1
      · have h2 : (k : Int) ≤ (n : Int) := by omega
        have h2' : (k : Int) < (n : Int) + 1 := by omega
        have G1 := Lib.hid (GridC.ext H1.out hE); have G2 := Lib.hid (GridC.ext H2.out hE); have G3 := Lib.hid (GridC.ext H3.out hE); have G4 := Lib.hid (GridC.ext H4.out hE)
        go_wp2
        refine wp_loop (fun a U => ∃ (j : Nat) (tb : Bool), i ≤ j ∧ (j ≤ k + 1 ∨ j = i) ∧ tb = ((List.range (j - i)).any fun d => X i (i + d) && Y (i + d) k) ∧ a.defers = [] ∧ (a.tmps.size = 155 ∧ a.tmps.getD 2 undef = .slice bo n bcap ∧ a.tmps.getD 7 undef = .slice (some ⟨gu, 0, none⟩) (n + 1) cu ∧ a.tmps.getD 9 undef = .slice (some ⟨gv, 0, none⟩) (n + 1) cv ∧ a.tmps.getD 11 undef = .slice (some ⟨gc, 0, none⟩) (n + 1) cc ∧ a.tmps.getD 13 undef = .slice (some ⟨gd, 0, none⟩) (n + 1) cd ∧ a.tmps.getD 15 undef = .int .i64 i ∧ a.tmps.getD 16 undef = .int .i64 k ∧ a.tmps.getD 17 undef = .bool tb ∧ a.tmps.getD 18 undef = .int .i64 j) ∧ U = V)
          (fun a _ => k + 1 - (intOf (a.tmps.getD 18 undef)).toNat) ?_ ?_
        · exact ⟨i, false, Nat.le_refl _, by omega, by simp, rfl, ⟨rfl, rfl, rfl, rfl, rfl, rfl, rfl, rfl, rfl, rfl⟩, rfl⟩
        rintro ⟨t, _⟩ U ⟨j, tb, hj1, hj2, htb, hds, ⟨hsz, f2, f7, f9, f11, f13, f15, f16, f17, f18⟩, hU⟩
        subst hU
        subst hds
        obtain ⟨u', hu⟩ := frame_fun hsz
        obtain ⟨u, rfl⟩ : ∃ x, x = u' := ⟨_, rfl⟩
        have hu' : t = #[u 0, u 1, u 2, u 3, u 4, u 5, u 6, u 7, u 8, u 9, u 10, u 11, u 12, u 13, u 14, u 15, u 16, u 17, u 18, u 19, u 20, u 21, u 22, u 23, u 24, u 25, u 26, u 27, u 28, u 29, u 30, u 31, u 32, u 33, u 34, u 35, u 36, u 37, u 38, u 39, u 40, u 41, u 42, u 43, u 44, u 45, u 46, u 47, u 48, u 49, u 50, u 51, u 52, u 53, u 54, u 55, u 56, u 57, u 58, u 59, u 60, u 61, u 62, u 63, u 64, u 65, u 66, u 67, u 68, u 69, u 70, u 71, u 72, u 73, u 74, u 75, u 76, u 77, u 78, u 79, u 80, u 81, u 82, u 83, u 84, u 85, u 86, u 87, u 88, u 89, u 90, u 91, u 92, u 93, u 94, u 95, u 96, u 97, u 98, u 99, u 100, u 101, u 102, u 103, u 104, u 105, u 106, u 107, u 108, u 109, u 110, u 111, u 112, u 113, u 114, u 115, u 116, u 117, u 118, u 119, u 120, u 121, u 122, u 123, u 124, u 125, u 126, u 127, u 128, u 129, u 130, u 131, u 132, u 133, u 134, u 135, u 136, u 137, u 138, u 139, u 140, u 141, u 142, u 143, u 144, u 145, u 146, u 147, u 148, u 149, u 150, u 151, u 152, u 153, u 154] := hu
        clear hu
        subst hu'
        change u 2 = _ at f2
        change u 7 = _ at f7
        change u 9 = _ at f9
        change u 11 = _ at f11
        change u 13 = _ at f13
        change u 15 = _ at f15
        change u 16 = _ at f16
        change u 17 = _ at f17
        change u 18 = _ at f18
        rw [f2, f7, f9, f11, f13, f15, f16, f17, f18]
        clear f2 f7 f9 f11 f13 f15 f16 f17 f18 hsz
        by_cases hjk : j ≤ k
        · have h3 : (j : Int) ≤ (k : Int) := by omega
          have h3' : (j : Int) < (n : Int) + 1 := by omega
          have hnext : (tb || (X i j && Y j k)) = ((List.range (j + 1 - i)).any fun d => X i (i + d) && Y (i + d) k) := by
            rw [show j + 1 - i = (j - i) + 1 by omega, List.range_succ, List.any_append, ← htb]
            simp only [List.any_cons, List.any_nil, Bool.or_false]
            rw [show i + (j - i) = j by omega]
          obtain ⟨g1, c1, d1, d2⟩ := G1.out i hin
          obtain ⟨g2, c2, d3, d4⟩ := G2.out j (by omega)
          have d5 := d2 j (by omega)
          have d6 := d4 k hkn
          obtain ⟨x1, hx1⟩ : ∃ x, X i j = x := ⟨_, rfl⟩
          obtain ⟨y1, hy1⟩ : ∃ x, Y j k = x := ⟨_, rfl⟩
          rw [hx1, hy1] at hnext
          rw [hx1] at d5
          rw [hy1] at d6
          have HNX := Lib.hid hnext
          clear d2 d4 hx1 hy1 hnext htb
          cases tb
          · cases x1
            · go_wp2
              first | exact ⟨⟨j + 1, false, by omega, by omega, HNX.out, by first | rfl | trivial, ⟨rfl, rfl, rfl, rfl, rfl, rfl, rfl, rfl, rfl, rfl⟩, by first | rfl | trivial⟩, by simp [intOf]; omega⟩ | exact ⟨⟨j + 1, by omega, by omega, HNX.out, by simp⟩, by simp [intOf]; omega⟩
            · cases y1
              all_goals
                go_wp2
                first | exact ⟨⟨j + 1, _, by omega, by omega, HNX.out, by first | rfl | trivial, ⟨rfl, rfl, rfl, rfl, rfl, rfl, rfl, rfl, rfl, rfl⟩, by first | rfl | trivial⟩, by simp [intOf]; omega⟩ | exact ⟨⟨j + 1, by omega, by omega, HNX.out, by simp⟩, by simp [intOf]; omega⟩
          · clear d5 d6
            go_wp2
            first | exact ⟨⟨j + 1, true, by omega, by omega, HNX.out, by first | rfl | trivial, ⟨rfl, rfl, rfl, rfl, rfl, rfl, rfl, rfl, rfl, rfl⟩, by first | rfl | trivial⟩, by simp [intOf]; omega⟩ | exact ⟨⟨j + 1, by omega, by omega, HNX.out, by simp⟩, by simp [intOf]; omega⟩
        · have h3 : ¬ ((j : Int) ≤ (k : Int)) := by omega
          have hfin : tb = comp X Y i k := by
            rw [comp_through hn HMX.out HMY.out, htb]
            congr 2
            omega
          obtain ⟨g1, c1, d1, d2⟩ := G1.out i hin
          obtain ⟨g2, c2, d3, d4⟩ := G2.out i hin
          obtain ⟨g3, c3, d5, d6⟩ := G3.out i hin
          obtain ⟨g4, c4, d7, d8⟩ := G4.out i hin
          have e1 := d2 k hkn
          have e2 := d4 k hkn
          have e3 := d6 k hkn
          have e4 := d8 k hkn
          rw [← hfin] at e3
          rw [show orB X Y i k = (X i k || Y i k) from rfl] at e4
          obtain ⟨x1, hx1⟩ : ∃ x, X i k = x := ⟨_, rfl⟩
          obtain ⟨y1, hy1⟩ : ∃ x, Y i k = x := ⟨_, rfl⟩
          rw [hx1] at e1 e4
          rw [hy1] at e2 e4
          clear d2 d4 d6 d8 hx1 hy1 htb hfin
          have hnot : ∀ b : Bool, (b != b) = false := by decide
          cases tb <;> cases x1 <;> cases y1
          all_goals
            simp only [Bool.or_true, Bool.or_false, Bool.true_or, Bool.false_or] at e4
            clear hnot
            go_wp2
            go_quiet (fail)
            go_wp2
            first | exact ⟨⟨k + 1, by omega, by first | rfl | trivial, ⟨rfl, rfl, rfl, rfl, rfl, rfl, rfl, rfl⟩, Turn.drewN hE _⟩, by simp [intOf]; omega⟩ | exact ⟨⟨k + 1, by omega, by simp⟩, by simp [intOf]; omega⟩
      · obtain rfl : k = n + 1 := by omega
        have h2 : ¬ (((n + 1 : Nat) : Int) ≤ (n : Int)) := by omega
        go_wp2
        first | exact ⟨⟨i + 1, by omega, by first | rfl | trivial, ⟨rfl, rfl, rfl, rfl, rfl, rfl, rfl⟩, hE⟩, by simp [intOf]; omega⟩ | exact ⟨⟨i + 1, by omega, by simp⟩, by simp [intOf]; omega⟩
    · obtain rfl : i = n + 1 := by omega
      have h1 : ¬ (((n + 1 : Nat) : Int) ≤ (n : Int)) := by omega
      have E2 := E.trans hE
      go_wp2_with fail
      refine (HWO.out _ E2).mono ?_
      rintro e W9 ⟨rfl, hE9⟩
      have hE09 := E2.trans hE9
      clear hE9
      go_wp2
      go_ret
      exact ⟨rfl, hE09⟩
  · have hg1 : (39 : Int) < (sx : Int) + (sy : Int) := by omega
    have hg2 : decide ((39 : Int) < (sx : Int) + (sy : Int)) = true := by simpa using hg1
    have hws : IntKind.i64.wrap ((sx : Int) + (sy : Int)) = (sx : Int) + (sy : Int) := IntWalk.i64_in _ (by omega)
    refine wp_region_held_drew (S := (fun D => D.cell? ⟨B, 0, none⟩ = some (.int .i64 p.k) ∧ D.cell? ⟨B, 1, none⟩ = some (.int .u32 (p.pl : Int)) ∧ D.cell? ⟨B, 2, none⟩ = some (.int .u32 (p.mi : Int)) ∧ D.cell? ⟨B, 3, none⟩ = some (.bool p.nt) ∧ D.cell? ⟨B, 4, none⟩ = some (.int .i64 p.mn) ∧ D.cell? ⟨B, 5, none⟩ = some (.int .i64 p.mx) ∧ D.cell? ⟨B, 6, none⟩ = some (.slice ao p.l.length cap) ∧ D.cell? ⟨(B + 1), 0, none⟩ = some (.int .i64 q.k) ∧ D.cell? ⟨(B + 1), 1, none⟩ = some (.int .u32 (q.pl : Int)) ∧ D.cell? ⟨(B + 1), 2, none⟩ = some (.int .u32 (q.mi : Int)) ∧ D.cell? ⟨(B + 1), 3, none⟩ = some (.bool q.nt) ∧ D.cell? ⟨(B + 1), 4, none⟩ = some (.int .i64 q.mn) ∧ D.cell? ⟨(B + 1), 5, none⟩ = some (.int .i64 q.mx) ∧ D.cell? ⟨(B + 1), 6, none⟩ = some (.slice qo q.l.length qcap))) (by kernel_rfl) (HS.out _ (Turn.drew (Turn.refl _ w1))) ?_
    intro hS0
    refine wpAnyH_take (i := 0) (v := ?_) rfl (by kernel_rfl) (by kernel_rfl) (by kernel_rfl) (fun _ _ _ h => h) (Or.inl ⟨by rfl, ?_⟩) (hS0) ?_
    rotate_left
    · intro w hSw; (try dsimp only at hSw); go_simp; try with_reducible rfl
    change wpAnyH _ _ _ _ _ _ _ (Act.put _ (some 19) _) _
    try simp only [Act.put, List.setIfInBounds_toArray, List.set_cons_zero, List.set_cons_succ]
    refine wpAnyH_take (i := 1) (v := ?_) rfl (by kernel_rfl) (by kernel_rfl) (by kernel_rfl) (fun _ _ _ h => h) (Or.inl ⟨by rfl, ?_⟩) (hS0) ?_
    rotate_left
    · intro w hSw; (try dsimp only at hSw); go_simp; try with_reducible rfl
    change wpAnyH _ _ _ _ _ _ _ (Act.put _ (some 20) _) _
    try simp only [Act.put, List.setIfInBounds_toArray, List.set_cons_zero, List.set_cons_succ]
    refine wpAnyH_ready (rs := [2]) (by kernel_rfl) (by simp) ?_
    refine AllReadyH.cons rfl (fun K hK => ?_) AllReadyH.nil
    (try rw [if_pos (show Region.wanted _ _ = true from rfl)])
    go_simp
    refine (HGX.out _ (hE0.trans (Turn.drew (Turn.refl _ w1)))).mono ?_
    rintro e W2 ⟨rfl, hN⟩
    have hW2 : Ext w1 W2 := Turn.trans (Turn.drew (Turn.refl _ w1)) hN
    refine hK.out _ _ (HS.out _ hW2) (fun hS2 => ?_)
    clear hK K hN
    refine wpAnyH_take (i := 3) (v := ?_) rfl (by kernel_rfl) (by kernel_rfl) (by kernel_rfl) (fun _ _ _ h => h) (Or.inl ⟨by rfl, ?_⟩) (hS2) ?_
    rotate_left
    · intro w hSw; (try dsimp only at hSw); go_simp; try with_reducible rfl
    change wpAnyH _ _ _ _ _ _ _ (Act.put _ (some 22) _) _
    try simp only [Act.put, List.setIfInBounds_toArray, List.set_cons_zero, List.set_cons_succ]
    refine wpAnyH_take (i := 4) (v := ?_) rfl (by kernel_rfl) (by kernel_rfl) (by kernel_rfl) (fun _ _ _ h => h) (Or.inl ⟨by rfl, ?_⟩) (hS2) ?_
    rotate_left
    · intro w hSw; (try dsimp only at hSw); go_simp; try with_reducible rfl
    change wpAnyH _ _ _ _ _ _ _ (Act.put _ (some 23) _) _
    try simp only [Act.put, List.setIfInBounds_toArray, List.set_cons_zero, List.set_cons_succ]
    refine wpAnyH_take (i := 5) (v := ?_) rfl (by kernel_rfl) (by kernel_rfl) (by kernel_rfl) (fun _ _ _ h => h) (Or.inl ⟨by rfl, ?_⟩) (hS2) ?_
    rotate_left
    · intro w hSw; (try dsimp only at hSw); go_simp; try with_reducible rfl
    change wpAnyH _ _ _ _ _ _ _ (Act.put _ (some 24) _) _
    try simp only [Act.put, List.setIfInBounds_toArray, List.set_cons_zero, List.set_cons_succ]
    refine wpAnyH_take (i := 6) (v := ?_) rfl (by kernel_rfl) (by kernel_rfl) (by kernel_rfl) (fun _ _ _ h => h) (Or.inl ⟨by rfl, ?_⟩) (hS2) ?_
    rotate_left
    · intro w hSw; (try dsimp only at hSw); go_simp; try with_reducible rfl
    change wpAnyH _ _ _ _ _ _ _ (Act.put _ (some 25) _) _
    try simp only [Act.put, List.setIfInBounds_toArray, List.set_cons_zero, List.set_cons_succ]
    refine wpAnyH_ready (rs := [7]) (by kernel_rfl) (by simp) ?_
    refine AllReadyH.cons rfl (fun K hK => ?_) AllReadyH.nil
    (try rw [if_pos (show Region.wanted _ _ = true from rfl)])
    go_simp
    refine (HGY.out _ (hE0.trans hW2)).mono ?_
    rintro e W3 ⟨rfl, hN⟩
    have hW3 : Ext w1 W3 := Turn.trans hW2 hN
    refine hK.out _ _ (HS.out _ hW3) (fun hS3 => ?_)
    clear hK K hN
    refine wpAnyH_take (i := 8) (v := ?_) rfl (by kernel_rfl) (by kernel_rfl) (by kernel_rfl) (fun _ _ _ h => h) (Or.inl ⟨by rfl, ?_⟩) (hS3) ?_
    rotate_left
    · intro w hSw; (try dsimp only at hSw); go_simp; try with_reducible rfl
    change wpAnyH _ _ _ _ _ _ _ (Act.put _ (some 27) _) _
    try simp only [Act.put, List.setIfInBounds_toArray, List.set_cons_zero, List.set_cons_succ]
    refine wpAnyH_take (i := 9) (v := ?_) rfl (by kernel_rfl) (by kernel_rfl) (by kernel_rfl) (fun _ _ _ h => h) (Or.inl ⟨by rfl, ?_⟩) (hS3) ?_
    rotate_left
    · intro w hSw; (try dsimp only at hSw); go_simp; try with_reducible rfl
    change wpAnyH _ _ _ _ _ _ _ (Act.put _ (some 28) _) _
    try simp only [Act.put, List.setIfInBounds_toArray, List.set_cons_zero, List.set_cons_succ]
    refine wpAnyH_take (i := 10) (v := ?_) rfl (by kernel_rfl) (by kernel_rfl) (by kernel_rfl) (fun _ _ _ h => h) (Or.inl ⟨by rfl, ?_⟩) (hS3) ?_
    rotate_left
    · intro w hSw; (try dsimp only at hSw); go_simp; try with_reducible rfl
    change wpAnyH _ _ _ _ _ _ _ (Act.put _ (some 29) _) _
    try simp only [Act.put, List.setIfInBounds_toArray, List.set_cons_zero, List.set_cons_succ]
    refine wpAnyH_take (i := 11) (v := ?_) rfl (by kernel_rfl) (by kernel_rfl) (by kernel_rfl) (fun _ _ _ h => h) (Or.inl ⟨by rfl, ?_⟩) (hS3) ?_
    rotate_left
    · intro w hSw; (try dsimp only at hSw); go_simp; try with_reducible rfl
    change wpAnyH _ _ _ _ _ _ _ (Act.put _ (some 30) _) _
    try simp only [Act.put, List.setIfInBounds_toArray, List.set_cons_zero, List.set_cons_succ]
    refine wpAnyH_take (i := 13) (v := ?_) rfl (by kernel_rfl) (by kernel_rfl) (by kernel_rfl) (fun _ _ _ h => h) (Or.inl ⟨by rfl, ?_⟩) (hS3) ?_
    rotate_left
    · intro w hSw; (try dsimp only at hSw); go_simp; try with_reducible rfl
    change wpAnyH _ _ _ _ _ _ _ (Act.put _ (some 32) _) _
    try simp only [Act.put, List.setIfInBounds_toArray, List.set_cons_zero, List.set_cons_succ]
    refine wpAnyH_ready (rs := [12]) (by kernel_rfl) (by simp) ?_
    refine AllReadyH.cons rfl (fun K hK => ?_) AllReadyH.nil
    (try rw [if_pos (show Region.wanted _ _ = true from rfl)])
    go_simp
    refine (HSX.out _ (hE0.trans hW3)).mono ?_
    rintro e W4 ⟨rfl, hN⟩
    have hW4 : Ext w1 W4 := Turn.trans hW3 hN
    refine hK.out _ _ (HS.out _ hW4) (fun hS4 => ?_)
    clear hK K hN
    refine wpAnyH_ready (rs := [14]) (by kernel_rfl) (by simp) ?_
    refine AllReadyH.cons rfl (fun K hK => ?_) AllReadyH.nil
    (try rw [if_pos (show Region.wanted _ _ = true from rfl)])
    go_simp
    refine (HSY.out _ (hE0.trans hW4)).mono ?_
    rintro e W5 ⟨rfl, hN⟩
    have hW5 : Ext w1 W5 := Turn.trans hW4 hN
    refine hK.out _ _ (HS.out _ hW5) (fun hS5 => ?_)
    clear hK K hN
    refine wpAnyH_take (i := 15) (v := ?_) rfl (by kernel_rfl) (by kernel_rfl) (by kernel_rfl) (fun _ _ _ h => h) (Or.inl ⟨by rfl, ?_⟩) (hS5) ?_
    rotate_left
    · intro w hSw; (try dsimp only at hSw); go_simp; try with_reducible rfl
    change wpAnyH _ _ _ _ _ _ _ (Act.put _ (some 34) _) _
    try simp only [Act.put, List.setIfInBounds_toArray, List.set_cons_zero, List.set_cons_succ]
    refine wpAnyH_take (i := 16) (v := ?_) rfl (by kernel_rfl) (by kernel_rfl) (by kernel_rfl) (fun _ _ _ h => h) (Or.inl ⟨by rfl, ?_⟩) (hS5) ?_
    rotate_left
    · intro w hSw; (try dsimp only at hSw); go_simp; try with_reducible rfl
    change wpAnyH _ _ _ _ _ _ _ (Act.put _ (some 35) _) _
    try simp only [Act.put, List.setIfInBounds_toArray, List.set_cons_zero, List.set_cons_succ]
    refine wpAnyH_take (i := 17) (v := ?_) rfl (by kernel_rfl) (by kernel_rfl) (by kernel_rfl) (fun _ _ _ h => h) (Or.inl ⟨by rfl, ?_⟩) (hS5) ?_
    rotate_left
    · intro w hSw; (try dsimp only at hSw); go_simp; try with_reducible rfl
    change wpAnyH _ _ _ _ _ _ _ (Act.put _ (some 36) _) _
    try simp only [Act.put, List.setIfInBounds_toArray, List.set_cons_zero, List.set_cons_succ]
    refine wpAnyH_done (by kernel_rfl) ?_ _
    clear hws
    go_wp2_with fail
    refine (HWO.out _ (hE0.trans hW5)).mono ?_
    rintro e W9 ⟨rfl, hE9⟩
    have hE09 := (hE0.trans hW5).trans hE9
    clear hE9
    go_wp2
    go_ret
    exact ⟨rfl, hE09⟩
end Go.Proofs.YtapfoaiibjdfnaaDoor
