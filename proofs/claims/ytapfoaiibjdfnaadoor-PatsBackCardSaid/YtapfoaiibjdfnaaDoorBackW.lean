/- ablautlaw06.PatsBack: the walk (printed by genback.py). -/
import Derived.Test.YtapfoaiibjdfnaaDoorMirP
import Derived.Test.YtapfoaiibjdfnaaDoorRevW
import Derived.Test.YtapfoaiibjdfnaaDoorMg
import Derived.Test.YtapfoaiibjdfnaaDoorMe
namespace Go.Proofs.YtapfoaiibjdfnaaDoor
open Go.RowKit Go.Ab
attribute [local go_sem] Oper.semAt_some wide_fn wide_depth

theorem mirP_chk {p : Pat} (h : chkP p = 0) : chkP (mirP p) = 0 := by
  rw [chkP_zero] at h ⊢
  exact ⟨mirP_allN p h.1, by rw [mirP_tot]; exact h.2⟩
theorem equalV_refl2 {p : Pat} (h : chkP p = 0) : equalV p p = true := by rw [equalV_refl, decide_eq_true h]
theorem relE_mirror {p : Pat} {ws : Wd} (h : relE p ws = 0) : relE (mirP p) ws.reverse = 0 := by
  rw [relE_zero] at h ⊢
  refine ⟨mirP_chk h.1, by rw [List.length_reverse]; exact h.2.1, ?_⟩
  have h3 := h.2.2
  unfold allV at h3 ⊢
  rw [List.all_eq_true] at h3 ⊢
  exact fun x hx => h3 x (List.mem_reverse.1 hx)

set_option maxRecDepth 100000 in
set_option maxHeartbeats 16000000 in
theorem back_law (w : World) (hT : Tab w) {p : Pat} {cs : List Value} {v : Value} {ws : Wd} (hp : PatAt (fun g => g < w.heap.size) w p cs) (hv : WordAt w v ws) :
    Calls Tryd.prog 13 #[.agg cs.toArray, v] w fun e w' => e = .returned (.bool true) ∧ Ext w w' := by
  have hK : ∀ (V : World), Ext w V → ∀ g, g < w.heap.size → g < V.heap.size := fun V hE g h => Nat.lt_of_lt_of_le h hE.size
  have hgx := fun (V : World) (hE : Ext w V) => good_any (hp.ext hE) (hK V hE) (hv.ext hE) (hT.keep hE id)
  have hwo := fun (V : World) (hE : Ext w V) => works_any V (hT.keep hE id)
  have hgo : goodV p ws = true → chkP p = 0 ∧ ws.length ≤ 32 ∧ relP ws.reverse (mirP p) = flipB ws.length (relP ws p) := fun h => by
    have h0 := relE_zero.1 (goodV_iff.1 h)
    exact ⟨h0.1, h0.2.1, mirror_law ws h0.2.1 p (good_allN (goodV_iff.1 h))⟩
  have hmi : ∀ (V : World), Ext w V → goodV p ws = true → Calls Tryd.prog 39 #[.agg cs.toArray] V fun e w' => ∃ ds : List Value, e = .returned (.tuple #[.agg ds.toArray, .int .i64 0]) ∧ PatSep 27 w' (mirP p) ds (fun b => V.heap.size ≤ b ∧ b < w'.heap.size) ∧ Ext V w' := fun V hE h => by
    have hz := (hgo h).1
    refine (mirror_any (hp.ext hE) (hK V hE) (hT.keep hE id)).mono ?_
    rintro e w' ⟨ds, rfl, h1, _, h3⟩
    exact ⟨ds, by rw [hz], h1 hz, h3⟩
  have hm2 : goodV p ws = true → ∀ (V : World), Ext w V → ∀ {K : Nat → Prop} {ds : List Value}, PatAt K V (mirP p) ds → (∀ g, K g → g < V.heap.size) → Calls Tryd.prog 39 #[.agg ds.toArray] V fun e w' => ∃ es : List Value, e = .returned (.tuple #[.agg es.toArray, .int .i64 0]) ∧ PatSep 27 w' (mirP (mirP p)) es (fun b => V.heap.size ≤ b ∧ b < w'.heap.size) ∧ Ext V w' := fun h V hE K ds hd hb => by
    have hz := mirP_chk (hgo h).1
    refine (mirror_any hd hb (hT.keep hE id)).mono ?_
    rintro e w' ⟨ds, rfl, h1, _, h3⟩
    exact ⟨ds, by rw [hz], h1 hz, h3⟩
  have hre : ∀ (V : World), Ext w V → goodV p ws = true → Calls Tryd.prog 44 #[v] V fun e w' => ∃ ro rcap, e = .returned (.tuple #[.slice ro ws.length rcap, .int .i64 0]) ∧ WordAt w' (.slice ro ws.length rcap) ws.reverse ∧ Ext V w' := fun V hE h => by
    have hw : wE ws = 0 := by
      unfold goodV at h
      simp only [Bool.and_eq_true, decide_eq_true_eq] at h
      exact h.1.2
    refine (reverse_word (hv.ext hE)).mono ?_
    rintro e w' ⟨u, rfl, h1, h3⟩
    rw [hw]
    unfold revV at h1
    rw [if_pos hw] at h1
    obtain ⟨ro, rcap, rfl, _⟩ := h1.slice
    rw [List.length_reverse] at h1 ⊢
    exact ⟨ro, rcap, rfl, h1, h3⟩
  have heq0 : goodV p ws = true → ∀ (V : World), Ext w V → ∀ (q : Pat) (es : List Value), q = p → PatAt (fun g => g < V.heap.size) V q es → Calls Tryd.prog 36 #[.agg cs.toArray, .agg es.toArray] V fun e w' => e = .returned (.bool true) ∧ Ext V w' := fun h V hE q es hq he => by
    subst hq
    refine (equal_any (PatAt.mono (hK V hE) (hp.ext hE)) he (fun _ h => h) (hT.keep hE id)).mono ?_
    rintro e w' ⟨rfl, h3⟩
    exact ⟨by rw [equalV_refl2 (hgo h).1], h3⟩
  have hsx0 := fun (V : World) (hE : Ext w V) => size_any (hp.ext hE) (hK V hE)
  have hsy0 : ∀ (V : World) (ds : List Value), PatAt (fun g => g < V.heap.size) V (mirP p) ds → Calls Tryd.prog 29 #[.agg ds.toArray] V fun e w' => e = .returned (.int .i64 (sizeP p : Int)) ∧ Ext V w' := fun V ds hd => by
    have := size_any hd (fun _ h => h)
    rw [show sizeP (mirP p) = sizeP p by rw [sizeP_tot, sizeP_tot, mirP_tot]] at this
    exact this
  have hex0 := fun (V : World) (hE : Ext w V) => isempty_any (hp.ext hE) (hK V hE) (hT.keep hE id)
  have hey0 : goodV p ws = true → ∀ (V : World), Ext w V → ∀ (ds : List Value), PatAt (fun g => g < V.heap.size) V (mirP p) ds → Calls Tryd.prog 28 #[.agg ds.toArray] V fun e w' => e = .returned (.bool (emptyV p)) ∧ Ext V w' := fun h V hE ds hd => by
    have := isempty_any hd (fun _ h => h) (hT.keep hE id)
    rw [show emptyV (mirP p) = emptyV p by unfold emptyV; rw [mirP_empty, decide_eq_true (hgo h).1, decide_eq_true (mirP_chk (hgo h).1)]] at this
    exact this
  have hox0 := fun (V : World) (hE : Ext w V) (h : goodV p ws = true) => outs_any (hp.ext hE) (hK V hE) (hv.ext hE) (hT.keep hE id) (goodV_iff.1 h)
  have hoy0 : ∀ (V : World), Ext w V → ∀ (ds : List Value) (u : Value), PatAt (fun g => g < V.heap.size) V (mirP p) ds → WordAt V u ws.reverse → goodV p ws = true → Calls Tryd.prog 27 #[.agg ds.toArray, u] V fun e w' => ∃ u, e = .returned (.tuple #[u, .bool true]) ∧ Grid w' u (ws.length + 1) (ws.length + 1) (flipB ws.length (relP ws p)) ∧ Ext V w' := fun V hE ds u hd hu h => by
    have := outs_any hd (fun _ h => h) hu (hT.keep hE id) (relE_mirror (goodV_iff.1 h))
    rw [List.length_reverse, (hgo h).2.2] at this
    exact this
  have hm2' := fun (h : goodV p ws = true) (V : World) (hE : Ext w V) {K : Nat → Prop} {ds : List Value} (hd : PatAt K V (mirP p) ds) (hb : ∀ g, K g → g < V.heap.size) => hm2 h V hE hd hb
  obtain ⟨ao, cap, rfl, hlc, hcm, _⟩ := patAt_cells hp
  obtain ⟨bo, bcap, rfl, hbm⟩ := hv.slice
  have HGX := Lib.hid hgx; have HWO := Lib.hid hwo; have HGO := Lib.hid hgo; have HMI := Lib.hid hmi; have HM20 := Lib.hid @hm2; have HRE := Lib.hid hre; have HEQ00 := Lib.hid heq0; have HSX0 := Lib.hid hsx0; have HSY0 := Lib.hid hsy0; have HEX0 := Lib.hid hex0; have HEY00 := Lib.hid hey0; have HOX0 := Lib.hid hox0; have HOY0 := Lib.hid hoy0
  clear hgx hwo hgo hmi hm2 hm2' hre heq0 hsx0 hsy0 hex0 hey0 hox0 hoy0 hp hlc hcm hv hT hK
  obtain ⟨X, hX⟩ : ∃ R, relP ws p = R := ⟨_, rfl⟩
  obtain ⟨gx, hgx⟩ : ∃ b, goodV p ws = b := ⟨_, rfl⟩
  obtain ⟨s, hs⟩ : ∃ b, sizeP p = b := ⟨_, rfl⟩
  obtain ⟨em, hem⟩ : ∃ b, emptyV p = b := ⟨_, rfl⟩
  obtain ⟨n, hN⟩ : ∃ n, ws.length = n := ⟨_, rfl⟩
  rw [hgx] at HGX HGO HMI HRE HEQ00 HEY00 HOX0 HOY0
  have HM21 : Hid (gx = true → ∀ (V : World), Ext w V → ∀ {K : Nat → Prop} {ds : List Value}, PatAt K V (mirP p) ds → (∀ g, K g → g < V.heap.size) → Calls Tryd.prog 39 #[.agg ds.toArray] V fun e w' => ∃ es : List Value, e = .returned (.tuple #[.agg es.toArray, .int .i64 0]) ∧ PatSep 27 w' (mirP (mirP p)) es (fun b => V.heap.size ≤ b ∧ b < w'.heap.size) ∧ Ext V w') := Lib.hid (fun h V hE K ds hd hb => HM20.out (by rw [hgx]; exact h) V hE hd hb)
  rw [hs] at HSX0 HSY0
  rw [hem] at HEX0 HEY00
  rw [hX] at HOX0 HOY0 HGO
  rw [hN] at HGX HGO HRE HOX0 HOY0 hbm ⊢
  clear hX hgx hs hem hN HM20
  unfold maxLen at hbm
  unfold patCells at HGX HMI HEQ00 HSX0 HEX0 HOX0 ⊢
  go_enter Tryd.func13, Tryd.ntmps13
  go_wp2_with fail
  have hx0 : (w.alloc (.cells #[.int .i64 p.k, .int .u32 (p.pl : Int), .int .u32 (p.mi : Int), .bool p.nt, .int .i64 p.mn, .int .i64 p.mx, .slice ao p.l.length cap] 27)).heap[w.heap.size]? = some (.cells #[.int .i64 p.k, .int .u32 (p.pl : Int), .int .u32 (p.mi : Int), .bool p.nt, .int .i64 p.mn, .int .i64 p.mx, .slice ao p.l.length cap] 27 (0, 0)) := new_at rfl
  have hE0 : Ext w (w.alloc (.cells #[.int .i64 p.k, .int .u32 (p.pl : Int), .int .u32 (p.mi : Int), .bool p.nt, .int .i64 p.mn, .int .i64 p.mx, .slice ao p.l.length cap] 27)) := (Turn.refl _ w).alloc _
  refine (HGX.out _ hE0).mono ?_
  generalize (w.alloc (.cells #[.int .i64 p.k, .int .u32 (p.pl : Int), .int .u32 (p.mi : Int), .bool p.nt, .int .i64 p.mn, .int .i64 p.mx, .slice ao p.l.length cap] 27)) = w1 at hx0 hE0 ⊢
  generalize w.heap.size = B at hx0 ⊢
  rintro e w2 ⟨rfl, hE2⟩
  have E := hE0.trans hE2
  have hx := hE2.keep hx0
  have cX := fun j => cell_of_row _ _ j _ _ _ hx
  clear hE2 hx0 hE0 HGX
  cases gx
  · clear hx cX HGO HMI HRE HEQ00 HEY00 HOX0 HOY0 HM21
    go_wp2_with fail
    refine (HWO.out _ (E)).mono ?_
    rintro e W9 ⟨rfl, hE9⟩
    have hE09 := (E).trans hE9
    clear hE9
    go_wp2
    go_ret
    exact ⟨rfl, hE09⟩
  · have HM2 := Lib.hid (fun V (hE : Ext w V) {K : Nat → Prop} {ds : List Value} (hd : PatAt K V (mirP p) ds) (hb : ∀ g, K g → g < V.heap.size) => HM21.out rfl V hE hd hb)
    have HEQ0 := Lib.hid (fun V (hE : Ext w V) es (he : PatAt (fun g => g < V.heap.size) V (mirP (mirP p)) es) => HEQ00.out rfl V hE _ es (mirP_twice p) he)
    have HEY0 := Lib.hid (HEY00.out rfl)
    clear HM21 HEQ00 HEY00
    have hE02 := E
    obtain ⟨hz, hn, hfl⟩ := HGO.out rfl
    have HFL := Lib.hid hfl
    clear hfl
    go_wp2_with fail
    refine (HMI.out _ E (by first | rfl | trivial)).mono ?_
    rintro e w3 ⟨ds, rfl, hS, hE3⟩
    replace E := E.trans hE3
    have hx3 := hE3.keep hx
    obtain ⟨yk, ypl, ymi, ynt, ymn, ymx, yo, yn, yc, rfl⟩ := sep_cells hS
    clear cX hx hE02 hE3
    have hx := hx3
    clear hx3
    unfold patCells
    go_wp2_with fail
    have hA : Ext w3 (w3.alloc (.cells #[.int .i64 yk, .int .u32 (ypl : Int), .int .u32 (ymi : Int), .bool ynt, .int .i64 ymn, .int .i64 ymx, .slice yo yn yc] 27)) := (Turn.refl _ w3).alloc _
    have hy : (w3.alloc (.cells #[.int .i64 yk, .int .u32 (ypl : Int), .int .u32 (ymi : Int), .bool ynt, .int .i64 ymn, .int .i64 ymx, .slice yo yn yc] 27)).heap[w3.heap.size]? = some (.cells #[.int .i64 yk, .int .u32 (ypl : Int), .int .u32 (ymi : Int), .bool ynt, .int .i64 ymn, .int .i64 ymx, .slice yo yn yc] 27 (0, 0)) := new_at rfl
    have hx4 := hA.keep hx
    have hyat := (hS.keep hA fun _ _ h => h).at
    replace E := E.trans hA
    have hyb : ∀ g, w2.heap.size ≤ g ∧ g < w3.heap.size → g < (w3.alloc (.cells #[.int .i64 yk, .int .u32 (ypl : Int), .int .u32 (ymi : Int), .bool ynt, .int .i64 ymn, .int .i64 ymx, .slice yo yn yc] 27)).heap.size := fun g h => Nat.lt_of_lt_of_le h.2 hA.size
    generalize (w3.alloc (.cells #[.int .i64 yk, .int .u32 (ypl : Int), .int .u32 (ymi : Int), .bool ynt, .int .i64 ymn, .int .i64 ymx, .slice yo yn yc] 27)) = w4 at hy hx4 hyat E hyb ⊢
    generalize w3.heap.size = Y at hy hyat hyb ⊢
    clear hS hA hx
    have hx := hx4
    clear hx4
    refine (HM2.out _ E hyat hyb).mono ?_
    rintro e w5 ⟨es, rfl, hS, hE5⟩
    replace E := E.trans hE5
    have hx5 := hE5.keep hx
    have hy5 := hE5.keep hy
    have hyat5 := hyat.ext hE5
    have hyb5 : ∀ g, w2.heap.size ≤ g ∧ g < Y → g < w5.heap.size := fun g h => Nat.lt_of_lt_of_le (hyb g h) hE5.size
    obtain ⟨zk, zpl, zmi, znt, zmn, zmx, zo, zn, zc, rfl⟩ := sep_cells hS
    clear hx hy hyat hyb hE5
    unfold patCells
    go_wp2_with fail
    have hA : Ext w5 (w5.alloc (.cells #[.int .i64 zk, .int .u32 (zpl : Int), .int .u32 (zmi : Int), .bool znt, .int .i64 zmn, .int .i64 zmx, .slice zo zn zc] 27)) := (Turn.refl _ w5).alloc _
    have hz6 : (w5.alloc (.cells #[.int .i64 zk, .int .u32 (zpl : Int), .int .u32 (zmi : Int), .bool znt, .int .i64 zmn, .int .i64 zmx, .slice zo zn zc] 27)).heap[w5.heap.size]? = some (.cells #[.int .i64 zk, .int .u32 (zpl : Int), .int .u32 (zmi : Int), .bool znt, .int .i64 zmn, .int .i64 zmx, .slice zo zn zc] 27 (0, 0)) := new_at rfl
    have hx := hA.keep hx5
    have hy := hA.keep hy5
    have hzat := (hS.keep hA fun _ _ h => h).at
    have hyat := hyat5.ext hA
    have hyb : ∀ g, w2.heap.size ≤ g ∧ g < Y → g < (w5.alloc (.cells #[.int .i64 zk, .int .u32 (zpl : Int), .int .u32 (zmi : Int), .bool znt, .int .i64 zmn, .int .i64 zmx, .slice zo zn zc] 27)).heap.size := fun g h => Nat.lt_of_lt_of_le (hyb5 g h) hA.size
    have hzb : ∀ g, w4.heap.size ≤ g ∧ g < w5.heap.size → g < (w5.alloc (.cells #[.int .i64 zk, .int .u32 (zpl : Int), .int .u32 (zmi : Int), .bool znt, .int .i64 zmn, .int .i64 zmx, .slice zo zn zc] 27)).heap.size := fun g h => Nat.lt_of_lt_of_le h.2 hA.size
    replace E := E.trans hA
    generalize (w5.alloc (.cells #[.int .i64 zk, .int .u32 (zpl : Int), .int .u32 (zmi : Int), .bool znt, .int .i64 zmn, .int .i64 zmx, .slice zo zn zc] 27)) = w6 at hx hy hz6 hyat hzat hyb hzb E ⊢
    generalize w5.heap.size = Z at hz6 hzat hzb ⊢
    clear hS hA hx5 hy5 hyat5 hyb5
    refine (HRE.out _ E (by first | rfl | trivial)).mono ?_
    rintro e w7 ⟨ro, rcap, rfl, hW7, hE7⟩
    replace E := E.trans hE7
    have hx7 := hE7.keep hx
    have hy7 := hE7.keep hy
    have hz7 := hE7.keep hz6
    have hya : ∀ V, Ext w7 V → PatAt (fun g => g < V.heap.size) V (mirP p) [.int .i64 yk, .int .u32 (ypl : Int), .int .u32 (ymi : Int), .bool ynt, .int .i64 ymn, .int .i64 ymx, .slice yo yn yc] := fun V hV => PatAt.mono (fun g h => Nat.lt_of_lt_of_le (hyb g h) (hE7.trans hV).size) (hyat.ext (hE7.trans hV))
    have hza : ∀ V, Ext w7 V → PatAt (fun g => g < V.heap.size) V (mirP (mirP p)) [.int .i64 zk, .int .u32 (zpl : Int), .int .u32 (zmi : Int), .bool znt, .int .i64 zmn, .int .i64 zmx, .slice zo zn zc] := fun V hV => PatAt.mono (fun g h => Nat.lt_of_lt_of_le (hzb g h) (hE7.trans hV).size) (hzat.ext (hE7.trans hV))
    have heq := fun (V : World) (hV : Ext w7 V) => HEQ0.out V (E.trans hV) _ (hza V hV)
    have hsx := fun (V : World) (hV : Ext w7 V) => HSX0.out V (E.trans hV)
    have hsy := fun (V : World) (hV : Ext w7 V) => HSY0.out V _ (hya V hV)
    have hex := fun (V : World) (hV : Ext w7 V) => HEX0.out V (E.trans hV)
    have hey := fun (V : World) (hV : Ext w7 V) => HEY0.out V (E.trans hV) _ (hya V hV)
    have hox := fun (V : World) (hV : Ext w7 V) => HOX0.out V (E.trans hV) (by first | rfl | trivial)
    have hoy := fun (V : World) (hV : Ext w7 V) => HOY0.out V (E.trans hV) _ _ (hya V hV) (hW7.ext hV) (by first | rfl | trivial)
    have HEQ := Lib.hid heq; have HSX := Lib.hid hsx; have HSY := Lib.hid hsy; have HEX := Lib.hid hex; have HEY := Lib.hid hey; have HOX := Lib.hid hox; have HOY := Lib.hid hoy
    have hcs : ∀ (D : World), Ext w7 D → D.cell? ⟨B, 0, none⟩ = some (.int .i64 p.k) ∧ D.cell? ⟨B, 1, none⟩ = some (.int .u32 (p.pl : Int)) ∧ D.cell? ⟨B, 2, none⟩ = some (.int .u32 (p.mi : Int)) ∧ D.cell? ⟨B, 3, none⟩ = some (.bool p.nt) ∧ D.cell? ⟨B, 4, none⟩ = some (.int .i64 p.mn) ∧ D.cell? ⟨B, 5, none⟩ = some (.int .i64 p.mx) ∧ D.cell? ⟨B, 6, none⟩ = some (.slice ao p.l.length cap) ∧ D.cell? ⟨Y, 0, none⟩ = some (.int .i64 yk) ∧ D.cell? ⟨Y, 1, none⟩ = some (.int .u32 (ypl : Int)) ∧ D.cell? ⟨Y, 2, none⟩ = some (.int .u32 (ymi : Int)) ∧ D.cell? ⟨Y, 3, none⟩ = some (.bool ynt) ∧ D.cell? ⟨Y, 4, none⟩ = some (.int .i64 ymn) ∧ D.cell? ⟨Y, 5, none⟩ = some (.int .i64 ymx) ∧ D.cell? ⟨Y, 6, none⟩ = some (.slice yo yn yc) ∧ D.cell? ⟨Z, 0, none⟩ = some (.int .i64 zk) ∧ D.cell? ⟨Z, 1, none⟩ = some (.int .u32 (zpl : Int)) ∧ D.cell? ⟨Z, 2, none⟩ = some (.int .u32 (zmi : Int)) ∧ D.cell? ⟨Z, 3, none⟩ = some (.bool znt) ∧ D.cell? ⟨Z, 4, none⟩ = some (.int .i64 zmn) ∧ D.cell? ⟨Z, 5, none⟩ = some (.int .i64 zmx) ∧ D.cell? ⟨Z, 6, none⟩ = some (.slice zo zn zc) := by
      intro D hD
      have h0 := hD.keep hx7
      have h1 := hD.keep hy7
      have h2 := hD.keep hz7
      simp [World.cell?, h0, h1, h2]
    have HS := Lib.hid hcs; have HX7 := Lib.hid hx7; have HY7 := Lib.hid hy7
    clear heq hsx hsy hex hey hox hoy hcs hx hy hz6 hyat hzat hyb hzb hE7 hW7 hya hza hx7 hy7 hz7 HEQ0 HSX0 HSY0 HEX0 HEY0 HOX0 HOY0 HMI HM2 HRE HGO
    go_wp2_with fail
    refine wp_region_held_drew (S := fun D => D.cell? ⟨B, 0, none⟩ = some (.int .i64 p.k) ∧ D.cell? ⟨B, 1, none⟩ = some (.int .u32 (p.pl : Int)) ∧ D.cell? ⟨B, 2, none⟩ = some (.int .u32 (p.mi : Int)) ∧ D.cell? ⟨B, 3, none⟩ = some (.bool p.nt) ∧ D.cell? ⟨B, 4, none⟩ = some (.int .i64 p.mn) ∧ D.cell? ⟨B, 5, none⟩ = some (.int .i64 p.mx) ∧ D.cell? ⟨B, 6, none⟩ = some (.slice ao p.l.length cap) ∧ D.cell? ⟨Y, 0, none⟩ = some (.int .i64 yk) ∧ D.cell? ⟨Y, 1, none⟩ = some (.int .u32 (ypl : Int)) ∧ D.cell? ⟨Y, 2, none⟩ = some (.int .u32 (ymi : Int)) ∧ D.cell? ⟨Y, 3, none⟩ = some (.bool ynt) ∧ D.cell? ⟨Y, 4, none⟩ = some (.int .i64 ymn) ∧ D.cell? ⟨Y, 5, none⟩ = some (.int .i64 ymx) ∧ D.cell? ⟨Y, 6, none⟩ = some (.slice yo yn yc) ∧ D.cell? ⟨Z, 0, none⟩ = some (.int .i64 zk) ∧ D.cell? ⟨Z, 1, none⟩ = some (.int .u32 (zpl : Int)) ∧ D.cell? ⟨Z, 2, none⟩ = some (.int .u32 (zmi : Int)) ∧ D.cell? ⟨Z, 3, none⟩ = some (.bool znt) ∧ D.cell? ⟨Z, 4, none⟩ = some (.int .i64 zmn) ∧ D.cell? ⟨Z, 5, none⟩ = some (.int .i64 zmx) ∧ D.cell? ⟨Z, 6, none⟩ = some (.slice zo zn zc)) (by kernel_rfl) (HS.out _ (Turn.drew (Turn.refl _ w7))) ?_
    intro hS0
    refine wpAnyH_take (i := 0) (v := ?_) rfl (by kernel_rfl) (by kernel_rfl) (by kernel_rfl) (fun _ _ _ h => h) (Or.inl ⟨by rfl, ?_⟩) (hS0) ?_
    rotate_left
    · intro w hSw; (try dsimp only at hSw); go_simp; try with_reducible rfl
    change wpAnyH _ _ _ _ _ _ _ (Act.put _ (some 40) _) _
    try simp only [Act.put, List.setIfInBounds_toArray, List.set_cons_zero, List.set_cons_succ]
    refine wpAnyH_take (i := 1) (v := ?_) rfl (by kernel_rfl) (by kernel_rfl) (by kernel_rfl) (fun _ _ _ h => h) (Or.inl ⟨by rfl, ?_⟩) (hS0) ?_
    rotate_left
    · intro w hSw; (try dsimp only at hSw); go_simp; try with_reducible rfl
    change wpAnyH _ _ _ _ _ _ _ (Act.put _ (some 41) _) _
    try simp only [Act.put, List.setIfInBounds_toArray, List.set_cons_zero, List.set_cons_succ]
    refine wpAnyH_take (i := 2) (v := ?_) rfl (by kernel_rfl) (by kernel_rfl) (by kernel_rfl) (fun _ _ _ h => h) (Or.inl ⟨by rfl, ?_⟩) (hS0) ?_
    rotate_left
    · intro w hSw; (try dsimp only at hSw); go_simp; try with_reducible rfl
    change wpAnyH _ _ _ _ _ _ _ (Act.put _ (some 42) _) _
    try simp only [Act.put, List.setIfInBounds_toArray, List.set_cons_zero, List.set_cons_succ]
    refine wpAnyH_take (i := 3) (v := ?_) rfl (by kernel_rfl) (by kernel_rfl) (by kernel_rfl) (fun _ _ _ h => h) (Or.inl ⟨by rfl, ?_⟩) (hS0) ?_
    rotate_left
    · intro w hSw; (try dsimp only at hSw); go_simp; try with_reducible rfl
    change wpAnyH _ _ _ _ _ _ _ (Act.put _ (some 43) _) _
    try simp only [Act.put, List.setIfInBounds_toArray, List.set_cons_zero, List.set_cons_succ]
    refine wpAnyH_take (i := 4) (v := ?_) rfl (by kernel_rfl) (by kernel_rfl) (by kernel_rfl) (fun _ _ _ h => h) (Or.inl ⟨by rfl, ?_⟩) (hS0) ?_
    rotate_left
    · intro w hSw; (try dsimp only at hSw); go_simp; try with_reducible rfl
    change wpAnyH _ _ _ _ _ _ _ (Act.put _ (some 44) _) _
    try simp only [Act.put, List.setIfInBounds_toArray, List.set_cons_zero, List.set_cons_succ]
    refine wpAnyH_take (i := 5) (v := ?_) rfl (by kernel_rfl) (by kernel_rfl) (by kernel_rfl) (fun _ _ _ h => h) (Or.inl ⟨by rfl, ?_⟩) (hS0) ?_
    rotate_left
    · intro w hSw; (try dsimp only at hSw); go_simp; try with_reducible rfl
    change wpAnyH _ _ _ _ _ _ _ (Act.put _ (some 45) _) _
    try simp only [Act.put, List.setIfInBounds_toArray, List.set_cons_zero, List.set_cons_succ]
    refine wpAnyH_take (i := 6) (v := ?_) rfl (by kernel_rfl) (by kernel_rfl) (by kernel_rfl) (fun _ _ _ h => h) (Or.inl ⟨by rfl, ?_⟩) (hS0) ?_
    rotate_left
    · intro w hSw; (try dsimp only at hSw); go_simp; try with_reducible rfl
    change wpAnyH _ _ _ _ _ _ _ (Act.put _ (some 46) _) _
    try simp only [Act.put, List.setIfInBounds_toArray, List.set_cons_zero, List.set_cons_succ]
    refine wpAnyH_take (i := 7) (v := ?_) rfl (by kernel_rfl) (by kernel_rfl) (by kernel_rfl) (fun _ _ _ h => h) (Or.inl ⟨by rfl, ?_⟩) (hS0) ?_
    rotate_left
    · intro w hSw; (try dsimp only at hSw); go_simp; try with_reducible rfl
    change wpAnyH _ _ _ _ _ _ _ (Act.put _ (some 47) _) _
    try simp only [Act.put, List.setIfInBounds_toArray, List.set_cons_zero, List.set_cons_succ]
    refine wpAnyH_take (i := 8) (v := ?_) rfl (by kernel_rfl) (by kernel_rfl) (by kernel_rfl) (fun _ _ _ h => h) (Or.inl ⟨by rfl, ?_⟩) (hS0) ?_
    rotate_left
    · intro w hSw; (try dsimp only at hSw); go_simp; try with_reducible rfl
    change wpAnyH _ _ _ _ _ _ _ (Act.put _ (some 48) _) _
    try simp only [Act.put, List.setIfInBounds_toArray, List.set_cons_zero, List.set_cons_succ]
    refine wpAnyH_take (i := 9) (v := ?_) rfl (by kernel_rfl) (by kernel_rfl) (by kernel_rfl) (fun _ _ _ h => h) (Or.inl ⟨by rfl, ?_⟩) (hS0) ?_
    rotate_left
    · intro w hSw; (try dsimp only at hSw); go_simp; try with_reducible rfl
    change wpAnyH _ _ _ _ _ _ _ (Act.put _ (some 49) _) _
    try simp only [Act.put, List.setIfInBounds_toArray, List.set_cons_zero, List.set_cons_succ]
    refine wpAnyH_take (i := 10) (v := ?_) rfl (by kernel_rfl) (by kernel_rfl) (by kernel_rfl) (fun _ _ _ h => h) (Or.inl ⟨by rfl, ?_⟩) (hS0) ?_
    rotate_left
    · intro w hSw; (try dsimp only at hSw); go_simp; try with_reducible rfl
    change wpAnyH _ _ _ _ _ _ _ (Act.put _ (some 50) _) _
    try simp only [Act.put, List.setIfInBounds_toArray, List.set_cons_zero, List.set_cons_succ]
    refine wpAnyH_take (i := 11) (v := ?_) rfl (by kernel_rfl) (by kernel_rfl) (by kernel_rfl) (fun _ _ _ h => h) (Or.inl ⟨by rfl, ?_⟩) (hS0) ?_
    rotate_left
    · intro w hSw; (try dsimp only at hSw); go_simp; try with_reducible rfl
    change wpAnyH _ _ _ _ _ _ _ (Act.put _ (some 51) _) _
    try simp only [Act.put, List.setIfInBounds_toArray, List.set_cons_zero, List.set_cons_succ]
    refine wpAnyH_take (i := 12) (v := ?_) rfl (by kernel_rfl) (by kernel_rfl) (by kernel_rfl) (fun _ _ _ h => h) (Or.inl ⟨by rfl, ?_⟩) (hS0) ?_
    rotate_left
    · intro w hSw; (try dsimp only at hSw); go_simp; try with_reducible rfl
    change wpAnyH _ _ _ _ _ _ _ (Act.put _ (some 52) _) _
    try simp only [Act.put, List.setIfInBounds_toArray, List.set_cons_zero, List.set_cons_succ]
    refine wpAnyH_take (i := 13) (v := ?_) rfl (by kernel_rfl) (by kernel_rfl) (by kernel_rfl) (fun _ _ _ h => h) (Or.inl ⟨by rfl, ?_⟩) (hS0) ?_
    rotate_left
    · intro w hSw; (try dsimp only at hSw); go_simp; try with_reducible rfl
    change wpAnyH _ _ _ _ _ _ _ (Act.put _ (some 53) _) _
    try simp only [Act.put, List.setIfInBounds_toArray, List.set_cons_zero, List.set_cons_succ]
    refine wpAnyH_take (i := 14) (v := ?_) rfl (by kernel_rfl) (by kernel_rfl) (by kernel_rfl) (fun _ _ _ h => h) (Or.inl ⟨by rfl, ?_⟩) (hS0) ?_
    rotate_left
    · intro w hSw; (try dsimp only at hSw); go_simp; try with_reducible rfl
    change wpAnyH _ _ _ _ _ _ _ (Act.put _ (some 54) _) _
    try simp only [Act.put, List.setIfInBounds_toArray, List.set_cons_zero, List.set_cons_succ]
    refine wpAnyH_take (i := 15) (v := ?_) rfl (by kernel_rfl) (by kernel_rfl) (by kernel_rfl) (fun _ _ _ h => h) (Or.inl ⟨by rfl, ?_⟩) (hS0) ?_
    rotate_left
    · intro w hSw; (try dsimp only at hSw); go_simp; try with_reducible rfl
    change wpAnyH _ _ _ _ _ _ _ (Act.put _ (some 55) _) _
    try simp only [Act.put, List.setIfInBounds_toArray, List.set_cons_zero, List.set_cons_succ]
    refine wpAnyH_take (i := 16) (v := ?_) rfl (by kernel_rfl) (by kernel_rfl) (by kernel_rfl) (fun _ _ _ h => h) (Or.inl ⟨by rfl, ?_⟩) (hS0) ?_
    rotate_left
    · intro w hSw; (try dsimp only at hSw); go_simp; try with_reducible rfl
    change wpAnyH _ _ _ _ _ _ _ (Act.put _ (some 56) _) _
    try simp only [Act.put, List.setIfInBounds_toArray, List.set_cons_zero, List.set_cons_succ]
    refine wpAnyH_take (i := 17) (v := ?_) rfl (by kernel_rfl) (by kernel_rfl) (by kernel_rfl) (fun _ _ _ h => h) (Or.inl ⟨by rfl, ?_⟩) (hS0) ?_
    rotate_left
    · intro w hSw; (try dsimp only at hSw); go_simp; try with_reducible rfl
    change wpAnyH _ _ _ _ _ _ _ (Act.put _ (some 57) _) _
    try simp only [Act.put, List.setIfInBounds_toArray, List.set_cons_zero, List.set_cons_succ]
    refine wpAnyH_take (i := 18) (v := ?_) rfl (by kernel_rfl) (by kernel_rfl) (by kernel_rfl) (fun _ _ _ h => h) (Or.inl ⟨by rfl, ?_⟩) (hS0) ?_
    rotate_left
    · intro w hSw; (try dsimp only at hSw); go_simp; try with_reducible rfl
    change wpAnyH _ _ _ _ _ _ _ (Act.put _ (some 58) _) _
    try simp only [Act.put, List.setIfInBounds_toArray, List.set_cons_zero, List.set_cons_succ]
    refine wpAnyH_ready (rs := [19]) (by kernel_rfl) (by simp) ?_
    refine AllReadyH.cons rfl (fun K hK => ?_) AllReadyH.nil
    (try rw [if_pos (show Region.wanted _ _ = true from rfl)])
    go_simp
    refine (HEQ.out _ (Turn.drew (Turn.refl _ w7))).mono ?_
    rintro e V1 ⟨rfl, hN⟩
    have hV1 : Ext w7 V1 := Turn.trans (Turn.drew (Turn.refl _ w7)) hN
    refine hK.out _ _ (HS.out _ hV1) (fun hS1 => ?_)
    clear hK K hN
    refine wpAnyH_take (i := 20) (v := ?_) rfl (by kernel_rfl) (by kernel_rfl) (by kernel_rfl) (fun _ _ _ h => h) (Or.inl ⟨by rfl, ?_⟩) (hS1) ?_
    rotate_left
    · intro w hSw; (try dsimp only at hSw); go_simp; try with_reducible rfl
    change wpAnyH _ _ _ _ _ _ _ (Act.put _ (some 60) _) _
    try simp only [Act.put, List.setIfInBounds_toArray, List.set_cons_zero, List.set_cons_succ]
    refine wpAnyH_take (i := 21) (v := ?_) rfl (by kernel_rfl) (by kernel_rfl) (by kernel_rfl) (fun _ _ _ h => h) (Or.inl ⟨by rfl, ?_⟩) (hS1) ?_
    rotate_left
    · intro w hSw; (try dsimp only at hSw); go_simp; try with_reducible rfl
    change wpAnyH _ _ _ _ _ _ _ (Act.put _ (some 61) _) _
    try simp only [Act.put, List.setIfInBounds_toArray, List.set_cons_zero, List.set_cons_succ]
    refine wpAnyH_take (i := 22) (v := ?_) rfl (by kernel_rfl) (by kernel_rfl) (by kernel_rfl) (fun _ _ _ h => h) (Or.inl ⟨by rfl, ?_⟩) (hS1) ?_
    rotate_left
    · intro w hSw; (try dsimp only at hSw); go_simp; try with_reducible rfl
    change wpAnyH _ _ _ _ _ _ _ (Act.put _ (some 62) _) _
    try simp only [Act.put, List.setIfInBounds_toArray, List.set_cons_zero, List.set_cons_succ]
    refine wpAnyH_take (i := 23) (v := ?_) rfl (by kernel_rfl) (by kernel_rfl) (by kernel_rfl) (fun _ _ _ h => h) (Or.inl ⟨by rfl, ?_⟩) (hS1) ?_
    rotate_left
    · intro w hSw; (try dsimp only at hSw); go_simp; try with_reducible rfl
    change wpAnyH _ _ _ _ _ _ _ (Act.put _ (some 63) _) _
    try simp only [Act.put, List.setIfInBounds_toArray, List.set_cons_zero, List.set_cons_succ]
    refine wpAnyH_take (i := 25) (v := ?_) rfl (by kernel_rfl) (by kernel_rfl) (by kernel_rfl) (fun _ _ _ h => h) (Or.inl ⟨by rfl, ?_⟩) (hS1) ?_
    rotate_left
    · intro w hSw; (try dsimp only at hSw); go_simp; try with_reducible rfl
    change wpAnyH _ _ _ _ _ _ _ (Act.put _ (some 65) _) _
    try simp only [Act.put, List.setIfInBounds_toArray, List.set_cons_zero, List.set_cons_succ]
    refine wpAnyH_ready (rs := [24]) (by kernel_rfl) (by simp) ?_
    refine AllReadyH.cons rfl (fun K hK => ?_) AllReadyH.nil
    (try rw [if_pos (show Region.wanted _ _ = true from rfl)])
    go_simp
    refine (HSX.out _ hV1).mono ?_
    rintro e V2 ⟨rfl, hN⟩
    have hV2 : Ext w7 V2 := Turn.trans hV1 hN
    refine hK.out _ _ (HS.out _ hV2) (fun hS2 => ?_)
    clear hK K hN
    refine wpAnyH_ready (rs := [26]) (by kernel_rfl) (by simp) ?_
    refine AllReadyH.cons rfl (fun K hK => ?_) AllReadyH.nil
    (try rw [if_pos (show Region.wanted _ _ = true from rfl)])
    go_simp
    refine (HSY.out _ hV2).mono ?_
    rintro e V3 ⟨rfl, hN⟩
    have hV3 : Ext w7 V3 := Turn.trans hV2 hN
    refine hK.out _ _ (HS.out _ hV3) (fun hS3 => ?_)
    clear hK K hN
    refine wpAnyH_take (i := 27) (v := ?_) rfl (by kernel_rfl) (by kernel_rfl) (by kernel_rfl) (fun _ _ _ h => h) (Or.inl ⟨by rfl, ?_⟩) (hS3) ?_
    rotate_left
    · intro w hSw; (try dsimp only at hSw); go_simp; try with_reducible rfl
    change wpAnyH _ _ _ _ _ _ _ (Act.put _ (some 67) _) _
    try simp only [Act.put, List.setIfInBounds_toArray, List.set_cons_zero, List.set_cons_succ]
    refine wpAnyH_take (i := 28) (v := ?_) rfl (by kernel_rfl) (by kernel_rfl) (by kernel_rfl) (fun _ _ _ h => h) (Or.inl ⟨by rfl, ?_⟩) (hS3) ?_
    rotate_left
    · intro w hSw; (try dsimp only at hSw); go_simp; try with_reducible rfl
    change wpAnyH _ _ _ _ _ _ _ (Act.put _ (some 68) _) _
    try simp only [Act.put, List.setIfInBounds_toArray, List.set_cons_zero, List.set_cons_succ]
    refine wpAnyH_take (i := 29) (v := ?_) rfl (by kernel_rfl) (by kernel_rfl) (by kernel_rfl) (fun _ _ _ h => h) (Or.inl ⟨by rfl, ?_⟩) (hS3) ?_
    rotate_left
    · intro w hSw; (try dsimp only at hSw); go_simp; try with_reducible rfl
    change wpAnyH _ _ _ _ _ _ _ (Act.put _ (some 69) _) _
    try simp only [Act.put, List.setIfInBounds_toArray, List.set_cons_zero, List.set_cons_succ]
    refine wpAnyH_take (i := 30) (v := ?_) rfl (by kernel_rfl) (by kernel_rfl) (by kernel_rfl) (fun _ _ _ h => h) (Or.inl ⟨by rfl, ?_⟩) (hS3) ?_
    rotate_left
    · intro w hSw; (try dsimp only at hSw); go_simp; try with_reducible rfl
    change wpAnyH _ _ _ _ _ _ _ (Act.put _ (some 70) _) _
    try simp only [Act.put, List.setIfInBounds_toArray, List.set_cons_zero, List.set_cons_succ]
    refine wpAnyH_take (i := 32) (v := ?_) rfl (by kernel_rfl) (by kernel_rfl) (by kernel_rfl) (fun _ _ _ h => h) (Or.inl ⟨by rfl, ?_⟩) (hS3) ?_
    rotate_left
    · intro w hSw; (try dsimp only at hSw); go_simp; try with_reducible rfl
    change wpAnyH _ _ _ _ _ _ _ (Act.put _ (some 72) _) _
    try simp only [Act.put, List.setIfInBounds_toArray, List.set_cons_zero, List.set_cons_succ]
    refine wpAnyH_ready (rs := [31]) (by kernel_rfl) (by simp) ?_
    refine AllReadyH.cons rfl (fun K hK => ?_) AllReadyH.nil
    (try rw [if_pos (show Region.wanted _ _ = true from rfl)])
    go_simp
    refine (HEX.out _ hV3).mono ?_
    rintro e V4 ⟨rfl, hN⟩
    have hV4 : Ext w7 V4 := Turn.trans hV3 hN
    refine hK.out _ _ (HS.out _ hV4) (fun hS4 => ?_)
    clear hK K hN
    refine wpAnyH_ready (rs := [33]) (by kernel_rfl) (by simp) ?_
    refine AllReadyH.cons rfl (fun K hK => ?_) AllReadyH.nil
    (try rw [if_pos (show Region.wanted _ _ = true from rfl)])
    go_simp
    refine (HEY.out _ hV4).mono ?_
    rintro e V5 ⟨rfl, hN⟩
    have hV5 : Ext w7 V5 := Turn.trans hV4 hN
    refine hK.out _ _ (HS.out _ hV5) (fun hS5 => ?_)
    clear hK K hN
    refine wpAnyH_take (i := 34) (v := ?_) rfl (by kernel_rfl) (by kernel_rfl) (by kernel_rfl) (fun _ _ _ h => h) (Or.inl ⟨by rfl, ?_⟩) (hS5) ?_
    rotate_left
    · intro w hSw; (try dsimp only at hSw); go_simp; try with_reducible rfl
    change wpAnyH _ _ _ _ _ _ _ (Act.put _ (some 74) _) _
    try simp only [Act.put, List.setIfInBounds_toArray, List.set_cons_zero, List.set_cons_succ]
    refine wpAnyH_take (i := 35) (v := ?_) rfl (by kernel_rfl) (by kernel_rfl) (by kernel_rfl) (fun _ _ _ h => h) (Or.inl ⟨by rfl, ?_⟩) (hS5) ?_
    rotate_left
    · intro w hSw; (try dsimp only at hSw); go_simp; try with_reducible rfl
    change wpAnyH _ _ _ _ _ _ _ (Act.put _ (some 75) _) _
    try simp only [Act.put, List.setIfInBounds_toArray, List.set_cons_zero, List.set_cons_succ]
    refine wpAnyH_done (by kernel_rfl) ?_ _
    clear hS0 hS1 hS2 hS3 hS4 hS5 HEQ HSX HSY HEX HEY HS
    have hx := hV5.keep HX7.out
    have hy := hV5.keep HY7.out
    have cX := fun j => cell_of_row _ _ j _ _ _ hx
    have cY := fun j => cell_of_row _ _ j _ _ _ hy
    clear hx hy
    go_wp2_with fail
    refine (HOX.out _ hV5).mono ?_
    rintro e w8 ⟨u, rfl, hG, hN⟩
    obtain ⟨gu, cu, rfl, hGC⟩ := Grid.open hG
    have hV8 : Ext w7 w8 := hV5.trans hN
    have hy := hV8.keep HY7.out
    have H1 : Hid (GridC w8 gu (n + 1) (n + 1) X) := Lib.hid hGC
    clear cX cY hN hG hGC hV1 hV2 hV3 hV4 hV5
    have cY := fun j => cell_of_row _ _ j _ _ _ hy
    clear hy
    go_wp2_with fail
    refine (HOY.out _ hV8).mono ?_
    rintro e w9 ⟨u, rfl, hG, hN⟩
    obtain ⟨gv, cv, rfl, hGC⟩ := Grid.open hG
    have H2 : Hid (GridC w9 gv (n + 1) (n + 1) (flipB n X)) := Lib.hid hGC
    have H3 := Lib.hid (GridC.ext H1.out hN)
    have E2 := E.trans (hV8.trans hN)
    clear cY hN hG hGC H1 hV8 E
    go_wp2
    refine wp_loop (fun a W => ∃ (i : Nat), i ≤ n + 1 ∧ a.defers = [] ∧ (a.tmps.size = 124 ∧ a.tmps.getD 1 undef = .slice bo n bcap ∧ a.tmps.getD 2 undef = .pointer (some ⟨B, 0, none⟩) ∧ a.tmps.getD 11 undef = .int .i64 n ∧ a.tmps.getD 12 undef = .slice (some ⟨gu, 0, none⟩) (n + 1) cu ∧ a.tmps.getD 14 undef = .slice (some ⟨gv, 0, none⟩) (n + 1) cv ∧ a.tmps.getD 16 undef = .int .i64 i) ∧ Ext w9 W)
      (fun a _ => n + 1 - (intOf (a.tmps.getD 16 undef)).toNat) ?_ ?_
    · exact ⟨0, by omega, rfl, ⟨rfl, rfl, rfl, rfl, rfl, rfl, rfl⟩, Turn.refl _ _⟩
    rintro ⟨t, _⟩ W ⟨i, hi, hds, ⟨hsz, f1, f2, f11, f12, f14, f16⟩, hE⟩
    subst hds
    obtain ⟨u', hu⟩ := frame_fun hsz
    obtain ⟨u, rfl⟩ : ∃ x, x = u' := ⟨_, rfl⟩
    have hu' : t = #[u 0, u 1, u 2, u 3, u 4, u 5, u 6, u 7, u 8, u 9, u 10, u 11, u 12, u 13, u 14, u 15, u 16, u 17, u 18, u 19, u 20, u 21, u 22, u 23, u 24, u 25, u 26, u 27, u 28, u 29, u 30, u 31, u 32, u 33, u 34, u 35, u 36, u 37, u 38, u 39, u 40, u 41, u 42, u 43, u 44, u 45, u 46, u 47, u 48, u 49, u 50, u 51, u 52, u 53, u 54, u 55, u 56, u 57, u 58, u 59, u 60, u 61, u 62, u 63, u 64, u 65, u 66, u 67, u 68, u 69, u 70, u 71, u 72, u 73, u 74, u 75, u 76, u 77, u 78, u 79, u 80, u 81, u 82, u 83, u 84, u 85, u 86, u 87, u 88, u 89, u 90, u 91, u 92, u 93, u 94, u 95, u 96, u 97, u 98, u 99, u 100, u 101, u 102, u 103, u 104, u 105, u 106, u 107, u 108, u 109, u 110, u 111, u 112, u 113, u 114, u 115, u 116, u 117, u 118, u 119, u 120, u 121, u 122, u 123] := hu
    clear hu
    subst hu'
    change u 1 = _ at f1
    change u 2 = _ at f2
    change u 11 = _ at f11
    change u 12 = _ at f12
    change u 14 = _ at f14
    change u 16 = _ at f16
    rw [f1, f2, f11, f12, f14, f16]
    clear f1 f2 f11 f12 f14 f16 hsz
    by_cases hin : i < n + 1
    · have h1 : (i : Int) ≤ (n : Int) := by omega
      have h1' : (i : Int) < (n : Int) + 1 := by omega
      go_wp2
      refine wp_loop (fun a V => ∃ (k : Nat), k ≤ n + 1 ∧ a.defers = [] ∧ (a.tmps.size = 124 ∧ a.tmps.getD 1 undef = .slice bo n bcap ∧ a.tmps.getD 2 undef = .pointer (some ⟨B, 0, none⟩) ∧ a.tmps.getD 11 undef = .int .i64 n ∧ a.tmps.getD 12 undef = .slice (some ⟨gu, 0, none⟩) (n + 1) cu ∧ a.tmps.getD 14 undef = .slice (some ⟨gv, 0, none⟩) (n + 1) cv ∧ a.tmps.getD 16 undef = .int .i64 i ∧ a.tmps.getD 17 undef = .int .i64 k) ∧ Ext w9 V)
        (fun a _ => n + 1 - (intOf (a.tmps.getD 17 undef)).toNat) ?_ ?_
      · exact ⟨0, by omega, rfl, ⟨rfl, rfl, rfl, rfl, rfl, rfl, rfl, rfl⟩, hE⟩
      clear hE
      rintro ⟨t, _⟩ V ⟨k, hk, hds, ⟨hsz, f1, f2, f11, f12, f14, f16, f17⟩, hE⟩
      subst hds
      obtain ⟨u', hu⟩ := frame_fun hsz
      obtain ⟨u, rfl⟩ : ∃ x, x = u' := ⟨_, rfl⟩
      have hu' : t = #[u 0, u 1, u 2, u 3, u 4, u 5, u 6, u 7, u 8, u 9, u 10, u 11, u 12, u 13, u 14, u 15, u 16, u 17, u 18, u 19, u 20, u 21, u 22, u 23, u 24, u 25, u 26, u 27, u 28, u 29, u 30, u 31, u 32, u 33, u 34, u 35, u 36, u 37, u 38, u 39, u 40, u 41, u 42, u 43, u 44, u 45, u 46, u 47, u 48, u 49, u 50, u 51, u 52, u 53, u 54, u 55, u 56, u 57, u 58, u 59, u 60, u 61, u 62, u 63, u 64, u 65, u 66, u 67, u 68, u 69, u 70, u 71, u 72, u 73, u 74, u 75, u 76, u 77, u 78, u 79, u 80, u 81, u 82, u 83, u 84, u 85, u 86, u 87, u 88, u 89, u 90, u 91, u 92, u 93, u 94, u 95, u 96, u 97, u 98, u 99, u 100, u 101, u 102, u 103, u 104, u 105, u 106, u 107, u 108, u 109, u 110, u 111, u 112, u 113, u 114, u 115, u 116, u 117, u 118, u 119, u 120, u 121, u 122, u 123] := hu
      clear hu
      subst hu'
      change u 1 = _ at f1
      change u 2 = _ at f2
      change u 11 = _ at f11
      change u 12 = _ at f12
      change u 14 = _ at f14
      change u 16 = _ at f16
      change u 17 = _ at f17
      rw [f1, f2, f11, f12, f14, f16, f17]
      clear f1 f2 f11 f12 f14 f16 f17 hsz
      by_cases hkn : k < n + 1
      · have h2 : (k : Int) ≤ (n : Int) := by omega
        have h2' : (k : Int) < (n : Int) + 1 := by omega
        have hcs : ∃ x1 g1 c1 g2 c2, ∀ D, Ext V D → D.cell? ⟨gu, i, none⟩ = some (.slice (some ⟨g1, 0, none⟩) (n + 1) c1) ∧ D.cell? ⟨g1, k, none⟩ = some (.bool x1) ∧ D.cell? ⟨gv, n - k, none⟩ = some (.slice (some ⟨g2, 0, none⟩) (n + 1) c2) ∧ D.cell? ⟨g2, n - i, none⟩ = some (.bool x1) := by
          obtain ⟨g1, c1, d1, d2⟩ := (GridC.ext H3.out hE) i hin
          obtain ⟨g2, c2, d3, d4⟩ := (GridC.ext H2.out hE) (n - k) (by omega)
          have d5 := d2 k hkn
          have d6 := d4 (n - i) (by omega)
          have hf : flipB n X (n - k) (n - i) = X i k := by
            unfold flipB
            rw [show n - (n - i) = i by omega, show n - (n - k) = k by omega, decide_eq_true (by omega), decide_eq_true (by omega)]; rfl
          rw [hf] at d6
          exact ⟨X i k, g1, c1, g2, c2, fun D hD => ⟨hD.cell_some d1 id, hD.cell_some d5 id, hD.cell_some d3 id, hD.cell_some d6 id⟩⟩
        obtain ⟨x1, g1, c1, g2, c2, hcs⟩ := hcs
        have HS := Lib.hid hcs
        clear hcs
        have hs1 : IntKind.i64.wrap ((n : Int) - (k : Int)) = ((n - k : Nat) : Int) := by rw [IntWalk.i64_in _ (by omega)]; omega
        have hs2 : IntKind.i64.wrap ((n : Int) - (i : Int)) = ((n - i : Nat) : Int) := by rw [IntWalk.i64_in _ (by omega)]; omega
        have b1 : ((n - k : Nat) : Int) < (n : Int) + 1 := by omega
        have b2 : ((n - i : Nat) : Int) < (n : Int) + 1 := by omega
        go_wp2
        refine wp_region_held_drew (S := fun D => D.cell? ⟨gu, i, none⟩ = some (.slice (some ⟨g1, 0, none⟩) (n + 1) c1) ∧ D.cell? ⟨g1, k, none⟩ = some (.bool x1) ∧ D.cell? ⟨gv, n - k, none⟩ = some (.slice (some ⟨g2, 0, none⟩) (n + 1) c2) ∧ D.cell? ⟨g2, n - i, none⟩ = some (.bool x1)) (by kernel_rfl) (HS.out _ (Turn.drew (Turn.refl _ V))) ?_
        intro hS0
        refine wpAnyH_take (i := 0) (v := ?_) rfl (by kernel_rfl) (by kernel_rfl) (by kernel_rfl) (fun _ _ _ h => h) (Or.inl ⟨by rfl, ?_⟩) (hS0) ?_
        rotate_left
        · intro w hSw; (try dsimp only at hSw); go_simp; try with_reducible rfl
        change wpAnyH _ _ _ _ _ _ _ (Act.put _ (some 104) _) _
        try simp only [Act.put, List.setIfInBounds_toArray, List.set_cons_zero, List.set_cons_succ]
        refine wpAnyH_take (i := 1) (v := ?_) rfl (by kernel_rfl) (by kernel_rfl) (by kernel_rfl) (fun _ _ _ h => h) (Or.inl ⟨by rfl, ?_⟩) (hS0) ?_
        rotate_left
        · intro w hSw; (try dsimp only at hSw); go_simp; try with_reducible rfl
        change wpAnyH _ _ _ _ _ _ _ (Act.put _ (some 105) _) _
        try simp only [Act.put, List.setIfInBounds_toArray, List.set_cons_zero, List.set_cons_succ]
        refine wpAnyH_take (i := 2) (v := ?_) rfl (by kernel_rfl) (by kernel_rfl) (by kernel_rfl) (fun _ _ _ h => h) (Or.inl ⟨by rfl, ?_⟩) (hS0) ?_
        rotate_left
        · intro w hSw; (try dsimp only at hSw); go_simp; try with_reducible rfl
        change wpAnyH _ _ _ _ _ _ _ (Act.put _ (some 106) _) _
        try simp only [Act.put, List.setIfInBounds_toArray, List.set_cons_zero, List.set_cons_succ]
        refine wpAnyH_take (i := 3) (v := ?_) rfl (by kernel_rfl) (by kernel_rfl) (by kernel_rfl) (fun _ _ _ h => h) (Or.inl ⟨by rfl, ?_⟩) (hS0) ?_
        rotate_left
        · intro w hSw; (try dsimp only at hSw); go_simp; try with_reducible rfl
        change wpAnyH _ _ _ _ _ _ _ (Act.put _ (some 107) _) _
        try simp only [Act.put, List.setIfInBounds_toArray, List.set_cons_zero, List.set_cons_succ]
        refine wpAnyH_take (i := 4) (v := ?_) rfl (by kernel_rfl) (by kernel_rfl) (by kernel_rfl) (fun _ _ _ h => h) (Or.inl ⟨by rfl, ?_⟩) (hS0) ?_
        rotate_left
        · intro w hSw; (try dsimp only at hSw); go_simp; try with_reducible rfl
        change wpAnyH _ _ _ _ _ _ _ (Act.put _ (some 108) _) _
        try simp only [Act.put, List.setIfInBounds_toArray, List.set_cons_zero, List.set_cons_succ]
        refine wpAnyH_take (i := 5) (v := ?_) rfl (by kernel_rfl) (by kernel_rfl) (by kernel_rfl) (fun _ _ _ h => h) (Or.inl ⟨by rfl, ?_⟩) (hS0) ?_
        rotate_left
        · intro w hSw; (try dsimp only at hSw); go_simp; try with_reducible rfl
        change wpAnyH _ _ _ _ _ _ _ (Act.put _ (some 109) _) _
        try simp only [Act.put, List.setIfInBounds_toArray, List.set_cons_zero, List.set_cons_succ]
        refine wpAnyH_take (i := 6) (v := ?_) rfl (by kernel_rfl) (by kernel_rfl) (by kernel_rfl) (fun _ _ _ h => h) (Or.inl ⟨by rfl, ?_⟩) (hS0) ?_
        rotate_left
        · intro w hSw; (try dsimp only at hSw); go_simp; try with_reducible rfl
        change wpAnyH _ _ _ _ _ _ _ (Act.put _ (some 110) _) _
        try simp only [Act.put, List.setIfInBounds_toArray, List.set_cons_zero, List.set_cons_succ]
        refine wpAnyH_take (i := 7) (v := ?_) rfl (by kernel_rfl) (by kernel_rfl) (by kernel_rfl) (fun _ _ _ h => h) (Or.inl ⟨by rfl, ?_⟩) (hS0) ?_
        rotate_left
        · intro w hSw; (try dsimp only at hSw); go_simp; try with_reducible rfl
        change wpAnyH _ _ _ _ _ _ _ (Act.put _ (some 111) _) _
        try simp only [Act.put, List.setIfInBounds_toArray, List.set_cons_zero, List.set_cons_succ]
        refine wpAnyH_take (i := 8) (v := ?_) rfl (by kernel_rfl) (by kernel_rfl) (by kernel_rfl) (fun _ _ _ h => h) (Or.inl ⟨by rfl, ?_⟩) (hS0) ?_
        rotate_left
        · intro w hSw; (try dsimp only at hSw); go_simp; try with_reducible rfl
        change wpAnyH _ _ _ _ _ _ _ (Act.put _ (some 112) _) _
        try simp only [Act.put, List.setIfInBounds_toArray, List.set_cons_zero, List.set_cons_succ]
        refine wpAnyH_take (i := 9) (v := ?_) rfl (by kernel_rfl) (by kernel_rfl) (by kernel_rfl) (fun _ _ _ h => h) (Or.inl ⟨by rfl, ?_⟩) (hS0) ?_
        rotate_left
        · intro w hSw; (try dsimp only at hSw); go_simp; try with_reducible rfl
        change wpAnyH _ _ _ _ _ _ _ (Act.put _ (some 113) _) _
        try simp only [Act.put, List.setIfInBounds_toArray, List.set_cons_zero, List.set_cons_succ]
        refine wpAnyH_take (i := 10) (v := ?_) rfl (by kernel_rfl) (by kernel_rfl) (by kernel_rfl) (fun _ _ _ h => h) (Or.inl ⟨by rfl, ?_⟩) (hS0) ?_
        rotate_left
        · intro w hSw; (try dsimp only at hSw); go_simp; try with_reducible rfl
        change wpAnyH _ _ _ _ _ _ _ (Act.put _ (some 114) _) _
        try simp only [Act.put, List.setIfInBounds_toArray, List.set_cons_zero, List.set_cons_succ]
        refine wpAnyH_take (i := 11) (v := ?_) rfl (by kernel_rfl) (by kernel_rfl) (by kernel_rfl) (fun _ _ _ h => h) (Or.inl ⟨by rfl, ?_⟩) (hS0) ?_
        rotate_left
        · intro w hSw; (try dsimp only at hSw); go_simp; try with_reducible rfl
        change wpAnyH _ _ _ _ _ _ _ (Act.put _ (some 115) _) _
        try simp only [Act.put, List.setIfInBounds_toArray, List.set_cons_zero, List.set_cons_succ]
        refine wpAnyH_take (i := 12) (v := ?_) rfl (by kernel_rfl) (by kernel_rfl) (by kernel_rfl) (fun _ _ _ h => h) (Or.inl ⟨by rfl, ?_⟩) (hS0) ?_
        rotate_left
        · intro w hSw; (try dsimp only at hSw); go_simp; try with_reducible rfl
        change wpAnyH _ _ _ _ _ _ _ (Act.put _ (some 116) _) _
        try simp only [Act.put, List.setIfInBounds_toArray, List.set_cons_zero, List.set_cons_succ]
        refine wpAnyH_take (i := 13) (v := ?_) rfl (by kernel_rfl) (by kernel_rfl) (by kernel_rfl) (fun _ _ _ h => h) (Or.inl ⟨by rfl, ?_⟩) (hS0) ?_
        rotate_left
        · intro w hSw; (try dsimp only at hSw); go_simp; try with_reducible rfl
        change wpAnyH _ _ _ _ _ _ _ (Act.put _ (some 117) _) _
        try simp only [Act.put, List.setIfInBounds_toArray, List.set_cons_zero, List.set_cons_succ]
        refine wpAnyH_take (i := 14) (v := ?_) rfl (by kernel_rfl) (by kernel_rfl) (by kernel_rfl) (fun _ _ _ h => h) (Or.inl ⟨by rfl, ?_⟩) (hS0) ?_
        rotate_left
        · intro w hSw; (try dsimp only at hSw); go_simp; try with_reducible rfl
        change wpAnyH _ _ _ _ _ _ _ (Act.put _ (some 118) _) _
        try simp only [Act.put, List.setIfInBounds_toArray, List.set_cons_zero, List.set_cons_succ]
        refine wpAnyH_take (i := 15) (v := ?_) rfl (by kernel_rfl) (by kernel_rfl) (by kernel_rfl) (fun _ _ _ h => h) (Or.inl ⟨by rfl, ?_⟩) (hS0) ?_
        rotate_left
        · intro w hSw; (try dsimp only at hSw); go_simp; try with_reducible rfl
        change wpAnyH _ _ _ _ _ _ _ (Act.put _ (some 119) _) _
        try simp only [Act.put, List.setIfInBounds_toArray, List.set_cons_zero, List.set_cons_succ]
        refine wpAnyH_take (i := 16) (v := ?_) rfl (by kernel_rfl) (by kernel_rfl) (by kernel_rfl) (fun _ _ _ h => h) (Or.inl ⟨by rfl, ?_⟩) (hS0) ?_
        rotate_left
        · intro w hSw; (try dsimp only at hSw); go_simp; try with_reducible rfl
        change wpAnyH _ _ _ _ _ _ _ (Act.put _ (some 120) _) _
        try simp only [Act.put, List.setIfInBounds_toArray, List.set_cons_zero, List.set_cons_succ]
        refine wpAnyH_take (i := 17) (v := ?_) rfl (by kernel_rfl) (by kernel_rfl) (by kernel_rfl) (fun _ _ _ h => h) (Or.inl ⟨by rfl, ?_⟩) (hS0) ?_
        rotate_left
        · intro w hSw; (try dsimp only at hSw); go_simp; try with_reducible rfl
        change wpAnyH _ _ _ _ _ _ _ (Act.put _ (some 121) _) _
        try simp only [Act.put, List.setIfInBounds_toArray, List.set_cons_zero, List.set_cons_succ]
        refine wpAnyH_take (i := 18) (v := ?_) rfl (by kernel_rfl) (by kernel_rfl) (by kernel_rfl) (fun _ _ _ h => h) (Or.inl ⟨by rfl, ?_⟩) (hS0) ?_
        rotate_left
        · intro w hSw; (try dsimp only at hSw); go_simp; try with_reducible rfl
        change wpAnyH _ _ _ _ _ _ _ (Act.put _ (some 122) _) _
        try simp only [Act.put, List.setIfInBounds_toArray, List.set_cons_zero, List.set_cons_succ]
        refine wpAnyH_done (by kernel_rfl) ?_ _
        clear hS0 hs1 hs2 HS
        cases x1
        all_goals
          go_wp2
          first | exact ⟨⟨k + 1, by omega, by first | rfl | trivial, ⟨rfl, rfl, rfl, rfl, rfl, rfl, rfl, rfl⟩, hE.drew⟩, by simp [intOf]; omega⟩ | exact ⟨⟨k + 1, by omega, hE.drew⟩, by simp [intOf]; omega⟩
      · obtain rfl : k = n + 1 := by omega
        have h2 : ¬ (((n + 1 : Nat) : Int) ≤ (n : Int)) := by omega
        go_wp2
        first | exact ⟨⟨i + 1, by omega, by first | rfl | trivial, ⟨rfl, rfl, rfl, rfl, rfl, rfl, rfl⟩, hE⟩, by simp [intOf]; omega⟩ | exact ⟨⟨i + 1, by omega, by simp⟩, by simp [intOf]; omega⟩
    · obtain rfl : i = n + 1 := by omega
      have h1 : ¬ (((n + 1 : Nat) : Int) ≤ (n : Int)) := by omega
      have E3 := E2.trans hE
      clear hE E2
      go_wp2_with fail
      refine (HWO.out _ (E3)).mono ?_
      rintro e W9 ⟨rfl, hE9⟩
      have hE09 := (E3).trans hE9
      clear hE9
      go_wp2
      go_ret
      exact ⟨rfl, hE09⟩
end Go.Proofs.YtapfoaiibjdfnaaDoor
