/- ablautlaw06.PatsMirrors: the walk (printed by genmirrors.py). -/
import Derived.Test.YtapfoaiibjdfnaaDoorRefMirP
import Derived.Test.YtapfoaiibjdfnaaDoorSpoil
import Derived.Test.YtapfoaiibjdfnaaDoorMe
import Derived.Test.YtapfoaiibjdfnaaDoorMg
namespace Go.Proofs.YtapfoaiibjdfnaaDoor
open Go.RowKit Go.Ab
attribute [local go_sem] Oper.semAt_some wide_fn wide_depth

set_option maxRecDepth 100000 in
set_option maxHeartbeats 16000000 in
theorem mirrors_law (w : World) (hT : Tab w) {p : Pat} {cs : List Value} (hp : PatAt (fun g => g < w.heap.size) w p cs) :
    Calls Tryd.prog 11 #[.agg cs.toArray] w fun e w' => e = .returned (.bool true) ∧ Ext w w' := by
  have hK : ∀ (V : World), Ext w V → ∀ g, g < w.heap.size → g < V.heap.size := fun V hE g h => Nat.lt_of_lt_of_le h hE.size
  have hwo := fun (V : World) (hE : Ext w V) => works_any V (hT.keep hE id)
  have hcp := fun (V : World) (hE : Ext w V) => refcopy_any (PatAt.mono (hK V hE) (hp.ext hE))
  have hmi := fun (V : World) (hE : Ext w V) => mirror_any (hp.ext hE) (hK V hE) (hT.keep hE id)
  have hrm := fun (V : World) (hE : Ext w V) => refmirror_any (hp.ext hE)
  have hxx := fun (h : chkP p = 0) (V : World) (hE : Ext w V) (ds : List Value) (hd : PatAt (fun g => g < V.heap.size) V p ds) => (refequal_any (PatAt.mono (hK V hE) (hp.ext hE)) hd).mono (R' := fun e w' => e = .returned (.bool true) ∧ Ext V w') (fun e w' h2 => ⟨by rw [h2.1, equalV_refl, decide_eq_true h], h2.2⟩)
  have hyz := fun (h : chkP p = 0) (V : World) (ys zs : List Value) (hy : PatAt (fun g => g < V.heap.size) V (mirP p) ys) (hz : PatAt (fun g => g < V.heap.size) V (mirP p) zs) => (refequal_any hy hz).mono (R' := fun e w' => e = .returned (.bool true) ∧ Ext V w') (fun e w' h2 => ⟨by rw [h2.1, equalV_refl, decide_eq_true (mirP_chk h)], h2.2⟩)
  obtain ⟨ao, cap, rfl, hlc, hcm, _⟩ := patAt_cells hp
  have HWO := Lib.hid hwo; have HCP := Lib.hid hcp; have HMI := Lib.hid hmi; have HRM := Lib.hid hrm; have HXX := Lib.hid hxx; have HYZ := Lib.hid hyz
  clear hwo hcp hmi hrm hxx hyz hp hlc hcm hT hK
  obtain ⟨z, hz⟩ : ∃ z, chkP p = z := ⟨_, rfl⟩
  rw [hz] at HCP HMI HRM HXX HYZ
  clear hz
  unfold patCells at HCP HMI HRM HXX ⊢
  go_enter Tryd.func11, Tryd.ntmps11
  go_wp2_with fail
  have hx : (w.alloc (.cells #[.int .i64 p.k, .int .u32 (p.pl : Int), .int .u32 (p.mi : Int), .bool p.nt, .int .i64 p.mn, .int .i64 p.mx, .slice ao p.l.length cap] 27)).heap[w.heap.size]? = some (.cells #[.int .i64 p.k, .int .u32 (p.pl : Int), .int .u32 (p.mi : Int), .bool p.nt, .int .i64 p.mn, .int .i64 p.mx, .slice ao p.l.length cap] 27 (0, 0)) := new_at rfl
  have E : Ext w (w.alloc (.cells #[.int .i64 p.k, .int .u32 (p.pl : Int), .int .u32 (p.mi : Int), .bool p.nt, .int .i64 p.mn, .int .i64 p.mx, .slice ao p.l.length cap] 27)) := (Turn.refl _ w).alloc _
  refine (HCP.out _ E).mono ?_
  generalize (w.alloc (.cells #[.int .i64 p.k, .int .u32 (p.pl : Int), .int .u32 (p.mi : Int), .bool p.nt, .int .i64 p.mn, .int .i64 p.mx, .slice ao p.l.length cap] 27)) = w1 at hx E ⊢
  generalize hB : w.heap.size = B at hx ⊢
  have HB := Lib.hid hB
  clear hB
  rintro e w2 ⟨ds, rfl, hdl, hda, hE2⟩
  obtain ⟨dk, dpl, dmi, dnt, dmn, dmx, da, dn, dc, rfl⟩ := hdl
  unfold patCells at hda ⊢
  replace E := E.trans hE2
  have hx2 := hE2.keep hx
  have HDA := Lib.hid hda
  clear hx hda hE2
  have cX := fun j => cell_of_row _ _ j _ _ _ hx2
  have H2 := Lib.hid hx2
  have hB2 : B < w2.heap.size := (Array.getElem?_eq_some_iff.1 hx2).1
  clear hx2
  go_wp2_with fail
  have hA : Ext w2 (w2.alloc (.cells #[.int .i64 dk, .int .u32 (dpl : Int), .int .u32 (dmi : Int), .bool dnt, .int .i64 dmn, .int .i64 dmx, .slice da dn dc] 27)) := (Turn.refl _ w2).alloc _
  have hd : (w2.alloc (.cells #[.int .i64 dk, .int .u32 (dpl : Int), .int .u32 (dmi : Int), .bool dnt, .int .i64 dmn, .int .i64 dmx, .slice da dn dc] 27)).heap[w2.heap.size]? = some (.cells #[.int .i64 dk, .int .u32 (dpl : Int), .int .u32 (dmi : Int), .bool dnt, .int .i64 dmn, .int .i64 dmx, .slice da dn dc] 27 (0, 0)) := new_at rfl
  have hx := hA.keep H2.out
  replace E := E.trans hA
  refine (HMI.out _ E).mono ?_
  generalize (w2.alloc (.cells #[.int .i64 dk, .int .u32 (dpl : Int), .int .u32 (dmi : Int), .bool dnt, .int .i64 dmn, .int .i64 dmx, .slice da dn dc] 27)) = w3 at hA hd hx E ⊢
  generalize hDz : w2.heap.size = D at hd ⊢
  have HDZ := Lib.hid hDz; have HA3 := Lib.hid hA
  clear hDz cX H2 hA
  rintro e w4 ⟨ys, rfl, hy1, hy2, hE4⟩
  have hyl : IsPat ys := by
    by_cases h : z = 0
    · exact sep_cells (hy1 h)
    · rw [hy2 h]; exact ⟨_, _, _, _, _, _, _, _, _, rfl⟩
  obtain ⟨yk, ypl, ymi, ynt, ymn, ymx, ya, yn, yc, rfl⟩ := hyl
  replace E := E.trans hE4
  unfold patCells at hy1 ⊢
  have hx4 := hE4.keep hx
  have hd4 := hE4.keep hd
  have HY1 := Lib.hid hy1; have HY2 := Lib.hid hy2; have HE4 := Lib.hid hE4
  have hD3 : D < w3.heap.size := (Array.getElem?_eq_some_iff.1 hd).1
  clear hx hd hy1 hy2 hE4 
  have cX := fun j => cell_of_row _ _ j _ _ _ hx4
  have HX4 := Lib.hid hx4; have HD4 := Lib.hid hd4
  have hB4 : B < w4.heap.size := (Array.getElem?_eq_some_iff.1 hx4).1
  clear hx4 hd4
  go_wp2_with fail
  have hA : Ext w4 (w4.alloc (.cells #[.int .i64 yk, .int .u32 (ypl : Int), .int .u32 (ymi : Int), .bool ynt, .int .i64 ymn, .int .i64 ymx, .slice ya yn yc] 27)) := (Turn.refl _ w4).alloc _
  have hy : (w4.alloc (.cells #[.int .i64 yk, .int .u32 (ypl : Int), .int .u32 (ymi : Int), .bool ynt, .int .i64 ymn, .int .i64 ymx, .slice ya yn yc] 27)).heap[w4.heap.size]? = some (.cells #[.int .i64 yk, .int .u32 (ypl : Int), .int .u32 (ymi : Int), .bool ynt, .int .i64 ymn, .int .i64 ymx, .slice ya yn yc] 27 (0, 0)) := new_at rfl
  have hx := hA.keep HX4.out
  have hd := hA.keep HD4.out
  replace E := E.trans hA
  refine (HRM.out _ E).mono ?_
  generalize (w4.alloc (.cells #[.int .i64 yk, .int .u32 (ypl : Int), .int .u32 (ymi : Int), .bool ynt, .int .i64 ymn, .int .i64 ymx, .slice ya yn yc] 27)) = w5 at hA hd hx hy E ⊢
  generalize hYz : w4.heap.size = Y at hy ⊢
  have HYZ4 := Lib.hid hYz; have HA5 := Lib.hid hA
  clear hYz cX HX4 HD4 hA
  rintro e w6 ⟨zs, rfl, hz1, hz2, hE6⟩
  have hzl : IsPat zs := by
    by_cases h : z = 0
    · exact sep_cells (hz1 h)
    · rw [hz2 h]; exact ⟨_, _, _, _, _, _, _, _, _, rfl⟩
  obtain ⟨zk, zpl, zmi, znt, zmn, zmx, za, zn, zc, rfl⟩ := hzl
  replace E := E.trans hE6
  unfold patCells at hz1 ⊢
  have hx6 := hE6.keep hx
  have hd6 := hE6.keep hd
  have hy6 := hE6.keep hy
  have HZ1 := Lib.hid hz1; have HE6 := Lib.hid hE6
  have hD5 : Y < w5.heap.size := (Array.getElem?_eq_some_iff.1 hy).1
  clear hx hd hy hz1 hz2 hE6 
  by_cases hz0 : z = 0
  · subst hz0
    have HX6 := Lib.hid hx6; have HD6 := Lib.hid hd6; have HY6 := Lib.hid hy6
    have hA : Ext w6 (w6.alloc (.cells #[.int .i64 zk, .int .u32 (zpl : Int), .int .u32 (zmi : Int), .bool znt, .int .i64 zmn, .int .i64 zmx, .slice za zn zc] 27)) := (Turn.refl _ w6).alloc _
    have hzc : (w6.alloc (.cells #[.int .i64 zk, .int .u32 (zpl : Int), .int .u32 (zmi : Int), .bool znt, .int .i64 zmn, .int .i64 zmx, .slice za zn zc] 27)).heap[w6.heap.size]? = some (.cells #[.int .i64 zk, .int .u32 (zpl : Int), .int .u32 (zmi : Int), .bool znt, .int .i64 zmn, .int .i64 zmx, .slice za zn zc] 27 (0, 0)) := new_at rfl
    have hy7 := hA.keep hy6
    have hE47 : Ext w4 (w6.alloc (.cells #[.int .i64 zk, .int .u32 (zpl : Int), .int .u32 (zmi : Int), .bool znt, .int .i64 zmn, .int .i64 zmx, .slice za zn zc] 27)) := HA5.out.trans (HE6.out.trans hA)
    have hysep := (HY1.out (by first | rfl | trivial)).keep hE47 fun _ _ h => h
    have hzsep := (HZ1.out (by first | rfl | trivial)).keep hA fun _ _ h => h
    have hyat := PatAt.mono (L := fun g => g < (w6.alloc (.cells #[.int .i64 zk, .int .u32 (zpl : Int), .int .u32 (zmi : Int), .bool znt, .int .i64 zmn, .int .i64 zmx, .slice za zn zc] 27)).heap.size) (fun g h => Nat.lt_of_lt_of_le h.2 hE47.size) hysep.at
    have hzat := PatAt.mono (L := fun g => g < (w6.alloc (.cells #[.int .i64 zk, .int .u32 (zpl : Int), .int .u32 (zmi : Int), .bool znt, .int .i64 zmn, .int .i64 zmx, .slice za zn zc] 27)).heap.size) (fun g h => Nat.lt_of_lt_of_le h.2 hA.size) hzsep.at
    have hc := HYZ.out (by first | rfl | trivial) _ _ _ hyat hzat
    have HC := Lib.hid hc; have HYS := Lib.hid hysep; have HA7 := Lib.hid hA; have HE47 := Lib.hid hE47; have HY7 := Lib.hid hy7
    have cY := fun j => cell_of_row _ _ j _ _ _ hy6
    have hY6 : Y < w6.heap.size := (Array.getElem?_eq_some_iff.1 hy6).1
    clear hx6 hd6 hy6 hc hysep hzsep hyat hzat hA hE47 HZ1 HY1 HY2 hzc hy7
    go_wp2_with fail
    refine HC.out.mono ?_
    clear HC
    rintro e w8 ⟨rfl, hE8⟩
    have hE68 := HA7.out.trans hE8
    replace E := E.trans hE68
    have hx8 := Ext.keep hE68 HX6.out
    have hd8 := Ext.keep hE68 HD6.out
    have hy8 := Ext.keep hE68 HY6.out
    have hE48 := HE47.out.trans hE8
    have hsep := HYS.out.keep hE8 fun _ _ h => h
    have hsp := spoil_all (mirP p) _ w8 _ hsep (fun b hb => Nat.lt_of_lt_of_le hb.2 hE48.size)
    have HSP := Lib.hid hsp; have HX8 := Lib.hid hx8; have HD8 := Lib.hid hd8
    have hE38 : Ext w3 w8 := HE4.out.trans hE48
    have hE28 : Ext w2 w8 := HA3.out.trans hE38
    clear cY hx8 hd8 HX6 HD6 HY6 hE68 hsep hsp HYS HE47 hE48 hE8 HY7 HA7
    have cY := fun j => cell_of_row _ _ j _ _ _ hy8
    clear hy8
    go_wp2_with fail
    refine HSP.out.mono ?_
    rintro e w9 ⟨rfl, hT9⟩
    have hs3 := HA3.out.size
    have hEw : Ext w w9 := E.after hT9 (fun b h1 e => by have := HB.out; omega)
    have hx9 := hT9.heap HX8.out (fun h => by omega)
    have hd9 := hT9.heap HD8.out (fun h => by omega)
    have hs9 : w2.heap.size ≤ w9.heap.size := Nat.le_trans hE28.size hT9.size
    have hwas := PatAt.mono (L := fun g => g < w9.heap.size) (fun g h => Nat.lt_of_lt_of_le h hs9) ((PatAt.ext (HDA.out (by first | rfl | trivial)) hE28).keep hT9 (fun g h1 h2 => by omega))
    have hc := HXX.out (by first | rfl | trivial) w9 hEw _ hwas
    have HC := Lib.hid hc
    clear hc hwas hs9 hT9 E HX8 HD8 hE28 hE38 HSP cY HDA HXX HYZ HCP HMI HRM HE4 HA3 HA5 HE6 HYZ4 HDZ
    have cX := fun j => cell_of_row _ _ j _ _ _ hx9
    have cD := fun j => cell_of_row _ _ j _ _ _ hd9
    clear hx9 hd9
    go_wp2_with fail
    refine HC.out.mono ?_
    rintro e w10 ⟨rfl, hE10⟩
    have E := hEw.trans hE10
    clear hE10 hEw HC cX cD
    go_wp2_with fail
    refine (HWO.out _ E).mono ?_
    rintro e W9 ⟨rfl, hE9⟩
    replace E := E.trans hE9
    clear hE9
    go_wp2
    go_ret
    exact ⟨rfl, E⟩
  · have hy0 : yk = 0 ∧ ypl = 0 ∧ ymi = 0 ∧ ynt = false ∧ ymn = 0 ∧ ymx = 0 ∧ ya = none ∧ yn = 0 ∧ yc = 0 := by
      have h := HY2.out hz0
      simp only [patCells, List.cons.injEq, Value.int.injEq, Value.bool.injEq, Value.slice.injEq, and_true, true_and] at h
      obtain ⟨h1, h2, h3, h4, h5, h6, h7, h8, h9⟩ := h
      exact ⟨h1, by omega, by omega, h4, h5, h6, h7, h8, h9⟩
    obtain ⟨rfl, rfl, rfl, rfl, rfl, rfl, rfl, rfl, rfl⟩ := hy0
    have gz : (z == 0) = false := by rw [beq_eq_false_iff_ne]; exact hz0
    have cY := fun j => cell_of_row _ _ j _ _ _ hy6
    have hY6 : Y < w6.heap.size := (Array.getElem?_eq_some_iff.1 hy6).1
    clear hx6 hd6 hy6 HZ1 HY1 HY2
    go_wp2_with fail
    refine (HWO.out _ (E.alloc _)).mono ?_
    rintro e W9 ⟨rfl, hE9⟩
    replace E := (E.alloc _).trans hE9
    clear hE9
    go_wp2
    go_ret
    exact ⟨rfl, E⟩
end Go.Proofs.YtapfoaiibjdfnaaDoor
