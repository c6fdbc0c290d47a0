/- ablautref01: Get, put, Satisfies. ablautref01.Satisfies. ablautref08.Hit (printed by genrefhit.py). ablautref08.Hits (printed by genrefhits.py). ref08.Hits as places. -/
import Derived.Test.YtedhogbocifipaaGreatDoorGa24
import Derived.Test.YtedhogbocifipaaGreatDoorRefChk
import Derived.Test.YtedhogbocifipaaGreatDoorGa29
import Derived.Test.YtedhogbocifipaaGreatDoorGa09
import Derived.Test.YtedhogbocifipaaGreatDoorGa17
import Derived.Test.YtedhogbocifipaaGreatDoorGa22
set_option maxRecDepth 100000
set_option maxHeartbeats 8000000
namespace Go.Proofs.YtedhogbocifipaaGreatDoor
open Go.RowKit Go.Ab
attribute [local go_sem] Oper.semAt_some wide_fn wide_depth

theorem feature_any {f : Nat} (hf : f < 24) (w : World) :
  Calls Tryz.prog 149 #[.int .i64 (f : Int)] w fun e w' => e = .returned (.bool true) ∧ w' = w := by
 have h1 : (0 : Int) ≤ (f : Int) := by omega
 have h2 : (f : Int) < 24 := by omega
 go_enter Tryz.func149, Tryz.ntmps149
 go_wp2
 go_ret
 exact ⟨rfl, rfl⟩

theorem rget_any {s : Nat × Nat} (hs : lt32 s) (hok : okS s = true) {f : Nat} (hf : f < 24) (w : World) :
  Calls Tryz.prog 127 #[sV s, .int .i64 (f : Int)] w fun e w' => e = .returned (.int .i64 (getS s f)) ∧ Ext w w' := by
 have hv := fun (V : World) => rv_any hs V
 rw [hok] at hv
 have b1 := bit32 s.1 f hs.1
 have b2 := bit32 s.2 f hs.2
 have hg : getS s f = if s.1.testBit f = true then 1 else if s.2.testBit f = true then -1 else 0 := rfl
 obtain ⟨p, hp⟩ : ∃ p, s.1.testBit f = p := ⟨_, rfl⟩
 obtain ⟨q, hq⟩ : ∃ p, s.2.testBit f = p := ⟨_, rfl⟩
 rw [hp] at b1 hg
 rw [hq] at b2 hg
 have HV := Lib.hid hv; have HG := Lib.hid hg
 clear hv hg hp hq hok
 have hf0 : (f : Int) < 32 := by omega
 have hf1 : (0 : Int) ≤ (f : Int) := by omega
 go_enter Tryz.func127, Tryz.ntmps127
 go_wp2_with fail
 have hx : (w.alloc (.cells #[.int .u32 (s.1 : Int), .int .u32 (s.2 : Int)] 24)).heap[w.heap.size]? = some (.cells #[.int .u32 (s.1 : Int), .int .u32 (s.2 : Int)] 24 (0, 0)) := new_at rfl
 have hE : Ext w (w.alloc (.cells #[.int .u32 (s.1 : Int), .int .u32 (s.2 : Int)] 24)) := (Turn.refl _ w).alloc _
 refine (HV.out _).mono ?_
 rintro e w2 ⟨rfl, hN⟩
 have hE2 := hE.trans hN
 have hx2 := hN.keep hx
 have cX := fun j => cell_of_row _ _ j _ _ _ hx2
 clear hx hx2 hE hN
 go_wp2_with fail
 refine (feature_any hf _).mono ?_
 rintro e w3 ⟨rfl, rfl⟩
 cases p
 ·cases q
  all_goals
   go_wp2
   go_ret
   exact ⟨by rw [HG.out]; rfl, hE2⟩
 ·go_wp2
  go_ret
  exact ⟨by rw [HG.out]; rfl, hE2⟩

theorem rput_any {s : Nat × Nat} (hs : lt32 s) {f : Nat} (hf : f < 24) (v : Int) (w : World) :
  Calls Tryz.prog 157 #[sV s, .int .i64 (f : Int), .int .i64 v] w fun e w' => e = .returned (sV (putS s f v)) ∧ Ext w w' := by
 obtain ⟨a, b⟩ := s
 obtain ⟨ha, hb⟩ := hs
 dsimp only at ha hb
 have hw : (2 : Int) ^ f % 4294967296 = ((2 ^ f : Nat) : Int) := by rw [← IntKind.wrap_u32']; exact wrap32 (by omega)
 have hp := pow32 (show f < 32 by omega)
 have o1 := andn32 a (2 ^ f) ha hp
 have o2 := andn32 b (2 ^ f) hb hp
 have o3 := u32_or_nat (andn a (2 ^ f)) (2 ^ f) (andn_lt ha) hp
 have o4 := u32_or_nat (andn b (2 ^ f)) (2 ^ f) (andn_lt hb) hp
 obtain ⟨Q, hQ⟩ : ∃ Q : Int, ((2 ^ f : Nat) : Int) = Q := ⟨_, rfl⟩
 rw [hQ] at o1 o2 o3 o4 hw
 have hv : putS (a, b) f v = (andn a (2 ^ f) ||| (if v = 1 then 2 ^ f else 0), andn b (2 ^ f) ||| (if v = -1 then 2 ^ f else 0)) := rfl
 obtain ⟨x1, hx1⟩ : ∃ x, andn a (2 ^ f) = x := ⟨_, rfl⟩
 obtain ⟨x2, hx2⟩ : ∃ x, andn b (2 ^ f) = x := ⟨_, rfl⟩
 obtain ⟨x3, hx3⟩ : ∃ x, andn a (2 ^ f) ||| 2 ^ f = x := ⟨_, rfl⟩
 obtain ⟨x4, hx4⟩ : ∃ x, andn b (2 ^ f) ||| 2 ^ f = x := ⟨_, rfl⟩
 rw [hx3] at o3
 rw [hx4] at o4
 rw [hx1] at o1 o3
 rw [hx2] at o2 o4
 have HX := Lib.hid (show putS (a, b) f v = (if v = 1 then x3 else x1, if v = -1 then x4 else x2) by
  rw [hv, ← hx1, ← hx2, ← hx3, ← hx4]
  congr 1
  ·split <;> simp
  ·split <;> simp)
 obtain ⟨⟨y1, y2⟩, hy⟩ : ∃ y, putS (a, b) f v = y := ⟨_, rfl⟩
 rw [hy] at HX ⊢
 clear hv hx1 hx2 hx3 hx4 hy hp hQ
 have hf0 : (f : Int) < 32 := by omega
 have hf1 : (0 : Int) ≤ (f : Int) := by omega
 go_enter Tryz.func157, Tryz.ntmps157
 by_cases h1 : v = 1
 ·subst h1
  have hh : y1 = x3 ∧ y2 = x2 := by have := HX.out; simpa using this
  obtain ⟨rfl, rfl⟩ := hh
  clear HX
  go_wp2
  refine bodyPost_ret (results_cell_row rfl _ _ (w.heap.size + 1) _ #[.int .u32 (y1 : Int), .int .u32 (y2 : Int)] _ _ rfl (new_keep (new_at (by simp))) Tryz.underlying24 rfl (by kernel_rfl)) rfl ?_
  exact ⟨rfl, (((Turn.refl _ _).alloc _).alloc _).alloc _⟩
 by_cases h2 : v = -1
 ·subst h2
  have hh : y1 = x1 ∧ y2 = x4 := by have := HX.out; simpa using this
  obtain ⟨rfl, rfl⟩ := hh
  clear HX
  go_wp2
  refine bodyPost_ret (results_cell_row rfl _ _ (w.heap.size + 1) _ #[.int .u32 (y1 : Int), .int .u32 (y2 : Int)] _ _ rfl (new_keep (new_at (by simp))) Tryz.underlying24 rfl (by kernel_rfl)) rfl ?_
  exact ⟨rfl, (((Turn.refl _ _).alloc _).alloc _).alloc _⟩
 ·have hh : y1 = x1 ∧ y2 = x2 := by have := HX.out; rw [if_neg h1, if_neg h2] at this; exact ⟨congrArg Prod.fst this, congrArg Prod.snd this⟩
  obtain ⟨rfl, rfl⟩ := hh
  have g1 : (v == 1) = false := by rw [beq_eq_false_iff_ne]; exact h1
  have g2 : (v == -1) = false := by rw [beq_eq_false_iff_ne]; exact h2
  clear HX
  go_wp2
  refine bodyPost_ret (results_cell_row rfl _ _ (w.heap.size + 1) _ #[.int .u32 (y1 : Int), .int .u32 (y2 : Int)] _ _ rfl (new_keep (new_at (by simp))) Tryz.underlying24 rfl (by kernel_rfl)) rfl ?_
  exact ⟨rfl, (((Turn.refl _ _).alloc _).alloc _).alloc _⟩


def satTo (s c : Nat × Nat) (f : Nat) : Prop := ∀ i, i < f → getS c i ≠ 0 → getS s i = getS c i
theorem satTo_step {s c : Nat × Nat} {f : Nat} (h : satTo s c f) (h1 : getS c f ≠ 0 → getS s f = getS c f) : satTo s c (f + 1) := fun i hi => by
 by_cases e : i = f
 ·subst e; exact h1
 ·exact h i (by omega)

theorem rsat_any {s c : Nat × Nat} (hs : lt32 s) (hc : lt32 c) (w : World) :
  Calls Tryz.prog 91 #[sV s, sV c] w fun e w' => e = .returned (.bool (satV s c)) ∧ Ext w w' := by
 have hv1 := fun (V : World) => rv_any hs V
 have hv2 := fun (V : World) => rv_any hc V
 have hg1 := fun (h : okS s = true) (f : Nat) (hf : f < 24) (V : World) => rget_any hs h hf V
 have hg2 := fun (h : okS c = true) (f : Nat) (hf : f < 24) (V : World) => rget_any hc h hf V
 have hbad : okS s = false ∨ okS c = false → satV s c = false := fun h => by unfold satV; rcases h with h | h <;> rw [h] <;> simp
 have hgood : okS s = true → okS c = true → satTo s c 24 → satV s c = true := fun h1 h2 h => by unfold satV; rw [h1, h2, (satS_get hs hc h1 h2).2 h]; rfl
 have hno : okS s = true → okS c = true → ∀ f, f < 24 → getS c f ≠ 0 → getS s f ≠ getS c f → satV s c = false := fun h1 h2 f hf h3 h4 => by
  unfold satV
  cases h : satS s c with
  | false => simp
  | true => exact absurd ((satS_get hs hc h1 h2).1 h f hf h3) h4
 obtain ⟨x, hx⟩ : ∃ x, okS s = x := ⟨_, rfl⟩
 obtain ⟨y, hy⟩ : ∃ x, okS c = x := ⟨_, rfl⟩
 obtain ⟨z, hz⟩ : ∃ x, satV s c = x := ⟨_, rfl⟩
 rw [hx] at hv1 hg1 hbad hgood hno
 rw [hy] at hv2 hg2 hbad hgood hno
 rw [hz] at hbad hgood hno ⊢
 have HV1 := Lib.hid hv1; have HV2 := Lib.hid hv2; have HG1 := Lib.hid hg1; have HG2 := Lib.hid hg2; have HBAD := Lib.hid hbad; have HGOOD := Lib.hid hgood; have HNO := Lib.hid hno
 have H0 : Hid (satTo s c 0) := Lib.hid (fun i h => by omega)
 clear hv1 hv2 hg1 hg2 hbad hgood hno hx hy hz
 go_enter Tryz.func91, Tryz.ntmps91
 go_wp2_with fail
 have E1 : Ext w ((w.alloc (.cells #[.int .u32 (s.1 : Int), .int .u32 (s.2 : Int)] 24)).alloc (.cells #[.int .u32 (c.1 : Int), .int .u32 (c.2 : Int)] 24)) := ((Turn.refl _ w).alloc _).alloc _
 have x1 : ((w.alloc (.cells #[.int .u32 (s.1 : Int), .int .u32 (s.2 : Int)] 24)).alloc (.cells #[.int .u32 (c.1 : Int), .int .u32 (c.2 : Int)] 24)).heap[w.heap.size]? = some (.cells #[.int .u32 (s.1 : Int), .int .u32 (s.2 : Int)] 24 (0, 0)) := new_keep (new_at rfl)
 have y1 : ((w.alloc (.cells #[.int .u32 (s.1 : Int), .int .u32 (s.2 : Int)] 24)).alloc (.cells #[.int .u32 (c.1 : Int), .int .u32 (c.2 : Int)] 24)).heap[w.heap.size + 1]? = some (.cells #[.int .u32 (c.1 : Int), .int .u32 (c.2 : Int)] 24 (0, 0)) := new_at (by simp)
 refine (HV1.out _).mono ?_
 generalize ((w.alloc (.cells #[.int .u32 (s.1 : Int), .int .u32 (s.2 : Int)] 24)).alloc (.cells #[.int .u32 (c.1 : Int), .int .u32 (c.2 : Int)] 24)) = w1 at E1 x1 y1 ⊢
 generalize w.heap.size = B at x1 y1 ⊢
 rintro e w2 ⟨rfl, hN⟩
 have E2 := E1.trans hN
 have x2 := hN.keep x1
 have y2 := hN.keep y1
 have cX := fun j => cell_of_row _ _ j _ _ _ x2
 have cY := fun j => cell_of_row _ _ j _ _ _ y2
 clear hN x1 y1 E1
 cases x
 ·have hz := HBAD.out (.inl rfl)
  subst hz
  clear x2 y2
  go_wp2
  go_ret
  exact ⟨rfl, E2⟩
 go_wp2_with fail
 refine (HV2.out _).mono ?_
 rintro e w3 ⟨rfl, hN⟩
 have E3 := E2.trans hN
 have x3 := hN.keep x2
 have y3 := hN.keep y2
 clear cX cY
 have cX := fun j => cell_of_row _ _ j _ _ _ x3
 have cY := fun j => cell_of_row _ _ j _ _ _ y3
 clear hN x2 y2 E2
 cases y
 ·have hz := HBAD.out (.inr rfl)
  subst hz
  clear x3 y3
  go_wp2
  go_ret
  exact ⟨rfl, E3⟩
 have HX := Lib.hid x3; have HY := Lib.hid y3
 clear x3 y3
 go_wp2
 clear cX cY
 refine wp_loop (fun a W => ∃ (f : Nat), f ≤ 24 ∧ a.defers = [] ∧ (a.tmps.size = 31 ∧ a.tmps.getD 2 undef = .pointer (some ⟨B, 0, none⟩) ∧ a.tmps.getD 3 undef = .pointer (some ⟨B + 1, 0, none⟩) ∧ a.tmps.getD 5 undef = .int .i64 f) ∧ Hid (satTo s c f) ∧ Ext w3 W)
  (fun a _ => 24 - (intOf (a.tmps.getD 5 undef)).toNat) ?_ ?_
 ·exact ⟨0, by omega, rfl, ⟨rfl, rfl, rfl, rfl⟩, H0, Turn.refl _ _⟩
 clear H0
 rintro ⟨t, _⟩ W ⟨f, hf, hds, ⟨hsz, f2, f3, f5⟩, HF, hW⟩
 subst hds
 obtain ⟨u', hu⟩ := frame_fun hsz
 obtain ⟨u, rfl⟩ : ∃ x, x = u' := ⟨_, rfl⟩
 have hu' : t = #[u 0, u 1, u 2, u 3, u 4, u 5, u 6, u 7, u 8, u 9, u 10, u 11, u 12, u 13, u 14, u 15, u 16, u 17, u 18, u 19, u 20, u 21, u 22, u 23, u 24, u 25, u 26, u 27, u 28, u 29, u 30] := hu
 clear hu
 subst hu'
 change u 2 = _ at f2
 change u 3 = _ at f3
 change u 5 = _ at f5
 rw [f2, f3, f5]
 clear f2 f3 f5 hsz
 have hx := hW.keep HX.out
 have hy := hW.keep HY.out
 have cX := fun j => cell_of_row _ _ j _ _ _ hx
 have cY := fun j => cell_of_row _ _ j _ _ _ hy
 have HW := Lib.hid hW
 clear hW
 by_cases hf24 : f < 24
 ·have h1 : (f : Int) < 24 := by omega
  obtain ⟨gc, hgc⟩ : ∃ g, getS c f = g := ⟨_, rfl⟩
  obtain ⟨gs, hgs⟩ : ∃ g, getS s f = g := ⟨_, rfl⟩
  have g1 := HG1.out (by first | rfl | trivial) f hf24
  have g2 := HG2.out (by first | rfl | trivial) f hf24
  have hn := HNO.out (by first | rfl | trivial) (by first | rfl | trivial) f hf24
  have hst := satTo_step HF.out
  rw [hgs] at g1 hn hst
  rw [hgc] at g2 hn hst
  have G1 := Lib.hid g1; have G2 := Lib.hid g2; have HN := Lib.hid hn; have HST := Lib.hid hst
  clear g1 g2 hn hst hgc hgs
  go_wp2_with fail
  refine (G2.out _).mono ?_
  rintro e V ⟨rfl, hN⟩
  have hV := HW.out.trans hN
  have hx2 := hN.keep hx
  have hy2 := hN.keep hy
  clear cX cY hx hy hN
  have cX := fun j => cell_of_row _ _ j _ _ _ hx2
  have cY := fun j => cell_of_row _ _ j _ _ _ hy2
  clear hx2 hy2
  have HVV := Lib.hid hV
  clear hV
  by_cases hc0 : gc = 0
  ·subst hc0
   have HS := Lib.hid (HST.out (fun h => absurd rfl h))
   clear HN HST
   go_wp2
   first | exact ⟨⟨f + 1, by omega, by first | rfl | trivial, ⟨rfl, rfl, rfl, rfl⟩, HS, HVV.out⟩, by simp [intOf]; omega⟩ | exact ⟨⟨f + 1, by omega, by simp, HS, HVV.out⟩, by simp [intOf]; omega⟩
  ·have q1 : (gc != 0) = true := by rw [bne_iff_ne]; exact hc0
   go_wp2_with fail
   refine (G1.out _).mono ?_
   rintro e V2 ⟨rfl, hN⟩
   have hV2 := HVV.out.trans hN
   have HV2 := Lib.hid hV2
   clear cX cY hN hV2
   by_cases he : gs = gc
   ·subst he
    have HS := Lib.hid (HST.out (fun _ => rfl))
    clear HN HST
    go_wp2
    first | exact ⟨⟨f + 1, by omega, by first | rfl | trivial, ⟨rfl, rfl, rfl, rfl⟩, HS, HV2.out⟩, by simp [intOf]; omega⟩ | exact ⟨⟨f + 1, by omega, by simp, HS, HV2.out⟩, by simp [intOf]; omega⟩
   ·have hz := HN.out hc0 he
    subst hz
    have q2 : (gs != gc) = true := by rw [bne_iff_ne]; exact he
    clear HN HST hc0 he
    go_wp2
    go_ret
    exact ⟨rfl, E3.trans HV2.out⟩
 ·obtain rfl : f = 24 := by omega
  have hz := HGOOD.out (by first | rfl | trivial) (by first | rfl | trivial) HF.out
  subst hz
  clear hx hy cX cY
  go_wp2
  go_ret
  exact ⟨rfl, E3.trans HW.out⟩


theorem rhit_any {w : World} {cs : List Value} {l : LawD} {vo : Option Addr} {vn vc : Nat} {ws : Wd} (hl : LawAt w l cs) (hv : WordAt w (.slice vo vn vc) ws) (hn : ws.length = vn) (at' : Nat) (hat : at' ≤ ws.length + 1) (hsm : l.ifs.length + ws.length ≤ 100000) :
  Calls Tryz.prog 59 #[.agg cs.toArray, .slice vo vn vc, .int .i64 at'] w fun e w' => e = .returned (.bool (hitL l ws at')) ∧ Ext w w' := by
 rw [hn] at hat hsm
 obtain ⟨nm, k1, p1, m1, n1, a1, b1, o1, N1, c1, k2, p2, m2, n2, a2, b2, o2, N2, c2, io, N3, ic, oo, N4, oc, md, rfl, HLA, HPL, HPR, HIF, HOU, HNM, HN1, HN2, HN3, HN4, HMD, q0, q1, q2, q3, q4⟩ := law_gen hl
 rw [HN3.out] at hsm
 have HBG : Hid (∀ V, Ext w V → Calls Tryz.prog 92 #[.agg #[.int .i64 k1, .int .u32 (p1 : Int), .int .u32 (m1 : Int), .bool n1, .int .i64 a1, .int .i64 b1, .slice o1 N1 c1], .slice vo vn vc, .int .i64 at'] V fun e w' => ∃ u, e = .returned (.tuple #[u, .int .i64 (placeE l.left ws at')]) ∧ w'.ownsRow V.heap.size 3 1 u (begL l.left ws at').length (natV (begL l.left ws at')) ∧ Ext V w') :=
  Lib.hid fun V hE => refbegins_any (HPL.out.ext hE) (hv.ext hE) _
 have HEN : Hid (∀ V, Ext w V → Calls Tryz.prog 93 #[.agg #[.int .i64 k2, .int .u32 (p2 : Int), .int .u32 (m2 : Int), .bool n2, .int .i64 a2, .int .i64 b2, .slice o2 N2 c2], .slice vo vn vc, .int .i64 ((at' : Int) + (N3 : Int))] V fun e w' => ∃ u, e = .returned (.tuple #[u, .int .i64 (placeE l.right ws ((at' : Int) + (N3 : Int)))]) ∧ w'.ownsRow V.heap.size 3 1 u (endL l.right ws ((at' : Int) + (N3 : Int))).length (natV (endL l.right ws ((at' : Int) + (N3 : Int)))) ∧ Ext V w') :=
  Lib.hid fun V hE => refends_any (HPR.out.ext hE) (hv.ext hE) _
 have HV := Lib.hid hv; have HN := Lib.hid hn
 have hle := fun (h : hitL l ws at' = true) => hit_le h
 rw [HN3.out, hn] at hle
 have hcond := fun (j : Nat) (hj : j < l.ifs.length) (h : satV (ws.getD (at' + j) (0, 0)) (l.ifs.getD j (0, 0)) = false) => hit_cond hj h
 have hall := fun (hi : at' + l.ifs.length ≤ ws.length) (h : ∀ j, j < l.ifs.length → satV (ws.getD (at' + j) (0, 0)) (l.ifs.getD j (0, 0)) = true) => hit_all (l := l) (ws := ws) hi h
 have HLE := Lib.hid hle; have HCO := Lib.hid hcond; have HAL := Lib.hid hall
 have HFB : Hid (fitsB l ws at' = (!(begL l.left ws (at' : Int)).isEmpty && !(endL l.right ws ((at' : Int) + (N3 : Int))).isEmpty)) := Lib.hid (by unfold fitsB; rw [HN3.out, Int.natCast_add])
 clear hl hv hn HLA HPL HPR HNM HN1 HN2 HMD HOU HN4 hle hcond hall
 go_enter Tryz.func59, Tryz.ntmps59
 go_upto_region 1 with (fail)
 obtain ⟨w1, hw1⟩ : ∃ D, w.alloc (.cells #[.string nm, .int .i64 k1, .int .u32 (p1 : Int), .int .u32 (m1 : Int), .bool n1, .int .i64 a1, .int .i64 b1, .slice o1 N1 c1, .int .i64 k2, .int .u32 (p2 : Int), .int .u32 (m2 : Int), .bool n2, .int .i64 a2, .int .i64 b2, .slice o2 N2 c2, .slice io N3 ic, .slice oo N4 oc, .int .i64 md] 31) = D := ⟨_, rfl⟩
 have hE1 : Ext w w1 := by rw [← hw1]; exact (Turn.refl _ w).alloc _
 have hl1 : w1.heap[w.heap.size]? = some (.cells #[.string nm, .int .i64 k1, .int .u32 (p1 : Int), .int .u32 (m1 : Int), .bool n1, .int .i64 a1, .int .i64 b1, .slice o1 N1 c1, .int .i64 k2, .int .u32 (p2 : Int), .int .u32 (m2 : Int), .bool n2, .int .i64 a2, .int .i64 b2, .slice o2 N2 c2, .slice io N3 ic, .slice oo N4 oc, .int .i64 md] 31 (0, 0)) := by rw [← hw1]; exact new_at rfl
 rw [hw1]
 obtain ⟨B, hB⟩ : ∃ b, w.heap.size = b := ⟨_, rfl⟩
 rw [hB] at hl1 ⊢
 have HL1 := Lib.hid hl1
 have cX := fun j => cell_of_row _ _ j _ _ _ HL1.out
 clear hw1 hB hl1
 have h0 : ¬ (at' : Int) < 0 := by omega
 by_cases hlong : vn < at' + N3
 ·have h1 : (vn : Int) < (at' : Int) + (N3 : Int) := by omega
  have hf : hitL l ws at' = false := by
   cases hh : hitL l ws at' with
   | false => rfl
   | true => exact absurd (HLE.out hh) (by omega)
  have HF := Lib.hid hf
  clear hf
  go_wp2
  go_ret
  exact ⟨by rw [HF.out]; rfl, hE1⟩
 have h1 : ¬ (vn : Int) < (at' : Int) + (N3 : Int) := by omega
 go_wp2
 clear cX
 refine wp_loop (fun a V => ∃ (j : Nat), j ≤ N3 ∧ a.defers = [] ∧ (a.tmps.size = 70 ∧ a.tmps.getD 1 undef = .slice vo vn vc ∧ a.tmps.getD 2 undef = .int .i64 at' ∧ a.tmps.getD 3 undef = .pointer (some ⟨B, 0, none⟩) ∧ a.tmps.getD 7 undef = .int .i64 N3 ∧ a.tmps.getD 8 undef = .int .i64 j) ∧ (∀ i, i < j → satV (ws.getD (at' + i) (0, 0)) (l.ifs.getD i (0, 0)) = true) ∧ Ext w1 V)
  (fun a _ => N3 - (intOf (a.tmps.getD 8 undef)).toNat) ?_ ?_
 ·exact ⟨0, by omega, rfl, ⟨rfl, rfl, rfl, rfl, rfl, rfl⟩, fun i hi => absurd hi (by omega), Turn.refl _ _⟩
 rintro ⟨t, _⟩ V ⟨j, hj, hds, ⟨hsz, f1, f2, f3, f7, f8⟩, hall, hEV⟩
 subst hds
 obtain ⟨u', hu⟩ := frame_fun hsz
 obtain ⟨u, rfl⟩ : ∃ x, x = u' := ⟨_, rfl⟩
 have hu' : t = #[u 0, u 1, u 2, u 3, u 4, u 5, u 6, u 7, u 8, u 9, u 10, u 11, u 12, u 13, u 14, u 15, u 16, u 17, u 18, u 19, u 20, u 21, u 22, u 23, u 24, u 25, u 26, u 27, u 28, u 29, u 30, u 31, u 32, u 33, u 34, u 35, u 36, u 37, u 38, u 39, u 40, u 41, u 42, u 43, u 44, u 45, u 46, u 47, u 48, u 49, u 50, u 51, u 52, u 53, u 54, u 55, u 56, u 57, u 58, u 59, u 60, u 61, u 62, u 63, u 64, u 65, u 66, u 67, u 68, u 69] := hu
 clear hu
 subst hu'
 change u 1 = _ at f1
 change u 2 = _ at f2
 change u 3 = _ at f3
 change u 7 = _ at f7
 change u 8 = _ at f8
 rw [f1, f2, f3, f7, f8]
 clear f1 f2 f3 f7 f8 hsz
 have HALL := Lib.hid hall
 clear hall
 have hLV := hEV.keep HL1.out
 have hE5 := hE1.trans hEV
 by_cases hjn : j < N3
 case neg =>
  obtain rfl : N3 = j := by omega
  have h1 : ¬ (N3 : Int) < (N3 : Int) := by omega
  have cX := fun j => cell_of_row _ _ j _ _ _ hLV
  have HR : Hid (hitL l ws at' = (!(begL l.left ws (at' : Int)).isEmpty && !(endL l.right ws ((at' : Int) + (N3 : Int))).isEmpty)) := Lib.hid (by rw [HAL.out (by rw [HN3.out, HN.out]; omega) (by rw [HN3.out]; exact HALL.out), HFB.out])
  have HLV := Lib.hid hLV
  clear hLV
  obtain ⟨bl, hbl⟩ : ∃ x, begL l.left ws (at' : Int) = x := ⟨_, rfl⟩
  obtain ⟨el, hel⟩ : ∃ x, endL l.right ws ((at' : Int) + (N3 : Int)) = x := ⟨_, rfl⟩
  rw [hbl] at HBG HR
  rw [hel] at HEN HR
  clear hbl hel
  go_wp2_with fail
  refine (HBG.out V hE5).mono ?_
  rintro e w6 ⟨u6, rfl, ho6, hN⟩
  obtain ⟨p6, c6, rfl, hb6⟩ : ∃ p c, u6 = .slice p bl.length c ∧ bl.length ≤ maxLen := by
   obtain ⟨q1, q2, ao, cap, hq, q3⟩ := Rd.of_own ho6
   exact ⟨ao, cap, hq, q2⟩
  unfold maxLen at hb6
  clear ho6
  have hE6 := hE5.trans hN
  have HL6 := Lib.hid (hN.keep HLV.out)
  have cX := fun j => cell_of_row _ _ j _ _ _ HL6.out
  clear hN
  go_wp2_with fail
  refine (HEN.out w6 hE6).mono ?_
  rintro e w7 ⟨u7, rfl, ho7, hN⟩
  obtain ⟨p7, c7, rfl, hb7⟩ : ∃ p c, u7 = .slice p el.length c ∧ el.length ≤ maxLen := by
   obtain ⟨q1, q2, ao, cap, hq, q3⟩ := Rd.of_own ho7
   exact ⟨ao, cap, hq, q2⟩
  unfold maxLen at hb7
  clear ho7
  have hE7 := hE6.trans hN
  clear hN cX
  have HE7 := Lib.hid hE7
  clear HBG HEN hE7
  cases bl with
  | nil =>
   have g1 : ¬ (0 : Int) < (([] : List Nat).length : Int) := by simp
   go_wp2
   go_ret
   exact ⟨by rw [HR.out]; simp, HE7.out⟩
  | cons x r =>
   have g1 : (0 : Int) < ((x :: r).length : Int) := by rw [List.length_cons]; omega
   cases el with
   | nil =>
    have g2 : ¬ (0 : Int) < (([] : List Nat).length : Int) := by simp
    go_wp2
    go_ret
    exact ⟨by rw [HR.out]; simp, HE7.out⟩
   | cons y q =>
    have g2 : (0 : Int) < ((y :: q).length : Int) := by rw [List.length_cons]; omega
    go_wp2
    go_ret
    exact ⟨by rw [HR.out]; simp, HE7.out⟩
 have h2 : (j : Int) < (N3 : Int) := by omega
 have hil : j < l.ifs.length := by rw [HN3.out]; exact hjn
 have hiw : at' + j < ws.length := by rw [HN.out]; omega
 obtain ⟨g, off, c', hq, hg, d0, d1⟩ := (HIF.out.ext hE5).at hil
 simp only [Value.slice.injEq] at hq
 obtain ⟨rfl, hz, rfl⟩ := hq
 clear hz
 obtain ⟨g2, off2, c2', hq, hg2, e0, e1⟩ := (HV.out.ext hE5).at hiw
 simp only [Value.slice.injEq] at hq
 obtain ⟨rfl, hz, rfl⟩ := hq
 clear hz
 obtain ⟨hi1, hi2⟩ := HIF.out.2.get j hil
 obtain ⟨hw1, hw2⟩ := HV.out.2.get (at' + j) hiw
 obtain ⟨s, hs⟩ : ∃ s, ws.getD (at' + j) (0, 0) = s := ⟨_, rfl⟩
 obtain ⟨t, ht⟩ : ∃ s, l.ifs.getD j (0, 0) = s := ⟨_, rfl⟩
 obtain ⟨b, hb⟩ : ∃ b, satV s t = b := ⟨_, rfl⟩
 have HB : Hid (satV (ws.getD (at' + j) (0, 0)) (l.ifs.getD j (0, 0)) = b) := Lib.hid (by rw [hs, ht]; exact hb)
 rw [hs] at e0 e1 hw1 hw2
 rw [ht] at d0 d1 hi1 hi2
 have hc := fun (D : World) => rsat_any (s := s) (c := t) ⟨hw1, hw2⟩ ⟨hi1, hi2⟩ D
 simp only [hb] at hc
 obtain ⟨s1, s2⟩ := s
 obtain ⟨t1, t2⟩ := t
 dsimp only at d0 d1 e0 e1
 have hcs : ∀ (D : World), Ext V D → D.cell? ⟨B, 15, none⟩ = some (.slice (some ⟨g, off, none⟩) N3 ic) ∧ D.cell? ⟨g2, off2 + (at' + j) * 2, none⟩ = some (.int .u32 (s1 : Int)) ∧ D.cell? ⟨g2, off2 + (at' + j) * 2 + 1, none⟩ = some (.int .u32 (s2 : Int)) ∧ D.cell? ⟨g, off + j * 2, none⟩ = some (.int .u32 (t1 : Int)) ∧ D.cell? ⟨g, off + j * 2 + 1, none⟩ = some (.int .u32 (t2 : Int)) := by
  intro D hD
  exact ⟨cell_of_row _ _ 15 _ _ _ (hD.keep hLV), hD.cell_some e0 id, hD.cell_some e1 id, hD.cell_some d0 id, hD.cell_some d1 id⟩
 have HC := Lib.hid hc; have HS := Lib.hid hcs; have HIL := Lib.hid hil
 have cX := cell_of_row _ _ 15 _ _ _ hLV
 have h3 : (at' : Int) + (j : Int) < (vn : Int) := by omega
 have h30 : (0 : Int) ≤ (at' : Int) + (j : Int) := by omega
 have hwr : IntKind.i64.wrap ((at' : Int) + (j : Int)) = (at' : Int) + (j : Int) := IntWalk.i64_in _ (by omega)
 have htn : ((at' : Int) + (j : Int)).toNat = at' + j := by omega
 clear hc hs ht hb hi1 hi2 hw1 hw2 d0 d1 e0 e1 hcs hLV hil hiw
 go_upto_region 7 with (fail)
 clear cX
 refine wp_region_held_drew (S := fun D => D.cell? ⟨B, 15, none⟩ = some (.slice (some ⟨g, off, none⟩) N3 ic) ∧ D.cell? ⟨g2, off2 + (at' + j) * 2, none⟩ = some (.int .u32 (s1 : Int)) ∧ D.cell? ⟨g2, off2 + (at' + j) * 2 + 1, none⟩ = some (.int .u32 (s2 : Int)) ∧ D.cell? ⟨g, off + j * 2, none⟩ = some (.int .u32 (t1 : Int)) ∧ D.cell? ⟨g, off + j * 2 + 1, none⟩ = some (.int .u32 (t2 : Int))) (by kernel_rfl) (HS.out _ (Turn.drew (Turn.refl _ V))) ?_
 intro hS0
 refine tkH (i := 0) (d := 31) (v := ?_) rfl (Or.inl ⟨by rfl, ?_⟩) hS0 ?_
 rotate_left
 ·intro w hSw; (try dsimp only at hSw); go_simp; try with_reducible rfl
 try simp only [Act.put, pq]
 refine tkH (i := 1) (d := 32) (v := ?_) rfl (Or.inl ⟨by rfl, ?_⟩) hS0 ?_
 rotate_left
 ·intro w hSw; (try dsimp only at hSw); go_simp; try with_reducible rfl
 try simp only [Act.put, pq]
 refine tkH (i := 2) (d := 33) (v := ?_) rfl (Or.inl ⟨by rfl, ?_⟩) hS0 ?_
 rotate_left
 ·intro w hSw; (try dsimp only at hSw); go_simp; try with_reducible rfl
 try simp only [Act.put, pq]
 refine tkH (i := 3) (d := 34) (v := ?_) rfl (Or.inl ⟨by rfl, ?_⟩) hS0 ?_
 rotate_left
 ·intro w hSw; (try dsimp only at hSw); go_simp; try with_reducible rfl
 try simp only [Act.put, pq]
 refine tkH (i := 4) (d := 35) (v := ?_) rfl (Or.inl ⟨by rfl, ?_⟩) hS0 ?_
 rotate_left
 ·intro w hSw; (try dsimp only at hSw); go_simp; try with_reducible rfl
 try simp only [Act.put, pq]
 refine tkH (i := 5) (d := 36) (v := ?_) rfl (Or.inl ⟨by rfl, ?_⟩) hS0 ?_
 rotate_left
 ·intro w hSw; (try dsimp only at hSw); go_simp; try with_reducible rfl
 try simp only [Act.put, pq]
 refine tkH (i := 6) (d := 37) (v := ?_) rfl (Or.inl ⟨by rfl, ?_⟩) hS0 ?_
 rotate_left
 ·intro w hSw; (try dsimp only at hSw); go_simp; try with_reducible rfl
 try simp only [Act.put, pq]
 refine tkH (i := 7) (d := 38) (v := ?_) rfl (Or.inl ⟨by rfl, ?_⟩) hS0 ?_
 rotate_left
 ·intro w hSw; (try dsimp only at hSw); go_simp; try with_reducible rfl
 try simp only [Act.put, pq]
 refine tkH (i := 8) (d := 39) (v := ?_) rfl (Or.inl ⟨by rfl, ?_⟩) hS0 ?_
 rotate_left
 ·intro w hSw; (try dsimp only at hSw); go_simp; try with_reducible rfl
 try simp only [Act.put, pq]
 refine tkH (i := 9) (d := 40) (v := ?_) rfl (Or.inl ⟨by rfl, ?_⟩) hS0 ?_
 rotate_left
 ·intro w hSw; (try dsimp only at hSw); go_simp; try with_reducible rfl
 try simp only [Act.put, pq]
 refine tkH (i := 10) (d := 41) (v := ?_) rfl (Or.inl ⟨by rfl, ?_⟩) hS0 ?_
 rotate_left
 ·intro w hSw; (try dsimp only at hSw); go_simp; try with_reducible rfl
 try simp only [Act.put, pq]
 refine wpAnyH_ready (rs := [11]) (by kernel_rfl) (by simp) ?_
 refine AllReadyH.cons rfl (fun K hK => ?_) AllReadyH.nil
 (try rw [if_pos (show Region.wanted _ _ = true from rfl)])
 go_simp
 refine (HC.out _).mono ?_
 rintro e w5 ⟨rfl, hN⟩
 have hw5 : Ext V w5 := Turn.trans (Turn.drew (Turn.refl _ V)) hN
 refine hK.out _ _ (HS.out _ hw5) (fun hS1 => ?_)
 clear hK K hN
 refine tkH (i := 12) (d := 43) (v := ?_) rfl (Or.inl ⟨by rfl, ?_⟩) hS1 ?_
 rotate_left
 ·intro w hSw; (try dsimp only at hSw); go_simp; try with_reducible rfl
 try simp only [Act.put, pq]
 refine wpAnyH_done (by kernel_rfl) ?_ _

 clear hS0 hS1 HS
 have hE7 := hEV.trans hw5
 have hE8 := hE5.trans hw5
 cases b
 ·have HF := Lib.hid (HCO.out j HIL.out HB.out)
  go_wp2
  go_ret
  exact ⟨by rw [HF.out]; rfl, hE8⟩
 ·have hnx : ∀ i, i < j + 1 → satV (ws.getD (at' + i) (0, 0)) (l.ifs.getD i (0, 0)) = true := by
   intro i hi
   rcases Nat.lt_succ_iff_lt_or_eq.1 hi with h | h
   ·exact HALL.out i h
   ·rw [h]; exact HB.out
  have HNX := Lib.hid hnx
  clear hnx
  go_wp2
  exact ⟨⟨j + 1, by omega, by first | rfl | trivial, ⟨rfl, rfl, rfl, rfl, rfl, rfl⟩, HNX.out, hE7⟩, by simp [intOf]; omega⟩


theorem rhits_any {w : World} {cs : List Value} {l : LawD} {v : Value} {ws : Wd} (hl : LawAt w l cs) (hv : WordAt w v ws) :
  Calls Tryz.prog 21 #[.agg cs.toArray, v] w fun e w' => ∃ u, e = .returned (.tuple #[u, .int .i64 (lawW l ws)]) ∧ w'.ownsRow w.heap.size 3 1 u (hitsV l ws).length (natV (hitsV l ws)) ∧ Ext w w' := by
 obtain ⟨vo, vc, rfl, _⟩ := hv.slice
 have hck := fun (V : World) (hE : Ext w V) => rlwcheck_any (hl.ext hE) (hv.ext hE)
 have hhi : lawW l ws = 0 → ∀ V, Ext w V → ∀ (i : Nat), i ≤ ws.length → Calls Tryz.prog 59 #[.agg cs.toArray, .slice vo ws.length vc, .int .i64 i] V fun e w' => e = .returned (.bool (hitL l ws i)) ∧ Ext V w' := by
  intro h0 V hE i hi
  obtain ⟨hlaw, hw0⟩ := lawW_zero h0
  obtain ⟨hk4, _⟩ := lawB_parts hlaw
  have hwl := wE_le hw0
  exact rhit_any (hl.ext hE) (hv.ext hE) rfl i (by omega) (by omega)
 have hwl : lawW l ws = 0 → ws.length ≤ 1000 := by
  intro h0
  have := wE_le (lawW_zero h0).2
  omega
 have HHV : Hid (hitsV l ws = if lawW l ws = 0 then (List.range (ws.length + 1)).filter (hitL l ws) else []) := Lib.hid rfl
 obtain ⟨vn, hvn⟩ : ∃ n, ws.length = n := ⟨_, rfl⟩
 rw [hvn] at hck hhi hwl HHV ⊢
 obtain ⟨nm, k1, p1, m1, n1, a1, b1, o1, N1, c1, k2, p2, m2, n2, a2, b2, o2, N2, c2, io, N3, ic, oo, N4, oc, md, rfl, HLA, HPL, HPR, HIF, HOU, HNM, HN1, HN2, HN3, HN4, HMD, q0, q1, q2, q3, q4⟩ := law_gen hl
 obtain ⟨R, hR⟩ : ∃ R, lawW l ws = R := ⟨_, rfl⟩
 obtain ⟨U, hU⟩ : ∃ R, hitsV l ws = R := ⟨_, rfl⟩
 rw [hR] at hck hhi hwl HHV ⊢
 rw [hU] at HHV ⊢
 have HCK := Lib.hid hck; have HHI := Lib.hid hhi; have HWL := Lib.hid hwl
 clear hl hv hvn hck hhi hwl hR hU HLA HPL HPR HIF HOU HNM HN1 HN2 HN3 HN4 HMD
 go_enter Tryz.func21, Tryz.ntmps21
 go_upto_region 1 with (fail)
 obtain ⟨w1, hw1⟩ : ∃ D, w.alloc (.cells #[.string nm, .int .i64 k1, .int .u32 (p1 : Int), .int .u32 (m1 : Int), .bool n1, .int .i64 a1, .int .i64 b1, .slice o1 N1 c1, .int .i64 k2, .int .u32 (p2 : Int), .int .u32 (m2 : Int), .bool n2, .int .i64 a2, .int .i64 b2, .slice o2 N2 c2, .slice io N3 ic, .slice oo N4 oc, .int .i64 md] 31) = D := ⟨_, rfl⟩
 have hE1 : Ext w w1 := by rw [← hw1]; exact (Turn.refl _ w).alloc _
 have hl1 : w1.heap[w.heap.size]? = some (.cells #[.string nm, .int .i64 k1, .int .u32 (p1 : Int), .int .u32 (m1 : Int), .bool n1, .int .i64 a1, .int .i64 b1, .slice o1 N1 c1, .int .i64 k2, .int .u32 (p2 : Int), .int .u32 (m2 : Int), .bool n2, .int .i64 a2, .int .i64 b2, .slice o2 N2 c2, .slice io N3 ic, .slice oo N4 oc, .int .i64 md] 31 (0, 0)) := by rw [← hw1]; exact new_at rfl
 have hbz : w.heap.size < w1.heap.size := by rw [← hw1]; simp
 rw [hw1]
 obtain ⟨B, hB⟩ : ∃ b, w.heap.size = b := ⟨_, rfl⟩
 rw [hB] at hl1 hbz ⊢
 have HL1 := Lib.hid hl1; have HB := Lib.hid hB
 clear hw1 hl1 hB
 go_wp2_with (first | (refine wpList_load_row rfl 31 (.tmp 2) rfl B rfl _ _ _ _ HL1.out Tryz.underlying31 rfl Tryz.lawInfo ?_) | fail)
 refine (HCK.out w1 hE1).mono ?_
 rintro e w2 ⟨rfl, hN⟩
 have hE2 := hE1.trans hN
 have HL2 := Lib.hid (hN.keep HL1.out)
 have hb2 : B < w2.heap.size := Nat.lt_of_lt_of_le hbz hN.size
 clear hN HCK HL1 hE1 hbz
 by_cases h0 : R = 0
 case neg =>
  have hu := HHV.out
  rw [if_neg h0] at hu
  subst hu
  have hz : ¬ R = 0 := h0
  go_wp2
  exact bodyPost_ret (results_two rfl _ _ _) rfl ⟨_, rfl, World.ownsRow_nil _ _ _ _, hE2⟩
 subst h0
 have HHI2 := Lib.hid (HHI.out rfl)
 have hw1000 := HWL.out rfl
 have hu := HHV.out
 rw [if_pos rfl] at hu
 have HU := Lib.hid hu
 clear HHI HWL HHV hu
 go_wp2
 refine wp_loop (fun a V => ∃ (k : Nat) (u : Value), k ≤ vn + 1 ∧ a.defers = [] ∧ (a.tmps.size = 30 ∧ a.tmps.getD 1 undef = .slice vo vn vc ∧ a.tmps.getD 2 undef = .pointer (some ⟨B, 0, none⟩) ∧ a.tmps.getD 7 undef = u ∧ a.tmps.getD 8 undef = .int .i64 k) ∧ V.ownsRow w2.heap.size 3 1 u ((List.range k).filter (hitL l ws)).length (natV ((List.range k).filter (hitL l ws))) ∧ Ext w2 V)
  (fun a _ => vn + 1 - (intOf (a.tmps.getD 8 undef)).toNat) ?_ ?_
 ·exact ⟨0, _, by omega, rfl, ⟨rfl, rfl, rfl, rfl, rfl⟩, World.ownsRow_nil _ _ _ _, Turn.refl _ _⟩
 rintro ⟨t, _⟩ V ⟨k, u7, hk, hds, ⟨hsz, f1, f2, f7, f8⟩, hO, hEV⟩
 subst hds
 obtain ⟨u', hu⟩ := frame_fun hsz
 obtain ⟨u, rfl⟩ : ∃ x, x = u' := ⟨_, rfl⟩
 have hu' : t = #[u 0, u 1, u 2, u 3, u 4, u 5, u 6, u 7, u 8, u 9, u 10, u 11, u 12, u 13, u 14, u 15, u 16, u 17, u 18, u 19, u 20, u 21, u 22, u 23, u 24, u 25, u 26, u 27, u 28, u 29] := hu
 clear hu
 subst hu'
 change u 1 = _ at f1
 change u 2 = _ at f2
 change u 7 = _ at f7
 change u 8 = _ at f8
 rw [f1, f2, f7, f8]
 clear f1 f2 f7 f8 hsz
 have hLV := hEV.keep HL2.out
 have hE3 := hE2.trans hEV
 have HO := Lib.hid hO
 clear hO
 by_cases hkn : k ≤ vn
 ·have h1 : (k : Int) ≤ (vn : Int) := by omega
  have HLV := Lib.hid hLV
  clear hLV
  go_wp2_with (first | (refine wpList_load_row rfl 31 (.tmp 2) rfl B rfl _ _ _ _ HLV.out Tryz.underlying31 rfl Tryz.lawInfo ?_) | fail)
  refine (HHI2.out V hE3 k hkn).mono ?_
  rintro e W ⟨rfl, hN⟩
  have hE4 := hE3.trans hN
  have hE5 := hEV.trans hN
  have hO5 := own_ext HO.out hN
  have hfil : (List.range (k + 1)).filter (hitL l ws) = (List.range k).filter (hitL l ws) ++ if hitL l ws k then [k] else [] := by
   rw [List.range_succ, List.filter_append]; cases hq : hitL l ws k <;> simp [hq]
  have hlen : ((List.range k).filter (hitL l ws)).length ≤ 1001 := by
   have := List.length_filter_le (hitL l ws) (List.range k); simp at this; omega
  have HF := Lib.hid hfil; have HO5 := Lib.hid hO5; have HN := Lib.hid hN
  clear hfil hO5 HO hN
  obtain ⟨q, hq⟩ : ∃ q, hitL l ws k = q := ⟨_, rfl⟩
  rw [hq] at HF ⊢
  clear hq
  cases q
  ·have hf := HF.out
   rw [if_neg (by decide), List.append_nil] at hf
   have HO2 := HO5.out
   rw [← hf] at HO2
   have HO3 := Lib.hid HO2
   clear hf HO2
   go_wp2
   exact ⟨⟨k + 1, _, by omega, by first | rfl | trivial, ⟨rfl, rfl, rfl, rfl, rfl⟩, HO3.out, hE5⟩, by simp [intOf]; omega⟩
  ·have hwb : w2.heap.size ≤ W.heap.size := hE5.size
   obtain ⟨ao7, c7, rfl⟩ : ∃ a c, u7 = .slice a ((List.range k).filter (hitL l ws)).length c := by
    obtain ⟨q1, q2, ao, cap, hq, q3⟩ := Rd.of_own HO5.out
    exact ⟨ao, cap, hq⟩
   go_wp2_with (at_builtin; refine append_row rfl (.tmp 25) (.tmp 27) 38 rfl w2.heap.size 3 _ 1 8 Tryz.underlying38 Tryz.infoI rfl (by decide) _ _ _ rfl (own_ext HO5.out ((Turn.refl _ W).alloc _)) ⟨W.heap.size, 0, none⟩ 1 1 [.int .i64 k] rfl rfl (new_cells' rfl) ?c2 ?c3 ?c4 ?c5 ?_)
   case c2 => first | rfl | (intro u hu; simp at hu; rcases hu with rfl; rfl)
   case c3 => unfold maxLen; omega
   case c4 => omega
   case c5 => first | omega | (simp; omega)
   intro ao' c' w5 hO6 hT5 _
   have hE6 : Ext w2 w5 := hE5.after (Turn.trans (Turn.alloc (Turn.refl _ W) _) hT5) (fun b' h1 e => by have := (HO5.out.lt _ e).1; omega)
   have hf := HF.out
   simp only [if_true] at hf
   have hO7 : w5.ownsRow w2.heap.size 3 1 (.slice ao' (((List.range k).filter (hitL l ws)).length + 1) c') ((List.range (k + 1)).filter (hitL l ws)).length (natV ((List.range (k + 1)).filter (hitL l ws))) := by
    rw [hf, List.length_append, natV_append]
    exact hO6
   have HO7 := Lib.hid hO7
   clear hO6 hO7 hT5 hf
   go_wp2
   exact ⟨⟨k + 1, _, by omega, by first | rfl | trivial, ⟨rfl, rfl, rfl, rfl, rfl⟩, HO7.out, hE6⟩, by simp [intOf]; omega⟩
 ·obtain rfl : k = vn + 1 := by omega
  have h1 : ¬ (((vn + 1 : Nat) : Int) ≤ (vn : Int)) := by omega
  have hO9 := own_base HO.out (show w.heap.size ≤ w2.heap.size by have := HB.out; omega)
  have HO9 := Lib.hid hO9
  clear hO9 HO
  go_wp2
  exact bodyPost_ret (results_two rfl _ _ _) rfl ⟨u7, rfl, by rw [HU.out]; exact HO9.out, hE3⟩


theorem rhits_one {w : World} {l : LawD} {cs : List Value} {v : Value} {ws : Wd} (hl : LawAt w l cs) (hv : WordAt w v ws) :
  Calls Tryz.prog 21 #[.agg cs.toArray, v] w fun e w' => ∃ ao c, e = .returned (.tuple #[.slice ao (hitsV l ws).length c, .int .i64 (lawW l ws)]) ∧ NatsAt w' (.slice ao (hitsV l ws).length c) (hitsV l ws) ∧ Ext w w' :=
 (rhits_any hl hv).mono fun _ _ ⟨u, h1, h2, h3⟩ => by
  have h4 : NatsAt _ u (hitsV l ws) := Rd.of_own h2
  obtain ⟨ao, c, rfl⟩ := h4.slice
  exact ⟨ao, c, h1, h4, h3⟩
end Go.Proofs.YtedhogbocifipaaGreatDoor
