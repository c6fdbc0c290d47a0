/- ablautref01.Change (printed by genrefchange.py). -/
import Derived.Test.YtedhogbocifipaaGreatDoorGa31
set_option maxRecDepth 100000
set_option maxHeartbeats 8000000
namespace Go.Proofs.YtedhogbocifipaaGreatDoor
open Go.RowKit Go.Ab
attribute [local go_sem] Oper.semAt_some wide_fn wide_depth

theorem ok_has {f : Nat × Nat} (_hf : lt32 f) (h : okS f = true) : f.1 ||| f.2 < 2 ^ 24 := by
 unfold okS okSound at h
 rw [Bool.and_eq_true, beq_iff_eq, beq_iff_eq] at h
 have : f.1 ||| f.2 < 16777216 := by omega
 simpa using this
theorem chg_step {s f : Nat × Nat} (m k : Nat) (hs : lt32 s) (hf : lt32 f) (hok : okS f = true) (_h : m &&& (f.1 ||| f.2) = 0) :
  mixS s f ((m ||| (f.1 ||| f.2)) % 2 ^ (k + 1)) = if m.testBit k = true ∨ getS f k ≠ 0 then putS (mixS s f ((m ||| (f.1 ||| f.2)) % 2 ^ k)) k (getS f k) else mixS s f ((m ||| (f.1 ||| f.2)) % 2 ^ k) := by
 rw [mix_step _ _ hs hf hok]
 have hb : (m ||| (f.1 ||| f.2)).testBit k = true ↔ m.testBit k = true ∨ getS f k ≠ 0 := by
  rw [Nat.testBit_or, Nat.testBit_or, Bool.or_eq_true, Bool.or_eq_true]
  unfold getS
  cases f.1.testBit k <;> cases f.2.testBit k <;> simp
 by_cases hc : (m ||| (f.1 ||| f.2)).testBit k = true
 ·rw [if_pos hc, if_pos (hb.1 hc)]
 ·rw [if_neg hc, if_neg fun h => hc (hb.2 h)]

theorem rchange_any {s f : Nat × Nat} {m : Nat} (hs : lt32 s) (hf : lt32 f) (hm : m < 4294967296) (w : World) :
  Calls Tryz.prog 133 #[sV s, .int .u32 (m : Int), sV f] w fun e w' => e = .returned (.tuple #[sV (chgV s m f).1, .int .i64 (chgV s m f).2]) ∧ Ext w w' := by
 have hv1 := fun (V : World) => rv_any hs V
 have hv2 := fun (V : World) => rv_any hf V
 have hg := fun (h : okS f = true) (k : Nat) (hk : k < 24) (V : World) => rget_any hf h hk V
 have hh : f.1 ||| f.2 < 4294967296 := Nat.or_lt_two_pow (n := 32) hf.1 hf.2
 have oa := u32_and_nat m (f.1 ||| f.2) hm hh
 have ob := u32_or_nat f.1 f.2 hf.1 hf.2
 have hput := fun (k : Nat) (hk : k < 24) (v : Int) (V : World) => rput_any (mix_lt (s := s) (f := f) ((m ||| (f.1 ||| f.2)) % 2 ^ k) hs hf) hk v V
 have hstep := fun (h : okS f = true) (k : Nat) => chg_step (s := s) m k hs hf h
 have h0 : mixS s f ((m ||| (f.1 ||| f.2)) % 2 ^ 0) = s := by rw [Nat.pow_zero, Nat.mod_one]; exact mix_none f hs
 have hend : okS f = true → m < 16777216 → (m ||| (f.1 ||| f.2)) % 2 ^ 24 = (m ||| (f.1 ||| f.2)) := fun h1 h2 => mod_24 (Nat.or_lt_two_pow (n := 24) h2 (ok_has hf h1))
 have hbit := fun (k : Nat) => bit32 m k hm
 obtain ⟨x, hx⟩ : ∃ x, okS s = x := ⟨_, rfl⟩
 obtain ⟨y, hy⟩ : ∃ x, okS f = x := ⟨_, rfl⟩
 rw [hx] at hv1
 rw [hy] at hv2 hg hstep hend
 have HR : Hid (chgV s m f = if x = false ∨ y = false then ((0, 0), 14) else if 16777215 < m ∨ m &&& (f.1 ||| f.2) ≠ 0 then ((0, 0), 2) else (mixS s f (m ||| (f.1 ||| f.2)), 0)) := Lib.hid (by unfold chgV; rw [hx, hy])
 obtain ⟨r1, r2, hr⟩ : ∃ r1 r2, chgV s m f = (r1, r2) := ⟨_, _, rfl⟩
 rw [hr] at HR ⊢
 have HV1 := Lib.hid hv1; have HV2 := Lib.hid hv2; have HG := Lib.hid hg; have HP := Lib.hid hput; have HST := Lib.hid hstep; have H0 := Lib.hid h0; have HEND := Lib.hid hend; have HBIT := Lib.hid hbit
 have hgz0 : m &&& (f.1 ||| f.2) = 0 → ∀ k, m.testBit k = true → getS f k = 0 := fun h k hk => by
  have := congrArg (fun x => x.testBit k) h
  simp only [Nat.testBit_and, hk, Bool.true_and, Nat.testBit_or, Nat.zero_testBit, Bool.or_eq_false_iff] at this
  unfold getS
  rw [this.1, this.2]; rfl
 have HGZ00 := Lib.hid hgz0
 clear hgz0
 obtain ⟨M, hM⟩ : ∃ M, m ||| (f.1 ||| f.2) = M := ⟨_, rfl⟩
 obtain ⟨h, hhd⟩ : ∃ h, f.1 ||| f.2 = h := ⟨_, rfl⟩
 obtain ⟨q, hq⟩ : ∃ q, m &&& (f.1 ||| f.2) = q := ⟨_, rfl⟩
 rw [hq] at HR oa HST HGZ00
 rw [hM] at HR HP HST H0 HEND
 rw [hhd] at oa ob
 clear hv1 hv2 hg hput hstep h0 hend hbit hx hy hr hM hhd hq hh
 go_enter Tryz.func133, Tryz.ntmps133
 go_wp2_with fail
 obtain ⟨B, hB⟩ : ∃ B, w.heap.size = B := ⟨_, rfl⟩
 have x1 : (((w.alloc (.cells #[.int .u32 (s.1 : Int), .int .u32 (s.2 : Int)] 24)).alloc (.cells #[.int .u32 (f.1 : Int), .int .u32 (f.2 : Int)] 24)).alloc (.cells #[.int .u32 0, .int .u32 0] 24)).heap[B]? = some (.cells #[.int .u32 (s.1 : Int), .int .u32 (s.2 : Int)] 24 (0, 0)) := by subst hB; exact new_keep (new_keep (new_at rfl))
 have y1 : (((w.alloc (.cells #[.int .u32 (s.1 : Int), .int .u32 (s.2 : Int)] 24)).alloc (.cells #[.int .u32 (f.1 : Int), .int .u32 (f.2 : Int)] 24)).alloc (.cells #[.int .u32 0, .int .u32 0] 24)).heap[B + 1]? = some (.cells #[.int .u32 (f.1 : Int), .int .u32 (f.2 : Int)] 24 (0, 0)) := by subst hB; exact new_keep (new_at (by simp))
 have z1 : (((w.alloc (.cells #[.int .u32 (s.1 : Int), .int .u32 (s.2 : Int)] 24)).alloc (.cells #[.int .u32 (f.1 : Int), .int .u32 (f.2 : Int)] 24)).alloc (.cells #[.int .u32 0, .int .u32 0] 24)).heap[B + 2]? = some (.cells #[.int .u32 0, .int .u32 0] 24 (0, 0)) := by subst hB; exact new_at (by simp)
 have E1 : Ext w (((w.alloc (.cells #[.int .u32 (s.1 : Int), .int .u32 (s.2 : Int)] 24)).alloc (.cells #[.int .u32 (f.1 : Int), .int .u32 (f.2 : Int)] 24)).alloc (.cells #[.int .u32 0, .int .u32 0] 24)) := (((Turn.refl _ w).alloc _).alloc _).alloc _
 refine (HV1.out _).mono ?_
 generalize (((w.alloc (.cells #[.int .u32 (s.1 : Int), .int .u32 (s.2 : Int)] 24)).alloc (.cells #[.int .u32 (f.1 : Int), .int .u32 (f.2 : Int)] 24)).alloc (.cells #[.int .u32 0, .int .u32 0] 24)) = w1 at x1 y1 z1 E1 ⊢
 rw [hB]
 have HB := Lib.hid hB
 clear hB
 rintro e w2 ⟨rfl, hN⟩
 have E2 := E1.trans hN
 have x2 := hN.keep x1
 have y2 := hN.keep y1
 have z2 := hN.keep z1
 have cX := fun j => cell_of_row _ _ j _ _ _ x2
 have cY := fun j => cell_of_row _ _ j _ _ _ y2
 have HZ2 := Lib.hid z2
 clear hN x1 y1 z1 E1
 cases x
 ·have hw : r1 = (0, 0) ∧ r2 = 14 := by have := HR.out; rw [if_pos (.inl rfl)] at this; exact ⟨congrArg Prod.fst this, congrArg Prod.snd this⟩
  obtain ⟨rfl, rfl⟩ := hw
  clear HR x2 y2 z2
  go_wp2_with (refine wpList_store_row rfl 24 (.tmp 6) (.tmp 18) rfl (B + 2) #[.int .u32 0, .int .u32 0] rfl rfl _ _ HZ2.out (by kernel_rfl) rfl (by kernel_rfl) ?_)
  have hT9 := Turn.setRow w2 (B + 2) #[.int .u32 0, .int .u32 0]
  refine bodyPost_ret (snd_result2 (p := 6) (u := 7) rfl rfl (setRow_heap _ _ _ _ _ _ HZ2.out) (by kernel_rfl)) rfl ?_
  exact ⟨rfl, E2.after hT9 (fun b h1 e => by have := HB.out; omega)⟩
 go_wp2_with fail
 refine (HV2.out _).mono ?_
 rintro e w3 ⟨rfl, hN⟩
 have E3 := E2.trans hN
 have x3 := hN.keep x2
 have y3 := hN.keep y2
 have z3 := hN.keep z2
 clear cX cY
 have cX := fun j => cell_of_row _ _ j _ _ _ x3
 have cY := fun j => cell_of_row _ _ j _ _ _ y3
 have HZ3 := Lib.hid z3
 clear hN x2 y2 z2 E2
 cases y
 ·have hw : r1 = (0, 0) ∧ r2 = 14 := by have := HR.out; rw [if_pos (.inr rfl)] at this; exact ⟨congrArg Prod.fst this, congrArg Prod.snd this⟩
  obtain ⟨rfl, rfl⟩ := hw
  clear HR x3 y3 z3
  go_wp2_with (refine wpList_store_row rfl 24 (.tmp 6) (.tmp 18) rfl (B + 2) #[.int .u32 0, .int .u32 0] rfl rfl _ _ HZ3.out (by kernel_rfl) rfl (by kernel_rfl) ?_)
  have hT9 := Turn.setRow w3 (B + 2) #[.int .u32 0, .int .u32 0]
  refine bodyPost_ret (snd_result2 (p := 6) (u := 7) rfl rfl (setRow_heap _ _ _ _ _ _ HZ3.out) (by kernel_rfl)) rfl ?_
  exact ⟨rfl, E3.after hT9 (fun b h1 e => by have := HB.out; omega)⟩
 by_cases hm2 : 16777215 < m
 ·have g1 : (16777215 : Int) < (m : Int) := by omega
  have hw : r1 = (0, 0) ∧ r2 = 2 := by have := HR.out; rw [if_neg (by decide), if_pos (.inl hm2)] at this; exact ⟨congrArg Prod.fst this, congrArg Prod.snd this⟩
  obtain ⟨rfl, rfl⟩ := hw
  clear HR x3 y3 z3
  go_wp2_with (refine wpList_store_row rfl 24 (.tmp 6) (.tmp 31) rfl (B + 2) #[.int .u32 0, .int .u32 0] rfl rfl _ _ HZ3.out (by kernel_rfl) rfl (by kernel_rfl) ?_)
  have hT9 := Turn.setRow w3 (B + 2) #[.int .u32 0, .int .u32 0]
  refine bodyPost_ret (snd_result2 (p := 6) (u := 7) rfl rfl (setRow_heap _ _ _ _ _ _ HZ3.out) (by kernel_rfl)) rfl ?_
  exact ⟨rfl, E3.after hT9 (fun b h1 e => by have := HB.out; omega)⟩
 have g1 : ¬ (16777215 : Int) < (m : Int) := by omega
 by_cases hq0 : q = 0
 case neg =>
  have g2 : ((q : Int) != 0) = true := by rw [bne_iff_ne]; omega
  have hw : r1 = (0, 0) ∧ r2 = 2 := by have := HR.out; rw [if_neg (by decide), if_pos (.inr hq0)] at this; exact ⟨congrArg Prod.fst this, congrArg Prod.snd this⟩
  obtain ⟨rfl, rfl⟩ := hw
  clear HR x3 y3 z3
  go_wp2_with (refine wpList_store_row rfl 24 (.tmp 6) (.tmp 31) rfl (B + 2) #[.int .u32 0, .int .u32 0] rfl rfl _ _ HZ3.out (by kernel_rfl) rfl (by kernel_rfl) ?_)
  have hT9 := Turn.setRow w3 (B + 2) #[.int .u32 0, .int .u32 0]
  refine bodyPost_ret (snd_result2 (p := 6) (u := 7) rfl rfl (setRow_heap _ _ _ _ _ _ HZ3.out) (by kernel_rfl)) rfl ?_
  exact ⟨rfl, E3.after hT9 (fun b h1 e => by have := HB.out; omega)⟩
 subst hq0
 have hw : r1 = mixS s f M ∧ r2 = 0 := by have := HR.out; rw [if_neg (by decide), if_neg (by omega)] at this; exact ⟨congrArg Prod.fst this, congrArg Prod.snd this⟩
 obtain ⟨hr1, rfl⟩ := hw
 rw [← HEND.out (by first | rfl | trivial) (by omega)] at hr1
 have HR1 := Lib.hid hr1
 clear HR hr1 HEND
 go_wp2
 have hA : Ext w3 (w3.alloc (.cells #[.int .u32 (s.1 : Int), .int .u32 (s.2 : Int)] 24)) := (Turn.refl _ w3).alloc _
 have o4 : (w3.alloc (.cells #[.int .u32 (s.1 : Int), .int .u32 (s.2 : Int)] 24)).heap[w3.heap.size]? = some (.cells #[.int .u32 (s.1 : Int), .int .u32 (s.2 : Int)] 24 (0, 0)) := new_at rfl
 have hOB : B + 2 < w3.heap.size := (Array.getElem?_eq_some_iff.1 z3).1
 have x4 := hA.keep x3
 have y4 := hA.keep y3
 have z4 := hA.keep z3
 have E4 : Ext w _ := E3.trans hA
 clear cX cY x3 y3 z3 E3 hA HZ2 HZ3
 generalize (w3.alloc (.cells #[.int .u32 (s.1 : Int), .int .u32 (s.2 : Int)] 24)) = w4 at o4 x4 y4 z4 E4 ⊢
 generalize w3.heap.size = O at o4 hOB ⊢
 have HG2 := Lib.hid (HG.out (by first | rfl | trivial)); have HST2 := Lib.hid (fun k => HST.out (by first | rfl | trivial) k (by first | rfl | trivial))
 have HGZ0 := Lib.hid (HGZ00.out (by first | rfl | trivial))
 clear HG HST HGZ00
 refine wp_loop (fun a W => ∃ (k : Nat) (c : Nat × Nat), k ≤ 24 ∧ a.defers = [] ∧ (a.tmps.size = 56 ∧ a.tmps.getD 1 undef = .int .u32 (m : Int) ∧ a.tmps.getD 3 undef = .pointer (some ⟨B, 0, none⟩) ∧ a.tmps.getD 5 undef = .pointer (some ⟨B + 1, 0, none⟩) ∧ a.tmps.getD 6 undef = .pointer (some ⟨B + 2, 0, none⟩) ∧ a.tmps.getD 8 undef = .pointer (some ⟨O, 0, none⟩) ∧ a.tmps.getD 9 undef = .int .i64 k) ∧ Hid (c = mixS s f (M % 2 ^ k)) ∧
   W.heap[B]? = some (.cells #[.int .u32 (s.1 : Int), .int .u32 (s.2 : Int)] 24 (0, 0)) ∧ W.heap[B + 1]? = some (.cells #[.int .u32 (f.1 : Int), .int .u32 (f.2 : Int)] 24 (0, 0)) ∧ W.heap[B + 2]? = some (.cells #[.int .u32 0, .int .u32 0] 24 (0, 0)) ∧ W.heap[O]? = some (.cells #[.int .u32 (c.1 : Int), .int .u32 (c.2 : Int)] 24 (0, 0)) ∧ Ext w W)
  (fun a _ => 24 - (intOf (a.tmps.getD 9 undef)).toNat) ?_ ?_
 ·exact ⟨0, s, by omega, rfl, ⟨rfl, rfl, rfl, rfl, rfl, rfl, rfl⟩, Lib.hid H0.out.symm, x4, y4, z4, o4, E4⟩
 clear x4 y4 z4 o4 E4 H0
 rintro ⟨t, _⟩ W ⟨k, c, hk, hds, ⟨hsz, f1, f3, f5, f6, f8, f9⟩, HC, hx, hy, hz, ho, hE⟩
 subst hds
 obtain ⟨u', hu⟩ := frame_fun hsz
 obtain ⟨u, rfl⟩ : ∃ x, x = u' := ⟨_, rfl⟩
 have hu' : t = #[u 0, u 1, u 2, u 3, u 4, u 5, u 6, u 7, u 8, u 9, u 10, u 11, u 12, u 13, u 14, u 15, u 16, u 17, u 18, u 19, u 20, u 21, u 22, u 23, u 24, u 25, u 26, u 27, u 28, u 29, u 30, u 31, u 32, u 33, u 34, u 35, u 36, u 37, u 38, u 39, u 40, u 41, u 42, u 43, u 44, u 45, u 46, u 47, u 48, u 49, u 50, u 51, u 52, u 53, u 54, u 55] := hu
 clear hu
 subst hu'
 change u 1 = _ at f1
 change u 3 = _ at f3
 change u 5 = _ at f5
 change u 6 = _ at f6
 change u 8 = _ at f8
 change u 9 = _ at f9
 rw [f1, f3, f5, f6, f8, f9]
 clear f1 f3 f5 f6 f8 f9 hsz
 have HX := Lib.hid hx; have HY := Lib.hid hy; have HZ := Lib.hid hz; have HO := Lib.hid ho; have HE := Lib.hid hE
 by_cases hk24 : k < 24
 ·have h1 : (k : Int) < 24 := by omega
  have h2 : (k : Int) < 32 := by omega
  have h3 : (0 : Int) ≤ (k : Int) := by omega
  have b1 := HBIT.out k
  have hp := HP.out k hk24
  have hg := HG2.out k hk24
  have hst := HST2.out k
  rw [← HC.out] at hp hst
  obtain ⟨gv, hgv⟩ : ∃ g, getS f k = g := ⟨_, rfl⟩
  obtain ⟨nx, hnx⟩ : ∃ n, putS c k gv = n := ⟨_, rfl⟩
  obtain ⟨q, hq⟩ : ∃ q, m.testBit k = q := ⟨_, rfl⟩
  have hgz : m.testBit k = true → getS f k = 0 := HGZ0.out k
  rw [hgv] at hg hst hgz
  rw [hnx] at hst
  rw [hq] at b1 hst hgz
  have HGZ := Lib.hid hgz
  clear hgz
  have hp1 := hp gv
  rw [hnx] at hp1
  have hnx0 : gv = 0 → putS c k 0 = nx := fun h => by rw [← hnx, h]
  have G1 := Lib.hid hg; have P1 := Lib.hid hp1; have P0 := Lib.hid (hp 0); have NX := Lib.hid hst; have NX0 := Lib.hid hnx0
  clear hp hp1 hg hst hgv hnx hq hnx0
  cases q
  ·have cY := fun j => cell_of_row _ _ j _ _ _ hy
   go_wp2_with fail
   refine (G1.out _).mono ?_
   rintro e V0 ⟨rfl, hN0⟩
   clear cY
   have HX := Lib.hid (hN0.keep HX.out); have HY := Lib.hid (hN0.keep HY.out); have HZ := Lib.hid (hN0.keep HZ.out); have HO := Lib.hid (hN0.keep HO.out); have HE := Lib.hid (HE.out.trans hN0)
   clear hx hy hz ho hE hN0
   by_cases hg0 : gv = 0
   ·have hn := NX.out
    rw [if_neg (by simp [hg0])] at hn
    have HNX := Lib.hid hn.symm
    subst hg0
    clear hn NX
    go_wp2
    first | exact ⟨⟨k + 1, c, by omega, by first | rfl | trivial, ⟨rfl, rfl, rfl, rfl, rfl, rfl, rfl⟩, HNX, HX.out, HY.out, HZ.out, HO.out, HE.out⟩, by simp [intOf]; omega⟩ | exact ⟨⟨k + 1, c, by omega, by simp, HNX, HX.out, HY.out, HZ.out, HO.out, HE.out⟩, by simp [intOf]; omega⟩
   ·have hn := NX.out
    rw [if_pos (.inr hg0)] at hn
    have HNX := Lib.hid hn.symm
    have q1 : (gv != 0) = true := by rw [bne_iff_ne]; exact hg0
    generalize V0 = W at HX HY HZ HO HE ⊢
    have hcs : ∀ (D : World), Turn (· = O) W D → D.cell? ⟨B + 1, 0, none⟩ = some (.int .u32 (f.1 : Int)) ∧ D.cell? ⟨B + 1, 1, none⟩ = some (.int .u32 (f.2 : Int)) := by
     intro D hD
     have h0 := hD.heap HY.out (by omega)
     simp [World.cell?, h0]
    have HS := Lib.hid hcs
    have cO := fun j => cell_of_row _ _ j _ _ _ HO.out
    clear hn NX hcs
    go_wp2
    refine wp_region_held_drew (S := fun D => D.cell? ⟨B + 1, 0, none⟩ = some (.int .u32 (f.1 : Int)) ∧ D.cell? ⟨B + 1, 1, none⟩ = some (.int .u32 (f.2 : Int))) (by kernel_rfl) (HS.out _ (Turn.drew (Turn.refl _ W))) ?_
    intro hS0
    refine tkH (i := 1) (d := 50) (v := ?_) rfl (Or.inl ⟨by rfl, ?_⟩) hS0 ?_
    rotate_left
    ·intro w hSw; (try dsimp only at hSw); go_simp; try with_reducible rfl
    try simp only [Act.put, pq]
    refine tkH (i := 2) (d := 51) (v := ?_) rfl (Or.inl ⟨by rfl, ?_⟩) hS0 ?_
    rotate_left
    ·intro w hSw; (try dsimp only at hSw); go_simp; try with_reducible rfl
    try simp only [Act.put, pq]
    refine tkH (i := 3) (d := 52) (v := ?_) rfl (Or.inl ⟨by rfl, ?_⟩) hS0 ?_
    rotate_left
    ·intro w hSw; (try dsimp only at hSw); go_simp; try with_reducible rfl
    try simp only [Act.put, pq]
    refine wpAnyH_ready (rs := [0, 4]) (by kernel_rfl) (by simp) ?_
    refine AllReadyH.cons rfl (fun K hK => ?_) (AllReadyH.cons rfl (fun K hK => ?_) (AllReadyH.nil))
    ·(try rw [if_pos (show Region.wanted _ _ = true from rfl)])
     go_simp
     refine hK.out _ _ (hS0) (fun _ => ?_)
     clear hK K
     try simp only [Act.put, pq]
     refine wpAnyH_ready (rs := [4]) (by kernel_rfl) (by simp) ?_
     refine AllReadyH.cons rfl (fun K hK => ?_) (AllReadyH.nil)
     (try rw [if_pos (show Region.wanted _ _ = true from rfl)])
     go_simp
     refine (G1.out _).mono ?_
     rintro e V1 ⟨rfl, hN⟩
     have hV1 : Ext W V1 := Turn.trans (Turn.drew (Turn.refl _ W)) hN
     have o1 := hV1.keep HO.out
     have cO1 := fun j => cell_of_row _ _ j _ _ _ o1
     refine hK.out _ _ (HS.out _ (Ext.of hV1)) (fun hS1 => ?_)
     clear hK K hN
     try simp only [Act.put, pq]
     clear cO1
     refine wpAnyH_ready (rs := [5]) (by kernel_rfl) (by simp) ?_
     refine AllReadyH.cons rfl (fun K hK => ?_) (AllReadyH.nil)
     (try rw [if_pos (show Region.wanted _ _ = true from rfl)])
     go_simp
     refine (P1.out _).mono ?_
     rintro e V2 ⟨rfl, hN⟩
     have hV2 : Ext W V2 := hV1.trans hN
     have o2 := hV2.keep HO.out
     refine hK.out _ _ (HS.out _ (Ext.of hV2)) (fun hS2 => ?_)
     clear hK K hN o1
     try simp only [Act.put, pq]
     refine wpAnyH_ready (rs := [6]) (by kernel_rfl) (by simp) ?_
     refine AllReadyH.cons rfl (fun K hK => ?_) (AllReadyH.nil)
     (try rw [if_pos (show Region.wanted _ _ = true from rfl)])
     refine wp_store_row 24 (.tmp 8) (.tmp 54) rfl O #[.int .u32 (nx.1 : Int), .int .u32 (nx.2 : Int)] rfl rfl _ _ o2 (by kernel_rfl) rfl (by kernel_rfl) ?_
     have hT9 := Turn.setRow V2 O #[.int .u32 (nx.1 : Int), .int .u32 (nx.2 : Int)]
     have o9 : (V2.setRow O #[.int .u32 (nx.1 : Int), .int .u32 (nx.2 : Int)]).heap[O]? = some (.cells #[.int .u32 (nx.1 : Int), .int .u32 (nx.2 : Int)] 24 (0, 0)) := setRow_heap _ _ _ _ _ _ o2
     have hT8 := (Ext.of hV2).trans hT9
     have x9 := hT8.heap HX.out (by omega)
     have y9 := hT8.heap HY.out (by omega)
     have z9 := hT8.heap HZ.out (by omega)
     have E9 : Ext w _ := HE.out.after hT8 (fun b h1 e => by have := HB.out; omega)
     have HX9 := Lib.hid x9; have HY9 := Lib.hid y9; have HZ9 := Lib.hid z9; have HO9 := Lib.hid o9; have HE9 := Lib.hid E9
     refine hK.out _ _ (HS.out _ hT8) (fun hS3 => ?_)
     clear hK K o2 x9 y9 z9 o9 E9 hT8 hT9 hS1 hS2 hS3
     change wpAnyH _ _ _ _ _ _ _ (Act.put _ none _) _
     simp only [Act.put]
     refine wpAnyH_done (by kernel_rfl) ?_ _
     go_wp2
     first | exact ⟨⟨k + 1, nx, by omega, by first | rfl | trivial, ⟨rfl, rfl, rfl, rfl, rfl, rfl, rfl⟩, HNX, HX9.out, HY9.out, HZ9.out, HO9.out, HE9.out⟩, by simp [intOf]; omega⟩ | exact ⟨⟨k + 1, nx, by omega, by simp, HNX, HX9.out, HY9.out, HZ9.out, HO9.out, HE9.out⟩, by simp [intOf]; omega⟩
    ·(try rw [if_pos (show Region.wanted _ _ = true from rfl)])
     go_simp
     refine (G1.out _).mono ?_
     rintro e V1 ⟨rfl, hN⟩
     have hV1 : Ext W V1 := Turn.trans (Turn.drew (Turn.refl _ W)) hN
     have o1 := hV1.keep HO.out
     have cO1 := fun j => cell_of_row _ _ j _ _ _ o1
     refine hK.out _ _ (HS.out _ (Ext.of hV1)) (fun hS1 => ?_)
     clear hK K hN
     try simp only [Act.put, pq]
     refine wpAnyH_ready (rs := [0]) (by kernel_rfl) (by simp) ?_
     refine AllReadyH.cons rfl (fun K hK => ?_) (AllReadyH.nil)
     (try rw [if_pos (show Region.wanted _ _ = true from rfl)])
     go_simp
     refine hK.out _ _ (hS1) (fun _ => ?_)
     clear hK K
     try simp only [Act.put, pq]
     clear cO1
     refine wpAnyH_ready (rs := [5]) (by kernel_rfl) (by simp) ?_
     refine AllReadyH.cons rfl (fun K hK => ?_) (AllReadyH.nil)
     (try rw [if_pos (show Region.wanted _ _ = true from rfl)])
     go_simp
     refine (P1.out _).mono ?_
     rintro e V2 ⟨rfl, hN⟩
     have hV2 : Ext W V2 := hV1.trans hN
     have o2 := hV2.keep HO.out
     refine hK.out _ _ (HS.out _ (Ext.of hV2)) (fun hS2 => ?_)
     clear hK K hN o1
     try simp only [Act.put, pq]
     refine wpAnyH_ready (rs := [6]) (by kernel_rfl) (by simp) ?_
     refine AllReadyH.cons rfl (fun K hK => ?_) (AllReadyH.nil)
     (try rw [if_pos (show Region.wanted _ _ = true from rfl)])
     refine wp_store_row 24 (.tmp 8) (.tmp 54) rfl O #[.int .u32 (nx.1 : Int), .int .u32 (nx.2 : Int)] rfl rfl _ _ o2 (by kernel_rfl) rfl (by kernel_rfl) ?_
     have hT9 := Turn.setRow V2 O #[.int .u32 (nx.1 : Int), .int .u32 (nx.2 : Int)]
     have o9 : (V2.setRow O #[.int .u32 (nx.1 : Int), .int .u32 (nx.2 : Int)]).heap[O]? = some (.cells #[.int .u32 (nx.1 : Int), .int .u32 (nx.2 : Int)] 24 (0, 0)) := setRow_heap _ _ _ _ _ _ o2
     have hT8 := (Ext.of hV2).trans hT9
     have x9 := hT8.heap HX.out (by omega)
     have y9 := hT8.heap HY.out (by omega)
     have z9 := hT8.heap HZ.out (by omega)
     have E9 : Ext w _ := HE.out.after hT8 (fun b h1 e => by have := HB.out; omega)
     have HX9 := Lib.hid x9; have HY9 := Lib.hid y9; have HZ9 := Lib.hid z9; have HO9 := Lib.hid o9; have HE9 := Lib.hid E9
     refine hK.out _ _ (HS.out _ hT8) (fun hS3 => ?_)
     clear hK K o2 x9 y9 z9 o9 E9 hT8 hT9 hS1 hS2 hS3
     change wpAnyH _ _ _ _ _ _ _ (Act.put _ none _) _
     simp only [Act.put]
     refine wpAnyH_done (by kernel_rfl) ?_ _
     go_wp2
     first | exact ⟨⟨k + 1, nx, by omega, by first | rfl | trivial, ⟨rfl, rfl, rfl, rfl, rfl, rfl, rfl⟩, HNX, HX9.out, HY9.out, HZ9.out, HO9.out, HE9.out⟩, by simp [intOf]; omega⟩ | exact ⟨⟨k + 1, nx, by omega, by simp, HNX, HX9.out, HY9.out, HZ9.out, HO9.out, HE9.out⟩, by simp [intOf]; omega⟩
  ·have hn := NX.out
   rw [if_pos (.inl rfl)] at hn
   have hgz : gv = 0 := HGZ.out rfl
   have h0x := NX0.out hgz
   have HNX := Lib.hid hn.symm
   have p0 := P0.out
   rw [h0x] at p0
   have P2 := Lib.hid p0
   have cO := fun j => cell_of_row _ _ j _ _ _ ho
   subst hgz
   clear hn NX hx hy hz ho hE p0 h0x NX0 P0 P1 HGZ
   go_wp2_with fail
   refine (P2.out _).mono ?_
   rintro e V2 ⟨rfl, hN⟩
   have o2 := hN.keep HO.out
   have hT8 : Turn (· = O) W (V2.setRow O #[.int .u32 (nx.1 : Int), .int .u32 (nx.2 : Int)]) := (Ext.of hN).trans (Turn.setRow V2 O #[.int .u32 (nx.1 : Int), .int .u32 (nx.2 : Int)])
   have HX9 := Lib.hid (hT8.heap HX.out (by omega)); have HY9 := Lib.hid (hT8.heap HY.out (by omega)); have HZ9 := Lib.hid (hT8.heap HZ.out (by omega))
   have HE9 := Lib.hid (HE.out.after hT8 (fun b h1 e => by have := HB.out; omega))
   have HO9 : Hid ((V2.setRow O #[.int .u32 (nx.1 : Int), .int .u32 (nx.2 : Int)]).heap[O]? = some (.cells #[.int .u32 (nx.1 : Int), .int .u32 (nx.2 : Int)] 24 (0, 0))) := Lib.hid (setRow_heap _ _ _ _ _ _ o2)
   have HO2 := Lib.hid o2
   clear o2 hT8 hN cO
   go_wp2_with (refine wpList_store_row rfl 24 (.tmp 8) (.tmp 44) rfl O #[.int .u32 (nx.1 : Int), .int .u32 (nx.2 : Int)] rfl rfl _ _ HO2.out (by kernel_rfl) rfl (by kernel_rfl) ?_; generalize V2.setRow O #[.int .u32 (nx.1 : Int), .int .u32 (nx.2 : Int)] = V3 at HX9 HY9 HZ9 HE9 HO9 ⊢; have cY := fun j => cell_of_row _ _ j _ _ _ HY9.out)
   refine (G1.out _).mono ?_
   rintro e V4 ⟨rfl, hN⟩
   clear cY
   have HX := Lib.hid (hN.keep HX9.out); have HY := Lib.hid (hN.keep HY9.out); have HZ := Lib.hid (hN.keep HZ9.out); have HO := Lib.hid (hN.keep HO9.out); have HE := Lib.hid (HE9.out.trans hN)
   clear hN
   go_wp2
   first | exact ⟨⟨k + 1, nx, by omega, by first | rfl | trivial, ⟨rfl, rfl, rfl, rfl, rfl, rfl, rfl⟩, HNX, HX.out, HY.out, HZ.out, HO.out, HE.out⟩, by simp [intOf]; omega⟩ | exact ⟨⟨k + 1, nx, by omega, by simp, HNX, HX.out, HY.out, HZ.out, HO.out, HE.out⟩, by simp [intOf]; omega⟩
 ·obtain rfl : k = 24 := by omega
  have hr := HR1.out
  rw [← HC.out] at hr
  subst hr
  have cO := fun j => cell_of_row _ _ j _ _ _ ho
  clear hx hy hz ho hE
  go_wp2_with (refine wpList_store_row rfl 24 (.tmp 6) (.tmp 55) rfl (B + 2) #[.int .u32 (r1.1 : Int), .int .u32 (r1.2 : Int)] rfl rfl _ _ HZ.out (by kernel_rfl) rfl (by kernel_rfl) ?_)
  have hT9 := Turn.setRow W (B + 2) #[.int .u32 (r1.1 : Int), .int .u32 (r1.2 : Int)]
  refine bodyPost_ret (snd_result2 (p := 6) (u := 7) rfl rfl (setRow_heap _ _ _ _ _ _ HZ.out) (by kernel_rfl)) rfl ?_
  exact ⟨rfl, HE.out.after hT9 (fun b h1 e => by have := HB.out; omega)⟩
end Go.Proofs.YtedhogbocifipaaGreatDoor
