/- ablautref08.Kind (printed by genrefkind.py). -/
import Derived.Test.YtedhogbocifipaaGreatDoorGa18
import Derived.Test.YtedhogbocifipaaGreatDoorRefChk
set_option maxRecDepth 100000
set_option maxHeartbeats 16000000
namespace Go.Proofs.YtedhogbocifipaaGreatDoor
open Go.RowKit Go.Ab
attribute [local go_sem] Oper.semAt_some wide_fn wide_depth

/-- Which of the first k numbers are there. -/
def seenL (k : Nat) (G : List Int) : List Value := (List.range k).map fun (p : Nat) => Value.bool (G.contains (p : Int))
theorem seenL_length (k : Nat) (G : List Int) : (seenL k G).length = k := by simp [seenL]
theorem seenL_get {k : Nat} (G : List Int) {p : Nat} (h : p < k) : (seenL k G)[p]? = some (.bool (G.contains (p : Int))) := by
 unfold seenL; rw [List.getElem?_map, List.getElem?_range h]; rfl
theorem seenL_nil (k : Nat) : seenL k [] = List.replicate k (.bool false) := by
 unfold seenL
 apply List.ext_getElem
 ·simp
 ·intro i h1 h2; simp
theorem seenL_set (k : Nat) (G : List Int) (f : Nat) : (seenL k G).set f (.bool true) = seenL k (G ++ [(f : Int)]) := by
 apply List.ext_getElem?
 intro p
 by_cases hp : p < k
 ·rw [List.getElem?_set, seenL_get _ hp, seenL_get _ hp, seenL_length]
  by_cases hf : f = p
  ·subst hf; rw [if_pos rfl, if_pos hp]; simp
  ·rw [if_neg hf]
   congr 2
   rw [Bool.eq_iff_iff]
   simp
   intro h; omega
 ·rw [List.getElem?_eq_none (by rw [List.length_set, seenL_length]; omega), List.getElem?_eq_none (by rw [seenL_length]; omega)]
theorem seenL_skip (k : Nat) (G : List Int) {x : Int} (h : x < 0) : seenL k G = seenL k (G ++ [x]) := by
 unfold seenL
 apply List.map_congr_left
 intro p _
 congr 1
 rw [Bool.eq_iff_iff]
 simp
 intro h2; omega
/-- Are the first i its own place? -/
def ownTo (F : List Int) (i : Nat) : Bool := decide (∀ p, p < i → F.getD p 0 = (p : Int))
theorem ownTo_succ (F : List Int) (i : Nat) : ownTo F (i + 1) = (ownTo F i && decide (F.getD i 0 = (i : Int))) := by
 unfold ownTo
 rw [Bool.eq_iff_iff]
 simp only [decide_eq_true_eq, Bool.and_eq_true]
 constructor
 ·intro h; exact ⟨fun p hp => h p (by omega), h i (by omega)⟩
 ·rintro ⟨h1, h2⟩ p hp
  by_cases e : p = i
  ·subst e; exact h2
  ·exact h1 p (by omega)
theorem ownTo_all {F : List Int} {n : Nat} (h : F.length = n) : ownTo F n = ownB F := by
 unfold ownTo ownB
 rw [decide_eq_decide]
 constructor
 ·intro hh
  apply List.ext_getElem
  ·rw [upTo_length]
  ·intro i h1 h2
   have := hh i (by omega)
   rw [List.getD_eq_getElem?_getD, List.getElem?_eq_getElem h1] at this
   simp only [Option.getD_some] at this
   rw [this]; simp [upTo]
 ·intro hh p hp
  rw [hh, List.getD_eq_getElem?_getD, List.getElem?_eq_getElem (by rw [upTo_length, h]; exact hp)]
  simp [upTo]
/-- The first i are all there. -/
def AllTo (F : List Int) (i : Nat) : Prop := ∀ p, p < i → F.contains ((p : Nat) : Int) = true
theorem own_wr {w : World} {base g cap n : Nat} {e : TypeId} {xs : List Value} (h : w.ownsRow base e 1 (.slice (some ⟨g, 0, none⟩) n cap) n xs) (j : Nat) (u : Value) : (w.setCell ⟨g, j, none⟩ u).ownsRow base e 1 (.slice (some ⟨g, 0, none⟩) n cap) n (xs.set j u) := own_store h j u
theorem Tryz.infoB : (Tryz.prog.info? 4).map (fun i => (i.zero, i.size, i.bytes)) = some (some (.bool false), 1, 1) := by kernel_rfl

theorem rlkind_any {w : World} {l : LawD} {cs : List Value} (hl : LawAt w l cs) :
  Calls Tryz.prog 16 #[.agg cs.toArray] w fun e w' => e = .returned (.tuple #[.int .i64 (kindV l), .int .i64 (lawE l)]) ∧ Ext w w' := by
 have hck := fun (V : World) (hE : Ext w V) => rlcheck_any (hl.ext hE)
 have hkv : kindV l = if lawE l = 0 then (if l.outs.length < l.ifs.length then 2 else if l.ifs.length < l.outs.length then 3 else kindF (frmL l)) else 0 := by
  unfold kindV lawE
  cases lawB l <;> simp
 have h17 : lawE l ≠ 0 → lawE l = 17 := fun h => by unfold lawE at h ⊢; split at h <;> simp_all
 have hsm : lawE l = 0 → l.outs.length ≤ 6 ∧ ∀ x ∈ l.outs, x.frm < l.ifs.length := fun h => by
  unfold lawE at h
  split at h
  ·rename_i h1
   obtain ⟨_, h2, _, _, h3, _⟩ := lawB_parts h1
   exact ⟨h2, fun x hx => (fit_parts (h3 x hx)).1⟩
  ·cases h
 have hfl : (frmL l).length = l.outs.length := by simp [frmL]
 obtain ⟨nm, k1, p1, m1, n1, a1, b1, o1, N1, c1, k2, p2, m2, n2, a2, b2, o2, N2, c2, io, N3, ic, oo, N4, oc, md, rfl, HLA, HPL, HPR, HIF, HOU, HNM, HN1, HN2, HN3, HN4, HMD, q0, q1, q2, q3, q4⟩ := law_gen hl
 rw [HN3.out, HN4.out] at hkv
 rw [HN4.out] at hfl
 rw [HN3.out, HN4.out] at hsm
 obtain ⟨R, hR⟩ : ∃ R, lawE l = R := ⟨_, rfl⟩
 obtain ⟨KV, hKV⟩ : ∃ R, kindV l = R := ⟨_, rfl⟩
 rw [hR] at hck hkv hsm h17 ⊢
 rw [hKV] at hkv ⊢
 have HCK := Lib.hid hck; have HKV := Lib.hid hkv; have HSM := Lib.hid hsm; have HFL := Lib.hid hfl; have H17 := Lib.hid h17
 clear hl hck hkv hsm hfl hR hKV h17 HLA HPL HPR HIF
 go_enter Tryz.func16, Tryz.ntmps16
 go_upto_region 1 with (fail)
 obtain ⟨w1, hw1⟩ : ∃ D, w.alloc (.cells #[.string nm, .int .i64 k1, .int .u32 (p1 : Int), .int .u32 (m1 : Int), .bool n1, .int .i64 a1, .int .i64 b1, .slice o1 N1 c1, .int .i64 k2, .int .u32 (p2 : Int), .int .u32 (m2 : Int), .bool n2, .int .i64 a2, .int .i64 b2, .slice o2 N2 c2, .slice io N3 ic, .slice oo N4 oc, .int .i64 md] 31) = D := ⟨_, rfl⟩
 have hE1 : Ext w w1 := by rw [← hw1]; exact (Turn.refl _ w).alloc _
 have hl1 : w1.heap[w.heap.size]? = some (.cells #[.string nm, .int .i64 k1, .int .u32 (p1 : Int), .int .u32 (m1 : Int), .bool n1, .int .i64 a1, .int .i64 b1, .slice o1 N1 c1, .int .i64 k2, .int .u32 (p2 : Int), .int .u32 (m2 : Int), .bool n2, .int .i64 a2, .int .i64 b2, .slice o2 N2 c2, .slice io N3 ic, .slice oo N4 oc, .int .i64 md] 31 (0, 0)) := by rw [← hw1]; exact new_at rfl
 rw [hw1]
 obtain ⟨B, hB⟩ : ∃ b, w.heap.size = b := ⟨_, rfl⟩
 rw [hB] at hl1 ⊢
 have HL1 := Lib.hid hl1; have HB := Lib.hid hB
 clear hw1 hl1 hB
 go_wp2_with (refine wpList_load_row rfl 31 (.tmp 1) rfl B rfl _ _ _ _ HL1.out Tryz.underlying31 rfl Tryz.lawInfo ?_)
 refine (HCK.out _ hE1).mono ?_
 rintro e w2 ⟨rfl, hN⟩
 have hE2 := hE1.trans hN
 have HL2 := Lib.hid (hN.keep HL1.out)
 have hzB : B < w2.heap.size := (Array.getElem?_eq_some_iff.1 HL2.out).1
 clear hN hE1 HL1 HCK
 by_cases h0 : R = 0
 case neg =>
  have h9 : (R != 0) = true := by rw [bne_iff_ne]; exact h0
  have hk := HKV.out
  rw [if_neg h0] at hk
  have hr := H17.out h0
  subst hk hr
  go_wp2
  go_ret2
  exact ⟨rfl, hE2⟩
 subst h0
 have HKV1 : Hid (KV = if N4 < N3 then 2 else if N3 < N4 then 3 else kindF (frmL l)) := Lib.hid (by rw [HKV.out]; exact if_pos rfl)
 obtain ⟨h6, hfrm⟩ := HSM.out rfl
 have HFRM := Lib.hid hfrm
 clear HKV HSM H17 hfrm
 have c15 := cell_of_row _ _ 15 _ _ _ HL2.out
 have c16 := cell_of_row _ _ 16 _ _ _ HL2.out
 by_cases h1 : N4 < N3
 ·have h2 : (N4 : Int) < (N3 : Int) := by omega
  have hk := HKV1.out
  rw [if_pos h1] at hk
  subst hk
  go_wp2
  go_ret2
  exact ⟨rfl, hE2⟩
 have h2 : ¬ ((N4 : Int) < (N3 : Int)) := by omega
 by_cases h3 : N3 < N4
 ·have h4 : (N3 : Int) < (N4 : Int) := by omega
  have hk := HKV1.out
  rw [if_neg h1, if_pos h3] at hk
  subst hk
  go_wp2
  go_ret2
  exact ⟨rfl, hE2⟩
 have h4 : ¬ ((N3 : Int) < (N4 : Int)) := by omega
 have HKV2 : Hid (KV = kindF (frmL l)) := Lib.hid (by rw [HKV1.out, if_neg h1, if_neg h3])
 have h34 : N4 = N3 := by omega
 have HN34 := Lib.hid h34
 have h36 : N3 ≤ 6 := by omega
 clear HKV1 h1 h3 h34
 go_wp2_with (refine make_row1 rfl (.tmp 28) (.tmp 28) 65 rfl w2.heap.size 4 (.bool false) 1 Tryz.underlying65 Tryz.infoB rfl .i64 .i64 _ _ N3 rfl rfl rfl rfl (by omega) (by unfold maxLen; omega) (by first | exact Nat.le_refl _ | simp) ?_; intro w3 hO3 hN3)
 obtain ⟨G, hG⟩ : ∃ g, w2.heap.size = g := ⟨_, rfl⟩
 have hzG : B < G := by omega
 have hO3' : w3.ownsRow G 4 1 (.slice (some ⟨G, 0, none⟩) N3 N3) N3 (seenL N3 []) := by rw [seenL_nil, ← hG]; exact hO3
 have HO3 := Lib.hid hO3'; have HE3 := Lib.hid hN3
 rw [hG]
 have HG := Lib.hid hG
 clear hO3 hO3' hN3 c15 c16 h2 h4 hG
 refine wp_loop (fun a W => ∃ (i : Nat), i ≤ N4 ∧ a.defers = [] ∧ (a.tmps.size = 66 ∧ a.tmps.getD 1 undef = .pointer (some ⟨B, 0, none⟩) ∧ a.tmps.getD 4 undef = .bool (ownTo (frmL l) i) ∧ a.tmps.getD 5 undef = .slice (some ⟨G, 0, none⟩) N3 N3 ∧ a.tmps.getD 6 undef = .int .i64 i) ∧ W.ownsRow G 4 1 (.slice (some ⟨G, 0, none⟩) N3 N3) N3 (seenL N3 ((frmL l).take i)) ∧ Ext w2 W)
  (fun a _ => N4 - (intOf (a.tmps.getD 6 undef)).toNat) ?_ ?_
 ·exact ⟨0, by omega, rfl, ⟨rfl, rfl, by first | rfl | (simp [ownTo]; done), rfl, rfl⟩, HO3.out, HE3.out⟩
 rintro ⟨t, _⟩ V ⟨i, hi, hds, ⟨hsz, f1, f4, f5, f6⟩, hO, hE⟩
 subst hds
 obtain ⟨u', hu⟩ := frame_fun hsz
 obtain ⟨u, rfl⟩ : ∃ x, x = u' := ⟨_, rfl⟩
 have hu' : t = #[u 0, u 1, u 2, u 3, u 4, u 5, u 6, u 7, u 8, u 9, u 10, u 11, u 12, u 13, u 14, u 15, u 16, u 17, u 18, u 19, u 20, u 21, u 22, u 23, u 24, u 25, u 26, u 27, u 28, u 29, u 30, u 31, u 32, u 33, u 34, u 35, u 36, u 37, u 38, u 39, u 40, u 41, u 42, u 43, u 44, u 45, u 46, u 47, u 48, u 49, u 50, u 51, u 52, u 53, u 54, u 55, u 56, u 57, u 58, u 59, u 60, u 61, u 62, u 63, u 64, u 65] := hu
 clear hu
 subst hu'
 change u 1 = _ at f1
 change u 4 = _ at f4
 change u 5 = _ at f5
 change u 6 = _ at f6
 rw [f1, f4, f5, f6]
 clear f1 f4 f5 f6 hsz
 have hE3 := hE2.trans hE
 have HO := Lib.hid hO
 have HLV := Lib.hid (hE.keep HL2.out)
 have c16 := cell_of_row _ _ 16 _ _ _ HLV.out
 obtain ⟨ow, how⟩ : ∃ b, ownTo (frmL l) i = b := ⟨_, rfl⟩
 rw [how]
 have HOW := Lib.hid how
 clear hO how
 by_cases hin : i < N4
 ·have h1 : (i : Int) < (N4 : Int) := by omega
  have hjl : i < l.outs.length := by rw [HN4.out]; exact hin
  obtain ⟨gx, ox, cx, hq, hgx, hok6, d0, d1, d2, d3, d4, d5⟩ := (HOU.out.ext hE3).at hjl
  simp only [Value.slice.injEq] at hq
  obtain ⟨rfl, hz, rfl⟩ := hq
  clear hz d1 d2 d3 d4 d5 hok6
  have hlt := HFRM.out _ (List.getElem_mem hjl)
  obtain ⟨x, hxj⟩ : ∃ x, l.outs[i] = x := ⟨_, rfl⟩
  have hft := frm_take (l := l) (j := i) (x := x) (by rw [List.getElem?_eq_getElem hjl, hxj])
  have hgd : (frmL l).getD i 0 = x.frm := by
   unfold frmL
   rw [List.getD_eq_getElem?_getD, List.getElem?_map, List.getElem?_eq_getElem hjl, hxj]; rfl
  rw [hxj] at d0 hlt
  obtain ⟨fr, hfr⟩ : ∃ y, x.frm = y := ⟨_, rfl⟩
  rw [hfr] at d0 hlt hft hgd
  have hos := ownTo_succ (frmL l) i
  rw [HOW.out, hgd] at hos
  have HFT := Lib.hid hft; have HOS := Lib.hid hos
  clear hft hos hgd hfr hxj
  have hnow : ∀ b : Bool, decide (fr = (i : Int)) = b → ownTo (frmL l) (i + 1) = (ow && b) := fun b hb => by rw [HOS.out, hb]
  have HNOW := Lib.hid hnow
  clear hnow
  by_cases hf0 : 0 ≤ fr
  ·obtain ⟨f, rfl⟩ := Int.eq_ofNat_of_zero_le hf0
   have hfN : f < N3 := by omega
   have hfi : (f : Int) < (N3 : Int) := by omega
   have cS := HO.out.cellAt f (by omega)
   rw [seenL_get _ hfN] at cS
   have fS := HO.out.frozenAt f
   have hO9 := own_wr HO.out f (.bool true)
   rw [seenL_set, ← HFT.out] at hO9
   have t9 : Turn (fun b => b = G) V (V.setCell ⟨G, f, none⟩ (.bool true)) := Turn.set1 V G f _
   have hE9 : Ext w2 (V.setCell ⟨G, f, none⟩ (.bool true)) := hE.after t9 (fun b hb e => by have := HG.out; omega)
   have HO9 := Lib.hid hO9; have HE9 := Lib.hid hE9
   clear hO9 t9 hE9
   by_cases hfe : f = i
   ·subst hfe
    have hnw := HNOW.out true (by simp)
    have HNW := Lib.hid hnw
    clear hnw
    cases ow
    ·go_wp2
     first
      | exact ⟨⟨f + 1, by omega, by first | rfl | trivial, ⟨rfl, rfl, by rw [HNW.out]; rfl, rfl, rfl⟩, HO9.out, HE9.out⟩, by simp [intOf]; omega⟩
      | exact ⟨⟨f + 1, by omega, by simp [HNW.out], HO9.out, HE9.out⟩, by simp [intOf]; omega⟩
      | exact ⟨⟨f + 1, by omega, by simp [HNW.out], HO9.out⟩, by simp [intOf]; omega⟩
    ·go_wp2
     first
      | exact ⟨⟨f + 1, by omega, by first | rfl | trivial, ⟨rfl, rfl, by rw [HNW.out]; rfl, rfl, rfl⟩, HO9.out, HE9.out⟩, by simp [intOf]; omega⟩
      | exact ⟨⟨f + 1, by omega, by simp [HNW.out], HO9.out, HE9.out⟩, by simp [intOf]; omega⟩
      | exact ⟨⟨f + 1, by omega, by simp [HNW.out], HO9.out⟩, by simp [intOf]; omega⟩
   ·have h8 : ((f : Int) == (i : Int)) = false := by simp; omega
    have h7 : ¬ ((f : Int) = (i : Int)) := by omega
    have hnw := HNOW.out false (by simp; omega)
    have HNW := Lib.hid hnw
    clear hnw hfe
    cases ow
    ·go_wp2
     first
      | exact ⟨⟨i + 1, by omega, by first | rfl | trivial, ⟨rfl, rfl, by rw [HNW.out]; rfl, rfl, rfl⟩, HO9.out, HE9.out⟩, by simp [intOf]; omega⟩
      | exact ⟨⟨i + 1, by omega, by simp [HNW.out], HO9.out, HE9.out⟩, by simp [intOf]; omega⟩
      | exact ⟨⟨i + 1, by omega, by simp [HNW.out], HO9.out⟩, by simp [intOf]; omega⟩
    ·go_wp2
     first
      | exact ⟨⟨i + 1, by omega, by first | rfl | trivial, ⟨rfl, rfl, by rw [HNW.out]; rfl, rfl, rfl⟩, HO9.out, HE9.out⟩, by simp [intOf]; omega⟩
      | exact ⟨⟨i + 1, by omega, by simp [HNW.out], HO9.out, HE9.out⟩, by simp [intOf]; omega⟩
      | exact ⟨⟨i + 1, by omega, by simp [HNW.out], HO9.out⟩, by simp [intOf]; omega⟩
  ·have hf1 : ¬ ((0 : Int) ≤ fr) := hf0
   have h8 : (fr == (i : Int)) = false := by simp; omega
   have h7 : ¬ (fr = (i : Int)) := by omega
   have hO9 := HO.out
   rw [seenL_skip N3 _ (show fr < 0 by omega), ← HFT.out] at hO9
   have hnw := HNOW.out false (by simp; omega)
   have HNW := Lib.hid hnw; have HO9 := Lib.hid hO9
   clear hnw hO9 hf0
   cases ow
   ·go_wp2
    first
     | exact ⟨⟨i + 1, by omega, by first | rfl | trivial, ⟨rfl, rfl, by rw [HNW.out]; rfl, rfl, rfl⟩, HO9.out, hE⟩, by simp [intOf]; omega⟩
     | exact ⟨⟨i + 1, by omega, by simp [HNW.out], HO9.out, hE⟩, by simp [intOf]; omega⟩
     | exact ⟨⟨i + 1, by omega, by simp [HNW.out], HO9.out⟩, by simp [intOf]; omega⟩
   ·go_wp2
    first
     | exact ⟨⟨i + 1, by omega, by first | rfl | trivial, ⟨rfl, rfl, by rw [HNW.out]; rfl, rfl, rfl⟩, HO9.out, hE⟩, by simp [intOf]; omega⟩
     | exact ⟨⟨i + 1, by omega, by simp [HNW.out], HO9.out, hE⟩, by simp [intOf]; omega⟩
     | exact ⟨⟨i + 1, by omega, by simp [HNW.out], HO9.out⟩, by simp [intOf]; omega⟩
 obtain rfl : i = N4 := by omega
 have h1 : ¬ ((i : Int) < (i : Int)) := by omega
 have hrow := HO.out
 rw [List.take_of_length_le (by rw [HFL.out]; exact Nat.le_refl _)] at hrow
 have how2 := HOW.out
 rw [ownTo_all HFL.out] at how2
 obtain ⟨FF, hFF⟩ : ∃ F, frmL l = F := ⟨_, rfl⟩
 rw [hFF] at hrow how2
 have HROW := Lib.hid hrow
 have hfl2 := HFL.out
 rw [hFF, HN34.out] at hfl2
 have HFL2 := Lib.hid hfl2; have HOW2 := Lib.hid how2
 have HKV3 : Hid (KV = kindF FF) := Lib.hid (by rw [HKV2.out, hFF])
 clear hrow hfl2 hFF HKV2 HFL how2 HOW HO
 cases ow
 case true =>
  have hk : KV = 1 := by rw [HKV3.out]; unfold kindF; rw [if_pos HOW2.out]
  have HK := Lib.hid hk
  clear hk
  go_wp2
  go_ret2
  exact ⟨by rw [HK.out]; rfl, hE3⟩
 go_wp2
 refine wp_loop (fun a W => ∃ (p : Nat), p ≤ N3 ∧ a.defers = [] ∧ (a.tmps.size = 66 ∧ a.tmps.getD 5 undef = .slice (some ⟨G, 0, none⟩) N3 N3 ∧ a.tmps.getD 8 undef = .int .i64 p) ∧ AllTo FF p ∧ V = W)
  (fun a _ => N3 - (intOf (a.tmps.getD 8 undef)).toNat) ?_ ?_
 ·exact ⟨0, by omega, rfl, ⟨rfl, rfl, rfl⟩, fun p hp => by omega, rfl⟩
 rintro ⟨t, _⟩ W ⟨p, hp, hds, ⟨hsz, f5, f8⟩, hall, rfl⟩
 subst hds
 obtain ⟨u', hu⟩ := frame_fun hsz
 obtain ⟨u, rfl⟩ : ∃ x, x = u' := ⟨_, rfl⟩
 have hu' : t = #[u 0, u 1, u 2, u 3, u 4, u 5, u 6, u 7, u 8, u 9, u 10, u 11, u 12, u 13, u 14, u 15, u 16, u 17, u 18, u 19, u 20, u 21, u 22, u 23, u 24, u 25, u 26, u 27, u 28, u 29, u 30, u 31, u 32, u 33, u 34, u 35, u 36, u 37, u 38, u 39, u 40, u 41, u 42, u 43, u 44, u 45, u 46, u 47, u 48, u 49, u 50, u 51, u 52, u 53, u 54, u 55, u 56, u 57, u 58, u 59, u 60, u 61, u 62, u 63, u 64, u 65] := hu
 clear hu
 subst hu'
 change u 5 = _ at f5
 change u 8 = _ at f8
 rw [f5, f8]
 clear f5 f8 hsz
 have HALL := Lib.hid hall
 clear hall c16
 by_cases hpn : p < N3
 case neg =>
  obtain rfl : p = N3 := by omega
  have h1 : ¬ ((p : Int) < (p : Int)) := by omega
  have hs : seenB FF = true := by
   unfold seenB
   rw [List.all_eq_true, HFL2.out]
   exact fun q hq => HALL.out q (List.mem_range.1 hq)
  have hk : KV = 4 := by rw [HKV3.out]; unfold kindF; rw [if_neg (by rw [HOW2.out]; decide), if_pos hs]
  have HK := Lib.hid hk
  clear hk hs
  go_wp2
  go_ret2
  exact ⟨by rw [HK.out]; rfl, hE3⟩
 have h1 : (p : Int) < (N3 : Int) := by omega
 have cS := HROW.out.cellAt p (by omega)
 rw [seenL_get _ hpn] at cS
 obtain ⟨q, hq⟩ : ∃ b, FF.contains ((p : Nat) : Int) = b := ⟨_, rfl⟩
 rw [hq] at cS
 have HQ := Lib.hid hq
 clear hq
 cases q
 ·have hs : ¬ seenB FF = true := by
   unfold seenB
   rw [List.all_eq_true, HFL2.out]
   intro hh
   have := hh p (List.mem_range.2 hpn)
   rw [HQ.out] at this; cases this
  have hk : KV = 5 := by rw [HKV3.out]; unfold kindF; rw [if_neg (by rw [HOW2.out]; decide), if_neg hs]
  have HK := Lib.hid hk
  clear hk hs
  go_wp2
  go_ret2
  exact ⟨by rw [HK.out]; rfl, hE3⟩
 ·have hnx : AllTo FF (p + 1) := fun q hq => by
   by_cases e : q = p
   ·subst e; exact HQ.out
   ·exact HALL.out q (by omega)
  have HNX := Lib.hid hnx
  clear hnx
  go_wp2
  exact ⟨⟨p + 1, by omega, by first | rfl | trivial, ⟨rfl, rfl, rfl⟩, HNX.out, by first | rfl | trivial⟩, by simp [intOf]; omega⟩
end Go.Proofs.YtedhogbocifipaaGreatDoor
