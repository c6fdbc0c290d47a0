/- ablautlaw13.ChronReduces: the walk. -/
import Derived.Test.YtnnnbmkhgcpjoaaDoorSaid
import Derived.Test.YtnnnbmkhgcpjoaaDoorRedLaw
import Derived.Test.YtnnnbmkhgcpjoaaDoorArgs
namespace Go.Proofs.YtnnnbmkhgcpjoaaDoor
open Go.RowKit Go.Ab

theorem zps_length (l : List (Nat × Nat)) : (zps l).length = l.length := by simp [zps]
theorem zps_get (l : List (Nat × Nat)) (k : Nat) (h : k < l.length) : (zps l).getD k (0, 0) = ((l[k].1 : Int), (l[k].2 : Int)) := by simp [zps, List.getD_eq_getElem?_getD, h]

set_option maxRecDepth 100000 in
theorem inside_any (w : World) (v : Value) (l : List (Nat × Nat)) (n : Nat) (hv : Rd w v l.length 2 (prs (zps l))) (hl : ∀ p ∈ l, p.1 < n ∧ p.2 < n) :
    Calls Tryd.prog 26 #[v, .int .i64 n] w fun e w' => e = .returned (.bool true) ∧ w = w' := by
  obtain ⟨hl1, hm1, ap, cp, rfl, hR⟩ := hv
  unfold maxLen at hm1
  have HR := Lib.hid hR
  clear hR
  go_enter Tryd.func26, Tryd.ntmps26
  go_wp2
  obtain ⟨w0, rfl⟩ : ∃ w0 : World, w0 = w := ⟨_, rfl⟩
  refine wp_loop (fun a W => ∃ (k : Nat), k ≤ l.length ∧ W = w0 ∧ a.defers = [] ∧ (a.tmps.size = 44 ∧ a.tmps.getD 0 undef = .slice ap l.length cp ∧ a.tmps.getD 1 undef = .int .i64 n ∧ a.tmps.getD 5 undef = .int .i64 k))
    (fun a _ => l.length - (intOf (a.tmps.getD 5 undef)).toNat) ?_ ?_
  · exact ⟨0, by omega, rfl, rfl, rfl, rfl, rfl, rfl⟩
  rintro ⟨t, _⟩ W ⟨k, hk, rfl, hds, ⟨hsz, f0, f1, f5⟩⟩
  subst hds
  obtain ⟨u', hu⟩ := frame_fun hsz
  obtain ⟨u, rfl⟩ : ∃ x, x = u' := ⟨_, rfl⟩
  have hu' : t = #[u 0, u 1, u 2, u 3, u 4, u 5, u 6, u 7, u 8, u 9, u 10, u 11, u 12, u 13, u 14, u 15, u 16, u 17, u 18, u 19, u 20, u 21, u 22, u 23, u 24, u 25, u 26, u 27, u 28, u 29, u 30, u 31, u 32, u 33, u 34, u 35, u 36, u 37, u 38, u 39, u 40, u 41, u 42, u 43] := hu
  clear hu
  subst hu'
  change u 0 = _ at f0
  change u 1 = _ at f1
  change u 5 = _ at f5
  rw [f0, f1, f5]
  clear f0 f1 f5 hsz
  by_cases hk2 : k < l.length
  · obtain ⟨g, off, rfl, hg, hc⟩ := HR.out (by omega)
    have hk3 : (k : Int) < l.length := by omega
    have c1 := hc (k * 2) (by omega)
    have c2 := hc (k * 2 + 1) (by omega)
    have hp := hl l[k] (List.getElem_mem hk2)
    rw [prs_fst _ _ (by rw [zps_length]; exact hk2), zps_get _ _ hk2] at c1
    rw [prs_snd _ _ (by rw [zps_length]; exact hk2), zps_get _ _ hk2, ← Nat.add_assoc] at c2
    obtain ⟨x, hx⟩ : ∃ x, l[k].1 = x := ⟨_, rfl⟩
    obtain ⟨y, hy⟩ : ∃ y, l[k].2 = y := ⟨_, rfl⟩
    rw [hx, hy] at hp
    rw [hx] at c1
    rw [hy] at c2
    have q1 : ¬ (x : Int) < 0 := by omega
    have q2 : ¬ (y : Int) < 0 := by omega
    have q3 : ¬ (n : Int) ≤ x := by omega
    have q4 : ¬ (n : Int) ≤ y := by omega
    have q5 : ¬ n ≤ x := by omega
    have q6 : ¬ n ≤ y := by omega
    have HX := Lib.hid hx; have HY := Lib.hid hy
    clear hx hy hc hl hp
    go_wp2
    all_goals exact ⟨⟨k + 1, by omega, by simp⟩, by simp [intOf]; omega⟩
  · clear hl
    go_wp2
    go_ret
    exact ⟨rfl, rfl⟩

set_option maxRecDepth 100000 in
set_option maxHeartbeats 8000000 in
theorem reduces_law (w : World) (hT : Tab w) (v : Value) (l : List (Nat × Nat)) (hv : Rd w v l.length 2 (b8s l)) (hl : ∀ p ∈ l, p.1 < 256 ∧ p.2 < 256) (wh : Nat) (hwh : wh < 256) :
    Calls Tryd.prog 4 #[v, .int .u8 wh] w fun e w' => e = .returned (.bool true) ∧ Ext w w' := by
  have n64 : 12 ≤ 64 := by decide
  go_enter Tryd.func4, Tryd.ntmps4
  go_wp2_with fail
  refine (said_any 12 (by decide) n64 w hT v l hv hl).mono ?_
  rintro e w1 ⟨rfl, hE1, ho⟩
  have hRel := saidR_rel 12 (l.take 40)
  obtain ⟨R, hRR⟩ : ∃ R, saidR 12 (l.take 40) = R := ⟨_, rfl⟩
  rw [hRR] at ho hRel
  have hT1 := hT.keep hE1 id
  clear hRR hv hl
  have h0w := ho.lt
  go_wp2_with fail
  refine (reduced_R _ 12 R n64 w1 ho hT1).mono ?_
  rintro e w2 ⟨vr, rfl, hE2, hO2⟩
  have ho2 := ho.keep hE2 id
  rw [redR_cov, zps_length] at hO2
  have hmem : ∀ p ∈ covL 12 R, R p.1 p.2 = true := fun p hp => covL_R hRel hp
  have hle := covL_le 12 R
  go_wp2_with fail
  refine (inside_any w2 vr (covL 12 R) 12 (Rd.of_own hO2) fun p hp => hRel.dom _ _ (hmem p hp)).mono ?_
  rintro e _ ⟨rfl, rfl⟩
  have hT2 := hT1.keep hE2 id
  go_wp2_with fail
  refine (new_R 12 n64 w2).mono ?_
  rintro e w3 ⟨rfl, hE3, oA3⟩
  go_wp2_with fail
  refine (new_R 12 n64 w3).mono ?_
  rintro e w4 ⟨rfl, hE4, oB4⟩
  have oA4 := oA3.keep hE4 id
  have ho4 := (ho2.keep hE3 id).keep hE4 id
  obtain ⟨pA, hpA⟩ : ∃ pA, w2.heap.size = pA := ⟨_, rfl⟩
  obtain ⟨pB, hpB⟩ : ∃ pB, w3.heap.size = pB := ⟨_, rfl⟩
  have l1 := ho2.lt
  have l2 := oA3.lt
  have l3 := oB4.lt
  have hrl : ∀ gr, vr.ownBlock = some gr → gr < w2.heap.size := fun gr h => (hO2.lt gr h).2
  have hRd := ((Rd.of_own hO2).ext hE3).ext hE4
  have hE04 := ((hE1.trans hE2).trans hE3).trans hE4
  have hs04 := hE1.size
  have hs02 := hE2.size
  rw [hpA] at oA4 oA3 l1 l2 hrl ⊢
  rw [hpB] at oB4 l2 l3 ⊢
  have hnw : w.heap.size < pA := by omega
  clear hE1 hE2 hE3 hE4 oA3 ho ho2 hT1 hT2 hpA hpB hO2 hs02
  obtain ⟨L, hL⟩ : ∃ L, covL 12 R = L := ⟨_, rfl⟩
  have hne : ∀ (i j : Nat) (hi : i < L.length) (hj : j < L.length), i ≠ j → L[i] ≠ L[j] := by subst hL; exact fun i j hi hj h => covL_ne hi hj h
  have hall : ∀ m : List (Nat × Nat), (∀ p, p ∈ m ↔ p ∈ L) → addL noR m = R := by subst hL; exact fun m h => cov_all hRel h
  have hcov : ∀ p ∈ L, isCov 12 R p.1 p.2 = true := by subst hL; exact fun p h => (mem_covL hRel).1 h
  rw [hL] at hRd hmem hle
  clear hL
  obtain ⟨hlr, hmr, ar, cr, rfl, hcr⟩ := hRd
  obtain ⟨N, hN⟩ : ∃ N, L.length = N := ⟨_, rfl⟩
  have HN := Lib.hid hN
  rw [hN] at hle hrl hlr hmr hcr ⊢
  have hgr : ∀ gr, (Value.slice ar N cr).ownBlock = some gr → gr < pA := hrl
  have HNE := Lib.hid hne; have HALL := Lib.hid hall; have HCOV := Lib.hid hcov; have HMEM := Lib.hid hmem; have HCR := Lib.hid hcr; have HGR := Lib.hid hgr
  clear hne hall hcov hmem hcr hgr hrl hN
  have hz0 : IntKind.i64.wrap ((N : Int) - 1) = (N : Int) - 1 := IntWalk.i64_in _ (by omega)
  go_wp2
  clear hz0
  refine wp_loop (fun a W => ∃ (c : Nat) (z : Int) (M : List (Nat × Nat)), c ≤ N ∧ z + 1 = c ∧ a.defers = [] ∧ (a.tmps.size = 101 ∧ a.tmps.getD 1 undef = .int .u8 wh ∧ a.tmps.getD 5 undef = .pointer (some ⟨w.heap.size, 0, none⟩) ∧ a.tmps.getD 6 undef = .slice ar N cr ∧ a.tmps.getD 7 undef = .pointer (some ⟨pA, 0, none⟩) ∧ a.tmps.getD 9 undef = .pointer (some ⟨pB, 0, none⟩) ∧ a.tmps.getD 11 undef = .int .i64 z) ∧
      OrdR W pA 12 (addL noR (L.drop c).reverse) ∧ OrdR W pB 12 (addL noR M) ∧ (∀ p ∈ M, p ∈ L ∧ ∀ (h : wh % N < L.length), p ≠ L[wh % N]) ∧ Turn (fun b => b = pA ∨ b = pB) w4 W)
    (fun a _ => ((intOf (a.tmps.getD 11 undef)) + 1).toNat) ?_ ?_
  · refine ⟨N, (N : Int) - 1, [], by omega, by omega, rfl, ⟨rfl, rfl, rfl, rfl, rfl, rfl, rfl⟩, ?_, oB4, by simp, Turn.refl _ _⟩
    rw [← HN.out, List.drop_length]; exact oA4
  rintro ⟨t, _⟩ W ⟨c, z, M, hc, hz, hds, ⟨hsz, f1, f5, f6, f7, f9, f11⟩, oA, oB, hM, ht⟩
  subst hds
  obtain ⟨u', hu⟩ := frame_fun hsz
  obtain ⟨u, rfl⟩ : ∃ x, x = u' := ⟨_, rfl⟩
  have hu' : t = #[u 0, u 1, u 2, u 3, u 4, u 5, u 6, u 7, u 8, u 9, u 10, u 11, u 12, u 13, u 14, u 15, u 16, u 17, u 18, u 19, u 20, u 21, u 22, u 23, u 24, u 25, u 26, u 27, u 28, u 29, u 30, u 31, u 32, u 33, u 34, u 35, u 36, u 37, u 38, u 39, u 40, u 41, u 42, u 43, u 44, u 45, u 46, u 47, u 48, u 49, u 50, u 51, u 52, u 53, u 54, u 55, u 56, u 57, u 58, u 59, u 60, u 61, u 62, u 63, u 64, u 65, u 66, u 67, u 68, u 69, u 70, u 71, u 72, u 73, u 74, u 75, u 76, u 77, u 78, u 79, u 80, u 81, u 82, u 83, u 84, u 85, u 86, u 87, u 88, u 89, u 90, u 91, u 92, u 93, u 94, u 95, u 96, u 97, u 98, u 99, u 100] := hu
  clear hu
  subst hu'
  change u 1 = _ at f1
  change u 5 = _ at f5
  change u 6 = _ at f6
  change u 7 = _ at f7
  change u 9 = _ at f9
  change u 11 = _ at f11
  rw [f1, f5, f6, f7, f9, f11]
  clear f1 f5 f6 f7 f9 f11 hsz
  have hoW := ho4.keep ht (by omega)
  have hE : Ext w W := hE04.after ht (fun b' h1 h2 => by omega)
  have hTW := hT.keep hE id
  have lA := oA.lt
  have lB := oB.lt
  have HM := Lib.hid hM
  have hrelA := (addL_rel hRel (L.drop c).reverse fun p hp => HMEM.out p (List.mem_of_mem_drop (List.mem_reverse.1 hp))).1
  have hrelB := (addL_rel hRel M fun p hp => HMEM.out p (hM p hp).1).1
  clear hM
  by_cases hc0 : c = 0
  · subst hc0
    obtain rfl : z = -1 := by omega
    rw [HALL.out (L.drop 0).reverse (fun p => by simp)] at oA
    have hMsub : Sub (addL noR M) R := (addL_rel hRel M fun p hp => HMEM.out p (HM.out p hp).1).2
    have hlt : N ≠ 0 → (pairsR 12 (addL noR M)).length < (pairsR 12 R).length := fun h0 => by
      have hw : wh % N < L.length := by rw [HN.out]; exact Nat.mod_lt _ (by omega)
      have hin := List.getElem_mem hw
      exact pairsR_lt hRel hMsub (HMEM.out _ hin) (cov_need hRel (HCOV.out _ hin) M fun p hp => ⟨HMEM.out p (HM.out p hp).1, (HM.out p hp).2 hw⟩)
    obtain ⟨RB, hRB⟩ : ∃ RB, addL noR M = RB := ⟨_, rfl⟩
    rw [hRB] at oB hlt
    have HLT := Lib.hid hlt; have HRB := Lib.hid hRB
    clear hlt hRB hMsub hz hc
    go_wp2_with fail
    refine (pairs_R pA 12 R n64 W oA hTW).mono ?_
    rintro e x1 ⟨v1, rfl, hX1, hV1⟩
    have o1 := hoW.keep hX1 id
    have oB1 := oB.keep hX1 id
    have hE1 := hE.trans hX1
    have hT1 := hT.keep hE1 id
    go_wp2_with fail
    refine (pairs_R _ 12 R n64 x1 o1 hT1).mono ?_
    rintro e x2 ⟨v2, rfl, hX2, hV2⟩
    have o2 := o1.keep hX2 id
    have oB2 := oB1.keep hX2 id
    have hE2 := hE1.trans hX2
    go_wp2_with fail
    refine (same_any _ _ (pairsR 12 R) (pairsR 12 R) x2 ((Rd.of_own hV1).ext hX2) (Rd.of_own hV2)).mono ?_
    rintro e _ ⟨he, m1, rfl⟩
    obtain rfl : e = .returned (.bool true) := by rw [he]; simp
    clear he
    have hD : Ext x2 (x2.drewN m1) := (Turn.refl _ _).drewN _
    have o3 := o2.keep hD id
    have oB3 := oB2.keep hD id
    have hE3 := hE2.trans hD
    generalize x2.drewN m1 = x3 at o3 oB3 hE3 ⊢
    have hT3 := hT.keep hE3 id
    clear hD hV1 hV2 hX1 hX2 o1 o2 oB1 oB2 hE1 hE2 hT1 oA oB hoW hTW hE
    by_cases h0 : N = 0
    · have q1 : ((N : Int) == 0) = true := by rw [h0]; rfl
      have H0 := Lib.hid h0
      clear h0
      go_wp2_with fail
      refine (works_any x3 hT3).mono ?_
      rintro e wh ⟨rfl, hEh⟩
      go_wp2
      go_ret
      exact ⟨rfl, hE3.trans hEh⟩
    · have q1 : ((N : Int) == 0) = false := by rw [beq_eq_false_iff_ne]; omega
      have hl := HLT.out h0
      have H0 := Lib.hid h0
      clear h0
      go_wp2_with fail
      refine (pairs_R pB 12 RB n64 x3 oB3 hT3).mono ?_
      rintro e x4 ⟨v4, rfl, hX4, hV4⟩
      have o4 := o3.keep hX4 id
      have hE4 := hE3.trans hX4
      have hT4 := hT.keep hE4 id
      obtain ⟨a4, c4, rfl⟩ := own_slice hV4
      clear hV4
      go_wp2_with fail
      refine (pairs_R _ 12 R n64 x4 o4 hT4).mono ?_
      rintro e x5 ⟨v5, rfl, hX5, hV5⟩
      have hE5 := hE4.trans hX5
      have hT5 := hT.keep hE5 id
      obtain ⟨a5, c5, rfl⟩ := own_slice hV5
      clear hV5
      obtain ⟨A, hA⟩ : ∃ A, (pairsR 12 RB).length = A := ⟨_, rfl⟩
      obtain ⟨B, hB⟩ : ∃ B, (pairsR 12 R).length = B := ⟨_, rfl⟩
      rw [hA, hB] at hl
      rw [hA, hB]
      have hl2 : (A : Int) < (B : Int) := by omega
      clear hA hB
      go_wp2_with fail
      refine (works_any x5 hT5).mono ?_
      rintro e wh ⟨rfl, hEh⟩
      go_wp2
      go_ret
      exact ⟨rfl, hE5.trans hEh⟩
  · obtain ⟨i, rfl⟩ : ∃ i, c = i + 1 := ⟨c - 1, by omega⟩
    obtain rfl : z = (i : Int) := by omega
    clear hz hc0
    have hi : i < L.length := by rw [HN.out]; omega
    have hi3 : (i : Int) < (N : Int) := by omega
    obtain ⟨g, off, rfl, hg, hcc⟩ := HCR.out (by omega)
    have hgA : g < pA := HGR.out g rfl
    have c1 := ht.cell_some (hcc (i * 2) (by omega)) (by dsimp only; omega)
    have c2 := ht.cell_some (hcc (i * 2 + 1) (by omega)) (by dsimp only; omega)
    rw [prs_fst _ _ (by rw [zps_length]; exact hi), zps_get _ _ hi] at c1
    rw [prs_snd _ _ (by rw [zps_length]; exact hi), zps_get _ _ hi, ← Nat.add_assoc] at c2
    have hab : R L[i].1 L[i].2 = true := HMEM.out _ (List.getElem_mem hi)
    have hsayA := say_ok hRel (m := (L.drop (i + 1)).reverse) (fun p hp => HMEM.out p (List.mem_of_mem_drop (List.mem_reverse.1 hp))) hab
    have hsayB := say_ok hRel (m := M) (fun p hp => HMEM.out p (HM.out p hp).1) hab
    have hdr : (L.drop (i + 1)).reverse ++ [(L[i].1, L[i].2)] = (L.drop i).reverse := by
      rw [List.drop_eq_getElem_cons hi, List.reverse_cons]
    rw [hdr] at hsayA
    have hMM : i ≠ wh % N → ∀ p ∈ M ++ [(L[i].1, L[i].2)], p ∈ L ∧ ∀ (h : wh % N < L.length), p ≠ L[wh % N] := fun hne p hp => by
      rcases List.mem_append.1 hp with hp | hp
      · exact HM.out p hp
      · rw [List.mem_singleton.1 hp]
        exact ⟨List.getElem_mem hi, fun h => HNE.out i _ hi h hne⟩
    obtain ⟨wi, hwi⟩ : ∃ wi, wh % N = wi := ⟨_, rfl⟩
    have m0 : ((wh : Int).tmod (N : Int)) = ((wh % N : Nat) : Int) := rfl
    rw [hwi] at m0 hMM
    have M0 := Lib.hid m0
    have HWI := Lib.hid hwi
    clear m0
    have hwl : wi < N := by rw [← hwi]; exact Nat.mod_lt _ (by omega)
    obtain ⟨RA, hRA⟩ : ∃ RA, addL noR (L.drop (i + 1)).reverse = RA := ⟨_, rfl⟩
    obtain ⟨RA', hRA'⟩ : ∃ RA, addL noR (L.drop i).reverse = RA := ⟨_, rfl⟩
    obtain ⟨RB, hRB⟩ : ∃ RB, addL noR M = RB := ⟨_, rfl⟩
    obtain ⟨RB', hRB'⟩ : ∃ RB, addL noR (M ++ [(L[i].1, L[i].2)]) = RB := ⟨_, rfl⟩
    obtain ⟨x, hx⟩ : ∃ x, L[i].1 = x := ⟨_, rfl⟩
    obtain ⟨y, hy⟩ : ∃ y, L[i].2 = y := ⟨_, rfl⟩
    rw [hx, hy] at hMM hRB' hsayB
    rw [hx, hy] at hsayA
    rw [hx] at c1
    rw [hy] at c2
    rw [hRA] at oA hrelA hsayA
    rw [hRA'] at hsayA
    rw [hRB] at oB hrelB hsayB
    rw [hRB'] at hsayB
    have hN1 : 1 ≤ N := by omega
    have hlz : ((N : Int) == 0) = false := by rw [beq_eq_false_iff_ne]; omega
    have HRA := Lib.hid hRA'; have HRB := Lib.hid hRB; have HRB' := Lib.hid hRB'; have HSA := Lib.hid hsayA; have HSB := Lib.hid hsayB; have HMM := Lib.hid hMM
    have HS : Hid (∀ B, Turn (fun b => b = pA ∨ b = pB) W B → B.cell? ⟨g, off + i * 2, none⟩ = some (.int .i64 x) ∧ B.cell? ⟨g, off + i * 2 + 1, none⟩ = some (.int .i64 y)) :=
      Lib.hid fun B hB => ⟨hB.cell_some c1 (by dsimp only; omega), hB.cell_some c2 (by dsimp only; omega)⟩
    have HBA : Hid (∀ B, Turn (fun b => b = pA ∨ b = pB) W B → Turn (fun _ => False) W B → OrdR B pA 12 RA ∧ Tab B) := Lib.hid fun B _ hB => ⟨oA.keep hB id, hTW.keep hB id⟩
    have tabW : pA ≠ 0 ∧ pB ≠ 0 := by omega
    have TA := Lib.hid tabW
    clear hRA hRA' hRB hRB' hx hy hsayA hsayB hMM hdr hab hwi tabW hcc
    by_cases hiw : i = wi
    · have q1 : ((i : Int) != (wi : Int)) = false := by rw [hiw]; simp
      have HIW := Lib.hid hiw
      clear hiw
      go_wp2
      refine wp_region_held_drew (S := (fun w' => w'.cell? ⟨g, off + i * 2, none⟩ = some (.int .i64 x) ∧ w'.cell? ⟨g, off + i * 2 + 1, none⟩ = some (.int .i64 y))) (by kernel_rfl) (HS.out _ (Turn.drew (Turn.refl _ W))) ?_
      intro hS0
      refine wpAnyH_take (i := 0) (v := ?_) rfl (by kernel_rfl) (by kernel_rfl) (by kernel_rfl) (fun _ _ _ h => h) (Or.inl ⟨by rfl, ?_⟩) (hS0) ?_
      rotate_left
      · intro w hSw; (try dsimp only at hSw); go_simp; try with_reducible rfl
      change wpAnyH _ _ _ _ _ _ _ (Act.put _ (some 42) _) _
      try simp only [Act.put, List.setIfInBounds_toArray, List.set_cons_zero, List.set_cons_succ]
      refine wpAnyH_take (i := 1) (v := ?_) rfl (by kernel_rfl) (by kernel_rfl) (by kernel_rfl) (fun _ _ _ h => h) (Or.inl ⟨by rfl, ?_⟩) (hS0) ?_
      rotate_left
      · intro w hSw; (try dsimp only at hSw); go_simp; try with_reducible rfl
      change wpAnyH _ _ _ _ _ _ _ (Act.put _ (some 43) _) _
      try simp only [Act.put, List.setIfInBounds_toArray, List.set_cons_zero, List.set_cons_succ]
      refine wpAnyH_take (i := 2) (v := ?_) rfl (by kernel_rfl) (by kernel_rfl) (by kernel_rfl) (fun _ _ _ h => h) (Or.inl ⟨by rfl, ?_⟩) (hS0) ?_
      rotate_left
      · intro w hSw; (try dsimp only at hSw); go_simp; try with_reducible rfl
      change wpAnyH _ _ _ _ _ _ _ (Act.put _ (some 44) _) _
      try simp only [Act.put, List.setIfInBounds_toArray, List.set_cons_zero, List.set_cons_succ]
      refine wpAnyH_take (i := 3) (v := ?_) rfl (by kernel_rfl) (by kernel_rfl) (by kernel_rfl) (fun _ _ _ h => h) (Or.inl ⟨by rfl, ?_⟩) (hS0) ?_
      rotate_left
      · intro w hSw; (try dsimp only at hSw); go_simp; try with_reducible rfl
      change wpAnyH _ _ _ _ _ _ _ (Act.put _ (some 45) _) _
      try simp only [Act.put, List.setIfInBounds_toArray, List.set_cons_zero, List.set_cons_succ]
      refine wpAnyH_take (i := 4) (v := ?_) rfl (by kernel_rfl) (by kernel_rfl) (by kernel_rfl) (fun _ _ _ h => h) (Or.inl ⟨by rfl, ?_⟩) (hS0) ?_
      rotate_left
      · intro w hSw; (try dsimp only at hSw); go_simp; try with_reducible rfl
      change wpAnyH _ _ _ _ _ _ _ (Act.put _ (some 46) _) _
      try simp only [Act.put, List.setIfInBounds_toArray, List.set_cons_zero, List.set_cons_succ]
      refine wpAnyH_take (i := 5) (v := ?_) rfl (by kernel_rfl) (by kernel_rfl) (by kernel_rfl) (fun _ _ _ h => h) (Or.inl ⟨by rfl, ?_⟩) (hS0) ?_
      rotate_left
      · intro w hSw; (try dsimp only at hSw); go_simp; try with_reducible rfl
      change wpAnyH _ _ _ _ _ _ _ (Act.put _ (some 47) _) _
      try simp only [Act.put, List.setIfInBounds_toArray, List.set_cons_zero, List.set_cons_succ]
      refine wpAnyH_take (i := 6) (v := ?_) rfl (by kernel_rfl) (by kernel_rfl) (by kernel_rfl) (fun _ _ _ h => h) (Or.inl ⟨by rfl, ?_⟩) (hS0) ?_
      rotate_left
      · intro w hSw; (try dsimp only at hSw); go_simp; try with_reducible rfl
      change wpAnyH _ _ _ _ _ _ _ (Act.put _ (some 48) _) _
      try simp only [Act.put, List.setIfInBounds_toArray, List.set_cons_zero, List.set_cons_succ]
      refine wpAnyH_take (i := 7) (v := ?_) rfl (by kernel_rfl) (by kernel_rfl) (by kernel_rfl) (fun _ _ _ h => h) (Or.inl ⟨by rfl, ?_⟩) (hS0) ?_
      rotate_left
      · intro w hSw; (try dsimp only at hSw); go_simp; try with_reducible rfl
      change wpAnyH _ _ _ _ _ _ _ (Act.put _ (some 49) _) _
      try simp only [Act.put, List.setIfInBounds_toArray, List.set_cons_zero, List.set_cons_succ]
      refine wpAnyH_take (i := 8) (v := ?_) rfl (by kernel_rfl) (by kernel_rfl) (by kernel_rfl) (fun _ _ _ h => h) (Or.inl ⟨by rfl, ?_⟩) (hS0) ?_
      rotate_left
      · intro w hSw; (try dsimp only at hSw); go_simp; try with_reducible rfl
      change wpAnyH _ _ _ _ _ _ _ (Act.put _ (some 50) _) _
      try simp only [Act.put, List.setIfInBounds_toArray, List.set_cons_zero, List.set_cons_succ]
      refine wpAnyH_take (i := 9) (v := ?_) rfl (by kernel_rfl) (by kernel_rfl) (by kernel_rfl) (fun _ _ _ h => h) (Or.inl ⟨by rfl, ?_⟩) (hS0) ?_
      rotate_left
      · intro w hSw; (try dsimp only at hSw); go_simp; try with_reducible rfl
      change wpAnyH _ _ _ _ _ _ _ (Act.put _ (some 51) _) _
      try simp only [Act.put, List.setIfInBounds_toArray, List.set_cons_zero, List.set_cons_succ]
      refine wpAnyH_take (i := 10) (v := ?_) rfl (by kernel_rfl) (by kernel_rfl) (by kernel_rfl) (fun _ _ _ h => h) (Or.inl ⟨by rfl, ?_⟩) (hS0) ?_
      rotate_left
      · intro w hSw; (try dsimp only at hSw); go_simp; try with_reducible rfl
      change wpAnyH _ _ _ _ _ _ _ (Act.put _ (some 52) _) _
      try simp only [Act.put, List.setIfInBounds_toArray, List.set_cons_zero, List.set_cons_succ]
      refine wpAnyH_ready (rs := [11]) (by kernel_rfl) (by simp) ?_
      refine AllReadyH.cons rfl (fun K hK => ?_) AllReadyH.nil
      go_simp
      refine (before_R pA 12 RA n64 hrelA _ (oA.keep (S := fun _ => False) (Turn.drew (Turn.refl _ W)) id) (hTW.keep (S := fun _ => False) (Turn.drew (Turn.refl _ W)) id) TA.out.1 x y).mono ?_
      rintro e W3 ⟨rfl, ht3, oA3⟩
      rw [HSA.out.1]
      have hk3 : Turn (fun b => b = pA ∨ b = pB) W W3 := Turn.trans (Turn.drew (Turn.refl _ W)) (ht3.mono (fun _ _ e => Or.inl e))
      have oB3 := (oB.keep (S := fun _ => False) (Turn.drew (Turn.refl _ W)) id).keep ht3 (by omega)
      have hT3 : Tab W3 := (hTW.keep (S := fun _ => False) (Turn.drew (Turn.refl _ W)) id).keep ht3 (fun h => TA.out.1 h.symm)
      refine hK.out _ _ (HS.out _ hk3) (fun hS3 => ?_)
      clear hK K hS0 c1 c2
      refine wpAnyH_take (i := 12) (v := ?_) rfl (by kernel_rfl) (by kernel_rfl) (by kernel_rfl) (fun _ _ _ h => h) (Or.inl ⟨by rfl, ?_⟩) (hS3) ?_
      rotate_left
      · intro w hSw; (try dsimp only at hSw); go_simp; try with_reducible rfl
      change wpAnyH _ _ _ _ _ _ _ (Act.put _ (some 54) _) _
      try simp only [Act.put, List.setIfInBounds_toArray, List.set_cons_zero, List.set_cons_succ]
      refine wpAnyH_take (i := 13) (v := ?_) rfl (by kernel_rfl) (by kernel_rfl) (by kernel_rfl) (fun _ _ _ h => h) (Or.inl ⟨by rfl, ?_⟩) (hS3) ?_
      rotate_left
      · intro w hSw; (try dsimp only at hSw); go_simp; try with_reducible rfl
      change wpAnyH _ _ _ _ _ _ _ (Act.put _ (some 55) _) _
      try simp only [Act.put, List.setIfInBounds_toArray, List.set_cons_zero, List.set_cons_succ]
      refine wpAnyH_take (i := 14) (v := ?_) rfl (by kernel_rfl) (by kernel_rfl) (by kernel_rfl) (fun _ _ _ h => h) (Or.inl ⟨by rfl, ?_⟩) (hS3) ?_
      rotate_left
      · intro w hSw; (try dsimp only at hSw); go_simp; try with_reducible rfl
      change wpAnyH _ _ _ _ _ _ _ (Act.put _ (some 56) _) _
      try simp only [Act.put, List.setIfInBounds_toArray, List.set_cons_zero, List.set_cons_succ]
      refine wpAnyH_take (i := 15) (v := ?_) rfl (by kernel_rfl) (by kernel_rfl) (by kernel_rfl) (fun _ _ _ h => h) (Or.inl ⟨by rfl, ?_⟩) (hS3) ?_
      rotate_left
      · intro w hSw; (try dsimp only at hSw); go_simp; try with_reducible rfl
      change wpAnyH _ _ _ _ _ _ _ (Act.put _ (some 57) _) _
      try simp only [Act.put, List.setIfInBounds_toArray, List.set_cons_zero, List.set_cons_succ]
      refine wpAnyH_take (i := 16) (v := ?_) rfl (by kernel_rfl) (by kernel_rfl) (by kernel_rfl) (fun _ _ _ h => h) (Or.inl ⟨by rfl, ?_⟩) (hS3) ?_
      rotate_left
      · intro w hSw; (try dsimp only at hSw); go_simp; try with_reducible rfl
      change wpAnyH _ _ _ _ _ _ _ (Act.put _ (some 58) _) _
      try simp only [Act.put, List.setIfInBounds_toArray, List.set_cons_zero, List.set_cons_succ]
      refine wpAnyH_take (i := 17) (v := ?_) rfl (by kernel_rfl) (by kernel_rfl) (by kernel_rfl) (fun _ _ _ h => h) (Or.inl ⟨by rfl, ?_⟩) (hS3) ?_
      rotate_left
      · intro w hSw; (try dsimp only at hSw); go_simp; try with_reducible rfl
      change wpAnyH _ _ _ _ _ _ _ (Act.put _ (some 59) _) _
      try simp only [Act.put, List.setIfInBounds_toArray, List.set_cons_zero, List.set_cons_succ]
      refine wpAnyH_take (i := 18) (v := ?_) rfl (by kernel_rfl) (by kernel_rfl) (by kernel_rfl) (fun _ _ _ h => h) (Or.inl ⟨by rfl, ?_⟩) (hS3) ?_
      rotate_left
      · intro w hSw; (try dsimp only at hSw); go_simp; try with_reducible rfl
      change wpAnyH _ _ _ _ _ _ _ (Act.put _ (some 60) _) _
      try simp only [Act.put, List.setIfInBounds_toArray, List.set_cons_zero, List.set_cons_succ]
      have m0 : (IntKind.i64.wrap (wh : Int)).tmod (N : Int) = (wi : Int) := by rw [show IntKind.i64.wrap (wh : Int) = (wh : Int) from IntWalk.i64_in _ (by omega)]; exact M0.out
      have hln : ¬ N = 0 := by omega
      refine wpAnyH_take (i := 19) (v := ?_) rfl (by kernel_rfl) (by kernel_rfl) (by kernel_rfl) (fun _ _ _ h => h) (Or.inl ⟨by rfl, ?_⟩) (hS3) ?_
      rotate_left
      · intro w hSw; (try dsimp only at hSw); go_simp; try with_reducible rfl
      change wpAnyH _ _ _ _ _ _ _ (Act.put _ (some 61) _) _
      try simp only [Act.put, List.setIfInBounds_toArray, List.set_cons_zero, List.set_cons_succ]
      clear hln
      refine wpAnyH_take (i := 20) (v := ?_) rfl (by kernel_rfl) (by kernel_rfl) (by kernel_rfl) (fun _ _ _ h => h) (Or.inl ⟨by rfl, ?_⟩) (hS3) ?_
      rotate_left
      · intro w hSw; (try dsimp only at hSw); go_simp; try with_reducible rfl
      change wpAnyH _ _ _ _ _ _ _ (Act.put _ (some 62) _) _
      try simp only [Act.put, List.setIfInBounds_toArray, List.set_cons_zero, List.set_cons_succ]
      refine wpAnyH_take (i := 21) (v := ?_) rfl (by kernel_rfl) (by kernel_rfl) (by kernel_rfl) (fun _ _ _ h => h) (Or.inl ⟨by rfl, ?_⟩) (hS3) ?_
      rotate_left
      · intro w hSw; (try dsimp only at hSw); go_simp; try with_reducible rfl
      change wpAnyH _ _ _ _ _ _ _ (Act.put _ (some 63) _) _
      try simp only [Act.put, List.setIfInBounds_toArray, List.set_cons_zero, List.set_cons_succ]
      refine wpAnyH_take (i := 22) (v := undef) rfl (by kernel_rfl) (by kernel_rfl) (by kernel_rfl) (fun _ _ _ h => h) (Or.inr ⟨by rfl, rfl⟩) (hS3) ?_
      change wpAnyH _ _ _ _ _ _ _ (Act.put _ (some 64) _) _
      try simp only [Act.put, List.setIfInBounds_toArray, List.set_cons_zero, List.set_cons_succ]
      refine wpAnyH_take (i := 23) (v := undef) rfl (by kernel_rfl) (by kernel_rfl) (by kernel_rfl) (fun _ _ _ h => h) (Or.inr ⟨by rfl, rfl⟩) (hS3) ?_
      change wpAnyH _ _ _ _ _ _ _ (Act.put _ (some 65) _) _
      try simp only [Act.put, List.setIfInBounds_toArray, List.set_cons_zero, List.set_cons_succ]
      refine wpAnyH_take (i := 24) (v := undef) rfl (by kernel_rfl) (by kernel_rfl) (by kernel_rfl) (fun _ _ _ h => h) (Or.inr ⟨by rfl, rfl⟩) (hS3) ?_
      change wpAnyH _ _ _ _ _ _ _ (Act.put _ (some 66) _) _
      try simp only [Act.put, List.setIfInBounds_toArray, List.set_cons_zero, List.set_cons_succ]
      refine wpAnyH_take (i := 25) (v := undef) rfl (by kernel_rfl) (by kernel_rfl) (by kernel_rfl) (fun _ _ _ h => h) (Or.inr ⟨by rfl, rfl⟩) (hS3) ?_
      change wpAnyH _ _ _ _ _ _ _ (Act.put _ (some 67) _) _
      try simp only [Act.put, List.setIfInBounds_toArray, List.set_cons_zero, List.set_cons_succ]
      refine wpAnyH_take (i := 26) (v := undef) rfl (by kernel_rfl) (by kernel_rfl) (by kernel_rfl) (fun _ _ _ h => h) (Or.inr ⟨by rfl, rfl⟩) (hS3) ?_
      change wpAnyH _ _ _ _ _ _ _ (Act.put _ (some 68) _) _
      try simp only [Act.put, List.setIfInBounds_toArray, List.set_cons_zero, List.set_cons_succ]
      refine wpAnyH_take (i := 27) (v := undef) rfl (by kernel_rfl) (by kernel_rfl) (by kernel_rfl) (fun _ _ _ h => h) (Or.inr ⟨by rfl, rfl⟩) (hS3) ?_
      change wpAnyH _ _ _ _ _ _ _ (Act.put _ (some 69) _) _
      try simp only [Act.put, List.setIfInBounds_toArray, List.set_cons_zero, List.set_cons_succ]
      refine wpAnyH_take (i := 28) (v := undef) rfl (by kernel_rfl) (by kernel_rfl) (by kernel_rfl) (fun _ _ _ h => h) (Or.inr ⟨by rfl, rfl⟩) (hS3) ?_
      change wpAnyH _ _ _ _ _ _ _ (Act.put _ (some 70) _) _
      try simp only [Act.put, List.setIfInBounds_toArray, List.set_cons_zero, List.set_cons_succ]
      refine wpAnyH_take (i := 29) (v := undef) rfl (by kernel_rfl) (by kernel_rfl) (by kernel_rfl) (fun _ _ _ h => h) (Or.inr ⟨by rfl, rfl⟩) (hS3) ?_
      change wpAnyH _ _ _ _ _ _ _ (Act.put _ (some 71) _) _
      try simp only [Act.put, List.setIfInBounds_toArray, List.set_cons_zero, List.set_cons_succ]
      refine wpAnyH_take (i := 30) (v := undef) rfl (by kernel_rfl) (by kernel_rfl) (by kernel_rfl) (fun _ _ _ h => h) (Or.inr ⟨by rfl, rfl⟩) (hS3) ?_
      change wpAnyH _ _ _ _ _ _ _ (Act.put _ (some 72) _) _
      try simp only [Act.put, List.setIfInBounds_toArray, List.set_cons_zero, List.set_cons_succ]
      refine wpAnyH_take (i := 31) (v := undef) rfl (by kernel_rfl) (by kernel_rfl) (by kernel_rfl) (fun _ _ _ h => h) (Or.inr ⟨by rfl, rfl⟩) (hS3) ?_
      change wpAnyH _ _ _ _ _ _ _ (Act.put _ (some 73) _) _
      try simp only [Act.put, List.setIfInBounds_toArray, List.set_cons_zero, List.set_cons_succ]
      refine wpAnyH_take (i := 32) (v := undef) rfl (by kernel_rfl) (by kernel_rfl) (by kernel_rfl) (fun _ _ _ h => h) (Or.inr ⟨by rfl, rfl⟩) (hS3) ?_
      change wpAnyH _ _ _ _ _ _ _ (Act.put _ (some 74) _) _
      try simp only [Act.put, List.setIfInBounds_toArray, List.set_cons_zero, List.set_cons_succ]
      refine wpAnyH_take (i := 33) (v := undef) rfl (by kernel_rfl) (by kernel_rfl) (by kernel_rfl) (fun _ _ _ h => h) (Or.inr ⟨by rfl, rfl⟩) (hS3) ?_
      change wpAnyH _ _ _ _ _ _ _ (Act.put _ (some 75) _) _
      try simp only [Act.put, List.setIfInBounds_toArray, List.set_cons_zero, List.set_cons_succ]
      refine wpAnyH_take (i := 34) (v := undef) rfl (by kernel_rfl) (by kernel_rfl) (by kernel_rfl) (fun _ _ _ h => h) (Or.inr ⟨by rfl, rfl⟩) (hS3) ?_
      change wpAnyH _ _ _ _ _ _ _ (Act.put _ (some 76) _) _
      try simp only [Act.put, List.setIfInBounds_toArray, List.set_cons_zero, List.set_cons_succ]
      refine wpAnyH_take (i := 35) (v := ?_) rfl (by kernel_rfl) (by kernel_rfl) (by kernel_rfl) (fun _ _ _ h => h) (Or.inl ⟨by rfl, ?_⟩) (hS3) ?_
      rotate_left
      · intro w hSw; (try dsimp only at hSw); go_simp; try with_reducible rfl
      change wpAnyH _ _ _ _ _ _ _ (Act.put _ (some 77) _) _
      try simp only [Act.put, List.setIfInBounds_toArray, List.set_cons_zero, List.set_cons_succ]
      refine wpAnyH_take (i := 36) (v := ?_) rfl (by kernel_rfl) (by kernel_rfl) (by kernel_rfl) (fun _ _ _ h => h) (Or.inl ⟨by rfl, ?_⟩) (hS3) ?_
      rotate_left
      · intro w hSw; (try dsimp only at hSw); go_simp; try with_reducible rfl
      change wpAnyH _ _ _ _ _ _ _ (Act.put _ (some 78) _) _
      try simp only [Act.put, List.setIfInBounds_toArray, List.set_cons_zero, List.set_cons_succ]
      refine wpAnyH_done (by kernel_rfl) ?_ _
      rw [HSA.out.2, ← HRA.out] at oA3
      go_wp2
      exact ⟨⟨i, (i : Int) - 1, M, by omega, by omega, by first | rfl | trivial, ⟨rfl, rfl, rfl, rfl, rfl, rfl, rfl⟩, oA3, by rw [HRB.out]; exact oB3, HM.out, Turn.trans ht hk3⟩, by first | (simp [intOf]; done) | (simp [intOf]; omega)⟩
    · have q1 : ((i : Int) != (wi : Int)) = true := by rw [bne_iff_ne]; exact fun h => hiw (by exact_mod_cast h)
      have HIW := Lib.hid hiw
      clear hiw
      go_wp2
      refine wp_region_held_drew (S := (fun w' => w'.cell? ⟨g, off + i * 2, none⟩ = some (.int .i64 x) ∧ w'.cell? ⟨g, off + i * 2 + 1, none⟩ = some (.int .i64 y))) (by kernel_rfl) (HS.out _ (Turn.drew (Turn.refl _ W))) ?_
      intro hS0
      refine wpAnyH_take (i := 0) (v := ?_) rfl (by kernel_rfl) (by kernel_rfl) (by kernel_rfl) (fun _ _ _ h => h) (Or.inl ⟨by rfl, ?_⟩) (hS0) ?_
      rotate_left
      · intro w hSw; (try dsimp only at hSw); go_simp; try with_reducible rfl
      change wpAnyH _ _ _ _ _ _ _ (Act.put _ (some 42) _) _
      try simp only [Act.put, List.setIfInBounds_toArray, List.set_cons_zero, List.set_cons_succ]
      refine wpAnyH_take (i := 1) (v := ?_) rfl (by kernel_rfl) (by kernel_rfl) (by kernel_rfl) (fun _ _ _ h => h) (Or.inl ⟨by rfl, ?_⟩) (hS0) ?_
      rotate_left
      · intro w hSw; (try dsimp only at hSw); go_simp; try with_reducible rfl
      change wpAnyH _ _ _ _ _ _ _ (Act.put _ (some 43) _) _
      try simp only [Act.put, List.setIfInBounds_toArray, List.set_cons_zero, List.set_cons_succ]
      refine wpAnyH_take (i := 2) (v := ?_) rfl (by kernel_rfl) (by kernel_rfl) (by kernel_rfl) (fun _ _ _ h => h) (Or.inl ⟨by rfl, ?_⟩) (hS0) ?_
      rotate_left
      · intro w hSw; (try dsimp only at hSw); go_simp; try with_reducible rfl
      change wpAnyH _ _ _ _ _ _ _ (Act.put _ (some 44) _) _
      try simp only [Act.put, List.setIfInBounds_toArray, List.set_cons_zero, List.set_cons_succ]
      refine wpAnyH_take (i := 3) (v := ?_) rfl (by kernel_rfl) (by kernel_rfl) (by kernel_rfl) (fun _ _ _ h => h) (Or.inl ⟨by rfl, ?_⟩) (hS0) ?_
      rotate_left
      · intro w hSw; (try dsimp only at hSw); go_simp; try with_reducible rfl
      change wpAnyH _ _ _ _ _ _ _ (Act.put _ (some 45) _) _
      try simp only [Act.put, List.setIfInBounds_toArray, List.set_cons_zero, List.set_cons_succ]
      refine wpAnyH_take (i := 4) (v := ?_) rfl (by kernel_rfl) (by kernel_rfl) (by kernel_rfl) (fun _ _ _ h => h) (Or.inl ⟨by rfl, ?_⟩) (hS0) ?_
      rotate_left
      · intro w hSw; (try dsimp only at hSw); go_simp; try with_reducible rfl
      change wpAnyH _ _ _ _ _ _ _ (Act.put _ (some 46) _) _
      try simp only [Act.put, List.setIfInBounds_toArray, List.set_cons_zero, List.set_cons_succ]
      refine wpAnyH_take (i := 5) (v := ?_) rfl (by kernel_rfl) (by kernel_rfl) (by kernel_rfl) (fun _ _ _ h => h) (Or.inl ⟨by rfl, ?_⟩) (hS0) ?_
      rotate_left
      · intro w hSw; (try dsimp only at hSw); go_simp; try with_reducible rfl
      change wpAnyH _ _ _ _ _ _ _ (Act.put _ (some 47) _) _
      try simp only [Act.put, List.setIfInBounds_toArray, List.set_cons_zero, List.set_cons_succ]
      refine wpAnyH_take (i := 6) (v := ?_) rfl (by kernel_rfl) (by kernel_rfl) (by kernel_rfl) (fun _ _ _ h => h) (Or.inl ⟨by rfl, ?_⟩) (hS0) ?_
      rotate_left
      · intro w hSw; (try dsimp only at hSw); go_simp; try with_reducible rfl
      change wpAnyH _ _ _ _ _ _ _ (Act.put _ (some 48) _) _
      try simp only [Act.put, List.setIfInBounds_toArray, List.set_cons_zero, List.set_cons_succ]
      refine wpAnyH_take (i := 7) (v := ?_) rfl (by kernel_rfl) (by kernel_rfl) (by kernel_rfl) (fun _ _ _ h => h) (Or.inl ⟨by rfl, ?_⟩) (hS0) ?_
      rotate_left
      · intro w hSw; (try dsimp only at hSw); go_simp; try with_reducible rfl
      change wpAnyH _ _ _ _ _ _ _ (Act.put _ (some 49) _) _
      try simp only [Act.put, List.setIfInBounds_toArray, List.set_cons_zero, List.set_cons_succ]
      refine wpAnyH_take (i := 8) (v := ?_) rfl (by kernel_rfl) (by kernel_rfl) (by kernel_rfl) (fun _ _ _ h => h) (Or.inl ⟨by rfl, ?_⟩) (hS0) ?_
      rotate_left
      · intro w hSw; (try dsimp only at hSw); go_simp; try with_reducible rfl
      change wpAnyH _ _ _ _ _ _ _ (Act.put _ (some 50) _) _
      try simp only [Act.put, List.setIfInBounds_toArray, List.set_cons_zero, List.set_cons_succ]
      refine wpAnyH_take (i := 9) (v := ?_) rfl (by kernel_rfl) (by kernel_rfl) (by kernel_rfl) (fun _ _ _ h => h) (Or.inl ⟨by rfl, ?_⟩) (hS0) ?_
      rotate_left
      · intro w hSw; (try dsimp only at hSw); go_simp; try with_reducible rfl
      change wpAnyH _ _ _ _ _ _ _ (Act.put _ (some 51) _) _
      try simp only [Act.put, List.setIfInBounds_toArray, List.set_cons_zero, List.set_cons_succ]
      refine wpAnyH_take (i := 10) (v := ?_) rfl (by kernel_rfl) (by kernel_rfl) (by kernel_rfl) (fun _ _ _ h => h) (Or.inl ⟨by rfl, ?_⟩) (hS0) ?_
      rotate_left
      · intro w hSw; (try dsimp only at hSw); go_simp; try with_reducible rfl
      change wpAnyH _ _ _ _ _ _ _ (Act.put _ (some 52) _) _
      try simp only [Act.put, List.setIfInBounds_toArray, List.set_cons_zero, List.set_cons_succ]
      refine wpAnyH_ready (rs := [11]) (by kernel_rfl) (by simp) ?_
      refine AllReadyH.cons rfl (fun K hK => ?_) AllReadyH.nil
      go_simp
      refine (before_R pA 12 RA n64 hrelA _ (oA.keep (S := fun _ => False) (Turn.drew (Turn.refl _ W)) id) (hTW.keep (S := fun _ => False) (Turn.drew (Turn.refl _ W)) id) TA.out.1 x y).mono ?_
      rintro e W3 ⟨rfl, ht3, oA3⟩
      rw [HSA.out.1]
      have hk3 : Turn (fun b => b = pA ∨ b = pB) W W3 := Turn.trans (Turn.drew (Turn.refl _ W)) (ht3.mono (fun _ _ e => Or.inl e))
      have oB3 := (oB.keep (S := fun _ => False) (Turn.drew (Turn.refl _ W)) id).keep ht3 (by omega)
      have hT3 : Tab W3 := (hTW.keep (S := fun _ => False) (Turn.drew (Turn.refl _ W)) id).keep ht3 (fun h => TA.out.1 h.symm)
      refine hK.out _ _ (HS.out _ hk3) (fun hS3 => ?_)
      clear hK K hS0 c1 c2
      refine wpAnyH_take (i := 12) (v := ?_) rfl (by kernel_rfl) (by kernel_rfl) (by kernel_rfl) (fun _ _ _ h => h) (Or.inl ⟨by rfl, ?_⟩) (hS3) ?_
      rotate_left
      · intro w hSw; (try dsimp only at hSw); go_simp; try with_reducible rfl
      change wpAnyH _ _ _ _ _ _ _ (Act.put _ (some 54) _) _
      try simp only [Act.put, List.setIfInBounds_toArray, List.set_cons_zero, List.set_cons_succ]
      refine wpAnyH_take (i := 13) (v := ?_) rfl (by kernel_rfl) (by kernel_rfl) (by kernel_rfl) (fun _ _ _ h => h) (Or.inl ⟨by rfl, ?_⟩) (hS3) ?_
      rotate_left
      · intro w hSw; (try dsimp only at hSw); go_simp; try with_reducible rfl
      change wpAnyH _ _ _ _ _ _ _ (Act.put _ (some 55) _) _
      try simp only [Act.put, List.setIfInBounds_toArray, List.set_cons_zero, List.set_cons_succ]
      refine wpAnyH_take (i := 14) (v := ?_) rfl (by kernel_rfl) (by kernel_rfl) (by kernel_rfl) (fun _ _ _ h => h) (Or.inl ⟨by rfl, ?_⟩) (hS3) ?_
      rotate_left
      · intro w hSw; (try dsimp only at hSw); go_simp; try with_reducible rfl
      change wpAnyH _ _ _ _ _ _ _ (Act.put _ (some 56) _) _
      try simp only [Act.put, List.setIfInBounds_toArray, List.set_cons_zero, List.set_cons_succ]
      refine wpAnyH_take (i := 15) (v := ?_) rfl (by kernel_rfl) (by kernel_rfl) (by kernel_rfl) (fun _ _ _ h => h) (Or.inl ⟨by rfl, ?_⟩) (hS3) ?_
      rotate_left
      · intro w hSw; (try dsimp only at hSw); go_simp; try with_reducible rfl
      change wpAnyH _ _ _ _ _ _ _ (Act.put _ (some 57) _) _
      try simp only [Act.put, List.setIfInBounds_toArray, List.set_cons_zero, List.set_cons_succ]
      refine wpAnyH_take (i := 16) (v := ?_) rfl (by kernel_rfl) (by kernel_rfl) (by kernel_rfl) (fun _ _ _ h => h) (Or.inl ⟨by rfl, ?_⟩) (hS3) ?_
      rotate_left
      · intro w hSw; (try dsimp only at hSw); go_simp; try with_reducible rfl
      change wpAnyH _ _ _ _ _ _ _ (Act.put _ (some 58) _) _
      try simp only [Act.put, List.setIfInBounds_toArray, List.set_cons_zero, List.set_cons_succ]
      refine wpAnyH_take (i := 17) (v := ?_) rfl (by kernel_rfl) (by kernel_rfl) (by kernel_rfl) (fun _ _ _ h => h) (Or.inl ⟨by rfl, ?_⟩) (hS3) ?_
      rotate_left
      · intro w hSw; (try dsimp only at hSw); go_simp; try with_reducible rfl
      change wpAnyH _ _ _ _ _ _ _ (Act.put _ (some 59) _) _
      try simp only [Act.put, List.setIfInBounds_toArray, List.set_cons_zero, List.set_cons_succ]
      refine wpAnyH_take (i := 18) (v := ?_) rfl (by kernel_rfl) (by kernel_rfl) (by kernel_rfl) (fun _ _ _ h => h) (Or.inl ⟨by rfl, ?_⟩) (hS3) ?_
      rotate_left
      · intro w hSw; (try dsimp only at hSw); go_simp; try with_reducible rfl
      change wpAnyH _ _ _ _ _ _ _ (Act.put _ (some 60) _) _
      try simp only [Act.put, List.setIfInBounds_toArray, List.set_cons_zero, List.set_cons_succ]
      have m0 : (IntKind.i64.wrap (wh : Int)).tmod (N : Int) = (wi : Int) := by rw [show IntKind.i64.wrap (wh : Int) = (wh : Int) from IntWalk.i64_in _ (by omega)]; exact M0.out
      have hln : ¬ N = 0 := by omega
      refine wpAnyH_take (i := 19) (v := ?_) rfl (by kernel_rfl) (by kernel_rfl) (by kernel_rfl) (fun _ _ _ h => h) (Or.inl ⟨by rfl, ?_⟩) (hS3) ?_
      rotate_left
      · intro w hSw; (try dsimp only at hSw); go_simp; try with_reducible rfl
      change wpAnyH _ _ _ _ _ _ _ (Act.put _ (some 61) _) _
      try simp only [Act.put, List.setIfInBounds_toArray, List.set_cons_zero, List.set_cons_succ]
      clear hln
      refine wpAnyH_take (i := 20) (v := ?_) rfl (by kernel_rfl) (by kernel_rfl) (by kernel_rfl) (fun _ _ _ h => h) (Or.inl ⟨by rfl, ?_⟩) (hS3) ?_
      rotate_left
      · intro w hSw; (try dsimp only at hSw); go_simp; try with_reducible rfl
      change wpAnyH _ _ _ _ _ _ _ (Act.put _ (some 62) _) _
      try simp only [Act.put, List.setIfInBounds_toArray, List.set_cons_zero, List.set_cons_succ]
      refine wpAnyH_take (i := 21) (v := ?_) rfl (by kernel_rfl) (by kernel_rfl) (by kernel_rfl) (fun _ _ _ h => h) (Or.inl ⟨by rfl, ?_⟩) (hS3) ?_
      rotate_left
      · intro w hSw; (try dsimp only at hSw); go_simp; try with_reducible rfl
      change wpAnyH _ _ _ _ _ _ _ (Act.put _ (some 63) _) _
      try simp only [Act.put, List.setIfInBounds_toArray, List.set_cons_zero, List.set_cons_succ]
      refine wpAnyH_take (i := 22) (v := ?_) rfl (by kernel_rfl) (by kernel_rfl) (by kernel_rfl) (fun _ _ _ h => h) (Or.inl ⟨by rfl, ?_⟩) (hS3) ?_
      rotate_left
      · intro w hSw; (try dsimp only at hSw); go_simp; try with_reducible rfl
      change wpAnyH _ _ _ _ _ _ _ (Act.put _ (some 64) _) _
      try simp only [Act.put, List.setIfInBounds_toArray, List.set_cons_zero, List.set_cons_succ]
      refine wpAnyH_take (i := 23) (v := ?_) rfl (by kernel_rfl) (by kernel_rfl) (by kernel_rfl) (fun _ _ _ h => h) (Or.inl ⟨by rfl, ?_⟩) (hS3) ?_
      rotate_left
      · intro w hSw; (try dsimp only at hSw); go_simp; try with_reducible rfl
      change wpAnyH _ _ _ _ _ _ _ (Act.put _ (some 65) _) _
      try simp only [Act.put, List.setIfInBounds_toArray, List.set_cons_zero, List.set_cons_succ]
      refine wpAnyH_take (i := 24) (v := ?_) rfl (by kernel_rfl) (by kernel_rfl) (by kernel_rfl) (fun _ _ _ h => h) (Or.inl ⟨by rfl, ?_⟩) (hS3) ?_
      rotate_left
      · intro w hSw; (try dsimp only at hSw); go_simp; try with_reducible rfl
      change wpAnyH _ _ _ _ _ _ _ (Act.put _ (some 66) _) _
      try simp only [Act.put, List.setIfInBounds_toArray, List.set_cons_zero, List.set_cons_succ]
      refine wpAnyH_take (i := 25) (v := ?_) rfl (by kernel_rfl) (by kernel_rfl) (by kernel_rfl) (fun _ _ _ h => h) (Or.inl ⟨by rfl, ?_⟩) (hS3) ?_
      rotate_left
      · intro w hSw; (try dsimp only at hSw); go_simp; try with_reducible rfl
      change wpAnyH _ _ _ _ _ _ _ (Act.put _ (some 67) _) _
      try simp only [Act.put, List.setIfInBounds_toArray, List.set_cons_zero, List.set_cons_succ]
      refine wpAnyH_take (i := 26) (v := ?_) rfl (by kernel_rfl) (by kernel_rfl) (by kernel_rfl) (fun _ _ _ h => h) (Or.inl ⟨by rfl, ?_⟩) (hS3) ?_
      rotate_left
      · intro w hSw; (try dsimp only at hSw); go_simp; try with_reducible rfl
      change wpAnyH _ _ _ _ _ _ _ (Act.put _ (some 68) _) _
      try simp only [Act.put, List.setIfInBounds_toArray, List.set_cons_zero, List.set_cons_succ]
      refine wpAnyH_take (i := 27) (v := ?_) rfl (by kernel_rfl) (by kernel_rfl) (by kernel_rfl) (fun _ _ _ h => h) (Or.inl ⟨by rfl, ?_⟩) (hS3) ?_
      rotate_left
      · intro w hSw; (try dsimp only at hSw); go_simp; try with_reducible rfl
      change wpAnyH _ _ _ _ _ _ _ (Act.put _ (some 69) _) _
      try simp only [Act.put, List.setIfInBounds_toArray, List.set_cons_zero, List.set_cons_succ]
      refine wpAnyH_take (i := 28) (v := ?_) rfl (by kernel_rfl) (by kernel_rfl) (by kernel_rfl) (fun _ _ _ h => h) (Or.inl ⟨by rfl, ?_⟩) (hS3) ?_
      rotate_left
      · intro w hSw; (try dsimp only at hSw); go_simp; try with_reducible rfl
      change wpAnyH _ _ _ _ _ _ _ (Act.put _ (some 70) _) _
      try simp only [Act.put, List.setIfInBounds_toArray, List.set_cons_zero, List.set_cons_succ]
      refine wpAnyH_take (i := 29) (v := ?_) rfl (by kernel_rfl) (by kernel_rfl) (by kernel_rfl) (fun _ _ _ h => h) (Or.inl ⟨by rfl, ?_⟩) (hS3) ?_
      rotate_left
      · intro w hSw; (try dsimp only at hSw); go_simp; try with_reducible rfl
      change wpAnyH _ _ _ _ _ _ _ (Act.put _ (some 71) _) _
      try simp only [Act.put, List.setIfInBounds_toArray, List.set_cons_zero, List.set_cons_succ]
      refine wpAnyH_take (i := 30) (v := ?_) rfl (by kernel_rfl) (by kernel_rfl) (by kernel_rfl) (fun _ _ _ h => h) (Or.inl ⟨by rfl, ?_⟩) (hS3) ?_
      rotate_left
      · intro w hSw; (try dsimp only at hSw); go_simp; try with_reducible rfl
      change wpAnyH _ _ _ _ _ _ _ (Act.put _ (some 72) _) _
      try simp only [Act.put, List.setIfInBounds_toArray, List.set_cons_zero, List.set_cons_succ]
      refine wpAnyH_take (i := 31) (v := ?_) rfl (by kernel_rfl) (by kernel_rfl) (by kernel_rfl) (fun _ _ _ h => h) (Or.inl ⟨by rfl, ?_⟩) (hS3) ?_
      rotate_left
      · intro w hSw; (try dsimp only at hSw); go_simp; try with_reducible rfl
      change wpAnyH _ _ _ _ _ _ _ (Act.put _ (some 73) _) _
      try simp only [Act.put, List.setIfInBounds_toArray, List.set_cons_zero, List.set_cons_succ]
      refine wpAnyH_take (i := 32) (v := ?_) rfl (by kernel_rfl) (by kernel_rfl) (by kernel_rfl) (fun _ _ _ h => h) (Or.inl ⟨by rfl, ?_⟩) (hS3) ?_
      rotate_left
      · intro w hSw; (try dsimp only at hSw); go_simp; try with_reducible rfl
      change wpAnyH _ _ _ _ _ _ _ (Act.put _ (some 74) _) _
      try simp only [Act.put, List.setIfInBounds_toArray, List.set_cons_zero, List.set_cons_succ]
      refine wpAnyH_ready (rs := [33]) (by kernel_rfl) (by simp) ?_
      refine AllReadyH.cons rfl (fun K hK => ?_) AllReadyH.nil
      go_simp
      refine (before_R pB 12 RB n64 hrelB W3 oB3 hT3 TA.out.2 x y).mono ?_
      rintro e W4 ⟨rfl, ht4, oB4'⟩
      rw [HSB.out.1]
      have hk4 : Turn (fun b => b = pA ∨ b = pB) W W4 := Turn.trans hk3 (ht4.mono (fun _ _ e => Or.inr e))
      have oA4' := oA3.keep ht4 (by omega)
      refine hK.out _ _ (HS.out _ hk4) (fun hS4 => ?_)
      clear hK K hS3
      refine wpAnyH_take (i := 34) (v := ?_) rfl (by kernel_rfl) (by kernel_rfl) (by kernel_rfl) (fun _ _ _ h => h) (Or.inl ⟨by rfl, ?_⟩) (hS4) ?_
      rotate_left
      · intro w hSw; (try dsimp only at hSw); go_simp; try with_reducible rfl
      change wpAnyH _ _ _ _ _ _ _ (Act.put _ (some 76) _) _
      try simp only [Act.put, List.setIfInBounds_toArray, List.set_cons_zero, List.set_cons_succ]
      refine wpAnyH_take (i := 35) (v := ?_) rfl (by kernel_rfl) (by kernel_rfl) (by kernel_rfl) (fun _ _ _ h => h) (Or.inl ⟨by rfl, ?_⟩) (hS4) ?_
      rotate_left
      · intro w hSw; (try dsimp only at hSw); go_simp; try with_reducible rfl
      change wpAnyH _ _ _ _ _ _ _ (Act.put _ (some 77) _) _
      try simp only [Act.put, List.setIfInBounds_toArray, List.set_cons_zero, List.set_cons_succ]
      refine wpAnyH_take (i := 36) (v := ?_) rfl (by kernel_rfl) (by kernel_rfl) (by kernel_rfl) (fun _ _ _ h => h) (Or.inl ⟨by rfl, ?_⟩) (hS4) ?_
      rotate_left
      · intro w hSw; (try dsimp only at hSw); go_simp; try with_reducible rfl
      change wpAnyH _ _ _ _ _ _ _ (Act.put _ (some 78) _) _
      try simp only [Act.put, List.setIfInBounds_toArray, List.set_cons_zero, List.set_cons_succ]
      refine wpAnyH_done (by kernel_rfl) ?_ _
      rw [HSA.out.2, ← HRA.out] at oA4'
      rw [HSB.out.2, ← HRB'.out] at oB4'
      go_wp2
      obtain rfl := HWI.out
      exact ⟨⟨i, (i : Int) - 1, M ++ [(x, y)], by omega, by omega, by first | rfl | trivial, ⟨rfl, rfl, rfl, rfl, rfl, rfl, rfl⟩, oA4', oB4', HMM.out HIW.out, Turn.trans ht hk4⟩, by first | (simp [intOf]; done) | (simp [intOf]; omega)⟩

theorem reduces_card (w : World) (hT : Tab w) (v : Value) (l : List (Int × Int)) (hv : Rd w v l.length 2 (prsK .u8 l)) (hl : ∀ p ∈ l, (Lit.int .u8 p.1).wf = true ∧ (Lit.int .u8 p.2).wf = true) (x : Int) (hx : (Lit.int .u8 x).wf = true) :
    Calls Tryd.prog 4 #[v, .int .u8 x] w fun e w' => e = .returned (.bool true) ∧ Ext w w' := by
  obtain ⟨m, h1, h2, h3⟩ := nat_pairs hl
  rw [← h1, h2] at hv
  have bx := bounds_u8 hx
  obtain ⟨x, rfl⟩ := Int.eq_ofNat_of_zero_le bx.1
  exact reduces_law w hT v m hv h3 x (by omega)
end Go.Proofs.YtnnnbmkhgcpjoaaDoor
