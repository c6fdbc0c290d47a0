/- ablautref08.replace (printed by genrefrepl.py). ablautref08.Once (printed by genrefonce.py). ref08.Once as one word. -/
import Derived.Test.YtedhogbocifipaaGreatDoorGa33
import Derived.Test.YtedhogbocifipaaGreatDoorGa12
import Derived.Test.YtedhogbocifipaaGreatDoorRunA
import Derived.Test.YtedhogbocifipaaGreatDoorGa31
import Derived.Test.YtedhogbocifipaaGreatDoorGa30
import Derived.Test.YtedhogbocifipaaGreatDoorRefChk
set_option maxRecDepth 100000
set_option maxHeartbeats 16000000
namespace Go.Proofs.YtedhogbocifipaaGreatDoor
open Go.RowKit Go.Ab
attribute [local go_sem] Oper.semAt_some wide_fn wide_depth

theorem rreplace_any {w : World} {cs : List Value} {l : LawD} {vo : Option Addr} {vn vc : Nat} {ws : Wd} (hl : LawAt w l cs) (hv : WordAt w (.slice vo vn vc) ws) (hn : ws.length = vn) (hcap : vn ≤ vc) (i : Nat) (hi : i + l.ifs.length ≤ vn)
  (hok : ∀ x ∈ l.outs, fitB l.ifs.length x = true) (hsm : l.outs.length ≤ 100) (hwm : vn ≤ 800) :
  Calls Tryz.prog 68 #[.agg cs.toArray, .slice vo vn vc, .int .i64 i] w fun e w' => ∃ u, e = .returned u ∧ w'.ownsRow w.heap.size 24 2 u (replL l ws i).length (sndL (replL l ws i)) ∧ Ext w w' := by
 subst hn
 obtain ⟨nm, k1, p1, m1, n1, a1, b1, o1, N1, c1, k2, p2, m2, n2, a2, b2, o2, N2, c2, io, N3, ic, oo, N4, oc, md, rfl, HLA, HPL, HPR, HIF, HOU, HNM, HN1, HN2, HN3, HN4, HMD, q0, q1, q2, q3, q4⟩ := law_gen hl
 rw [HN3.out] at hi hok
 rw [HN4.out] at hsm
 have hw1 : WordAt w _ _ := WordAt.cut hv (a := 0) (b := i) (by omega) (by omega) hcap
 have hw2 : WordAt w _ _ := WordAt.cut hv (a := i) (b := i + N3) (by omega) hi hcap
 have hw3 : WordAt w _ _ := WordAt.cut hv (a := i + N3) (b := ws.length) hi (by omega) hcap
 rw [take_zero] at hw1
 rw [show i + N3 - i = N3 by omega] at hw2
 rw [take_mid rfl] at hw3
 have s1 := fun D => slice_h (A := vo) (n := ws.length) (c := vc) under_snd size_snd i (by omega) D
 have s2 := fun D => slice_lh (A := vo) (n := ws.length) (c := vc) under_snd size_snd i (i + N3) (by omega) (by omega) D
 have s3 := fun D => slice_l (A := vo) (n := ws.length) (c := vc) under_snd size_snd (i + N3) (by omega) D
 simp only [Int.natCast_add] at s2 s3
 obtain ⟨y1, z1, e1, hx1⟩ : ∃ y z e, sliced vo 0 i vc 2 = .slice y z e := ⟨_, _, _, rfl⟩
 obtain ⟨y2, z2, e2, hx2⟩ : ∃ y z e, sliced vo i (i + N3) vc 2 = .slice y z e := ⟨_, _, _, rfl⟩
 obtain ⟨y3, z3, e3, hx3⟩ : ∃ y z e, sliced vo (i + N3) ws.length vc 2 = .slice y z e := ⟨_, _, _, rfl⟩
 rw [hx1] at hw1 s1
 rw [hx2] at hw2 s2
 rw [hx3] at hw3 s3
 clear hx1 hx2 hx3
 have hmid : ((ws.drop i).take N3).length = N3 := by rw [List.length_take, List.length_drop]; omega
 have hputs := fun (D : World) (hE : Ext w D) => rlput_any (HLA.out.ext hE) (hw2.ext hE) (by rw [hmid]; exact hok) (by rw [HN4.out]; omega)
 have HREP : Hid (replL l ws i = ws.take i ++ putL l ((ws.drop i).take N3) ++ ws.drop (i + N3)) := Lib.hid (by unfold replL repl; rw [HN3.out])
 have hpl := putL_length l ((ws.drop i).take N3)
 rw [HN4.out] at hpl hputs
 obtain ⟨M, hM⟩ : ∃ M, putL l ((ws.drop i).take N3) = M := ⟨_, rfl⟩
 rw [hM] at hputs HREP hpl
 obtain ⟨F, hF⟩ : ∃ F, replL l ws i = F := ⟨_, rfl⟩
 rw [hF] at HREP ⊢
 obtain ⟨rfl, hr1⟩ := word_rd hw1 (show (ws.take i).length = i by rw [List.length_take]; omega)
 obtain ⟨vn, hvn⟩ : ∃ n, ws.length = n := ⟨_, rfl⟩
 obtain ⟨d, hd⟩ : ∃ d, vn - (z1 + N3) = d := ⟨_, rfl⟩
 obtain ⟨rfl, hr3⟩ := word_rd hw3 (show (ws.drop (z1 + N3)).length = d by rw [List.length_drop]; omega)
 have HFL : Hid (F.length = z1 + N4 + z3) := Lib.hid (by rw [HREP.out, List.length_append, List.length_append, hpl, List.length_take, List.length_drop]; omega)
 have HFS : Hid (sndL F = sndL (ws.take z1) ++ (sndL M ++ sndL (ws.drop (z1 + N3)))) := Lib.hid (by rw [HREP.out, sndL_append, sndL_append, List.append_assoc])
 rw [HFL.out]
 rw [hvn] at hi hcap hwm s1 s2 s3 ⊢
 have HPUTS := Lib.hid hputs; have HR1 := Lib.hid hr1; have HR3 := Lib.hid hr3; have HFS := HFS
 clear hl hv hw1 hw2 hw3 hok hputs hmid hpl hM hF hr1 hr3 hvn HREP HFL HIF HOU HPL HPR HLA
 go_enter Tryz.func68, Tryz.ntmps68
 go_upto_region 1 with (fail)
 obtain ⟨w1, hw1⟩ : ∃ D, w.alloc (.cells #[.string nm, .int .i64 k1, .int .u32 (p1 : Int), .int .u32 (m1 : Int), .bool n1, .int .i64 a1, .int .i64 b1, .slice o1 N1 c1, .int .i64 k2, .int .u32 (p2 : Int), .int .u32 (m2 : Int), .bool n2, .int .i64 a2, .int .i64 b2, .slice o2 N2 c2, .slice io N3 ic, .slice oo N4 oc, .int .i64 md] 31) = D := ⟨_, rfl⟩
 have hE1 : Ext w w1 := by rw [← hw1]; exact (Turn.refl _ w).alloc _
 have hl1 : w1.heap[w.heap.size]? = some (.cells #[.string nm, .int .i64 k1, .int .u32 (p1 : Int), .int .u32 (m1 : Int), .bool n1, .int .i64 a1, .int .i64 b1, .slice o1 N1 c1, .int .i64 k2, .int .u32 (p2 : Int), .int .u32 (m2 : Int), .bool n2, .int .i64 a2, .int .i64 b2, .slice o2 N2 c2, .slice io N3 ic, .slice oo N4 oc, .int .i64 md] 31 (0, 0)) := by rw [← hw1]; exact new_at rfl
 have hs1 : w1.heap.size = w.heap.size + 1 := by rw [← hw1]; simp
 rw [hw1]
 obtain ⟨B, hB⟩ : ∃ b, w.heap.size = b := ⟨_, rfl⟩
 rw [hB] at hl1 hs1 ⊢
 have HL1 := Lib.hid hl1; have HB := Lib.hid hB
 have hA : Ext w1 (w1.alloc (.cells #[] 24)) := (Turn.refl _ w1).alloc _
 have hO := World.ownsRow_made (base := B + 1) (e := 24) (size := 2) w1 #[] 0 (by omega) (by decide) rfl
 rw [hs1] at hO
 have HO := Lib.hid hO; have HRD := Lib.hid (HR1.out.ext (hE1.trans hA)); have HA := Lib.hid hA
 have cK := cell_of_row _ _ 15 _ _ _ hl1
 clear hO hA hw1 hB hl1
 go_wp2_with (at_builtin; refine append_rd rfl (.tmp 12) (.tmp 15) 28 rfl (B + 1) 24 _ 2 8 Tryz.underlying28 @infoS rfl (by decide) _ 0 [] rfl HO.out _ _ _ _ rfl HRD.out (one_sndL _) ?c3 ?c4 ?c5 ?_)
 case c3 => unfold maxLen; omega
 case c4 => omega
 case c5 => have := HA.out.size; omega
 intro ao2 x2 w2 hO2 hT2 _
 have hE12 : Ext w1 w2 := HA.out.after hT2 (fun b h1 e => by simp [Value.ownBlock] at e; omega)
 have hE2 := hE1.trans hE12
 have HL2 := Lib.hid (hE12.keep HL1.out)
 have HO2 := Lib.hid hO2
 have hz2 : B + 1 ≤ w2.heap.size := by have := hE12.size; omega
 have hp := HPUTS.out w2.drew hE2.drew
 have HPUT := Lib.hid (fun (D : World) (hD : Ext w D) => HPUTS.out D hD)
 clear hp hO2 hT2 HL1 cK HRD HA HO hE12 hE1 hs1 HPUTS
 go_upto_region 3 with (fail)
 have hsum : IntKind.i64.wrap ((z1 : Int) + (N3 : Int)) = (z1 : Int) + (N3 : Int) := IntWalk.i64_in _ (by omega)
 refine wp_region_late (S := fun D => D.heap[B]? = some (.cells #[.string nm, .int .i64 k1, .int .u32 (p1 : Int), .int .u32 (m1 : Int), .bool n1, .int .i64 a1, .int .i64 b1, .slice o1 N1 c1, .int .i64 k2, .int .u32 (p2 : Int), .int .u32 (m2 : Int), .bool n2, .int .i64 a2, .int .i64 b2, .slice o2 N2 c2, .slice io N3 ic, .slice oo N4 oc, .int .i64 md] 31 (0, 0))) [] (by kernel_rfl) (drew_keep HL2.out) ?_
 intro hS0
 refine tkE (i := 0) (d := 17) (v := ?_) rfl (Or.inl ⟨by rfl, ?_⟩) hS0 ?_
 rotate_left
 ·intro w hSw; (try dsimp only at hSw); go_simp; try with_reducible rfl
 try simp only [Act.put, pq]
 refine tkE (i := 1) (d := 18) (v := ?_) rfl (Or.inl ⟨by rfl, ?_⟩) hS0 ?_
 rotate_left
 ·intro w hSw; (try dsimp only at hSw); have hrow := hSw; refine exec_load_row (x := .tmp 3) ?_ B ?_ _ _ _ hrow Tryz.underlying31 Tryz.lawInfo <;> rfl
 try simp only [Act.put, pq]
 refine tkE (i := 2) (d := 19) (v := ?_) rfl (Or.inl ⟨by rfl, ?_⟩) hS0 ?_
 rotate_left
 ·intro w hSw; (try dsimp only at hSw); go_simp; try with_reducible rfl
 try simp only [Act.put, pq]
 refine tkE (i := 3) (d := 20) (v := ?_) rfl (Or.inl ⟨by rfl, ?_⟩) hS0 ?_
 rotate_left
 ·intro w hSw; (try dsimp only at hSw); go_simp; try with_reducible rfl
 try simp only [Act.put, pq]
 refine tkE (i := 4) (d := 21) (v := ?_) rfl (Or.inl ⟨by rfl, ?_⟩) hS0 ?_
 rotate_left
 ·intro w hSw; (try dsimp only at hSw); go_simp; try with_reducible rfl
 try simp only [Act.put, pq]
 refine tkE (i := 5) (d := 22) (v := ?_) rfl (Or.inl ⟨by rfl, ?_⟩) hS0 ?_
 rotate_left
 ·intro w hSw; (try dsimp only at hSw); go_simp; try with_reducible rfl
 try simp only [Act.put, pq]
 refine tkE (i := 6) (d := 23) (v := ?_) rfl (Or.inl ⟨by rfl, ?_⟩) hS0 ?_
 rotate_left
 ·intro w hSw; (try dsimp only at hSw); go_simp; try with_reducible rfl
 try simp only [Act.put, pq]
 refine tkE (i := 7) (d := 24) (v := ?_) rfl (Or.inl ⟨by rfl, ?_⟩) hS0 ?_
 rotate_left
 ·intro w hSw; (try dsimp only at hSw); go_simp; try with_reducible rfl
 try simp only [Act.put, pq]
 refine wpAnyE_ready (rs := [8]) (by kernel_rfl) (by simp) ?_
 refine AllReadyE.cons rfl (fun K hK => ?_) AllReadyE.nil
 (try rw [if_pos (show Region.wanted _ _ = true from rfl)])
 go_simp
 refine (HPUT.out _ (hE2.drew)).mono ?_
 rintro e w5 ⟨u5, rfl, hO5, hN5⟩
 have hE5 : Ext w w5 := (hE2.drew).trans hN5
 have hL5 := hN5.keep (drew_keep HL2.out)
 obtain ⟨po, pc, rfl⟩ := own_slice hO5
 have hW5 : Rd w5 (.slice po N4 pc) N4 2 (sndL M) := Rd.of_own hO5
 have hO25 := own_ext HO2.out (Turn.trans (Turn.drew (Turn.refl (fun _ => False) w2)) hN5)
 have hz5 : B + 1 ≤ w5.heap.size := by have := hN5.size; have h3 : w2.drew.heap.size = w2.heap.size := rfl; omega
 refine hK.out _ _ hL5 (fun hS5 => ?_)
 clear hK K
 try simp only [Act.put, pq]
 refine wpAnyE_ready (rs := [9]) (by kernel_rfl) (by simp) ?_
 refine AllReadyE.cons rfl (fun K hK => ?_) AllReadyE.nil
 (try rw [if_pos (show Region.wanted _ _ = true from rfl)])
 refine append_rdO (.tmp 17) (.tmp 25) 28 rfl (B + 1) 24 _ 2 8 Tryz.underlying28 @infoS rfl (by decide) _ _ _ rfl hO25 _ _ _ _ rfl hW5 (one_sndL _) (by unfold maxLen; omega) (by omega) (by have := HB.out; omega) ?_
 intro ao6 x6 w6 hO6 hT6 _
 have hL6 := hT6.heap hL5 (fun e => by have := (HO2.out.lt _ e).1; omega)
 have hE6 : Ext w w6 := hE5.after hT6 (fun b hb e => by have := (HO2.out.lt _ e).1; have := HB.out; omega)
 have hz6 := hT6.size
 refine hK.out _ _ hL6 (fun hS6 => ?_)
 clear hK K
 try simp only [Act.put, List.setIfInBounds_toArray]
 refine tkE (i := 10) (d := 8) (v := ?_) rfl (Or.inl ⟨by rfl, ?_⟩) hS6 ?_
 rotate_left
 ·intro w hSw; (try dsimp only at hSw); go_simp; try with_reducible rfl
 try simp only [Act.put]
 refine wpAnyE_done (by kernel_rfl) ?_ _
 have hr36 := HR3.out.ext hE6
 have HR6 := Lib.hid hr36; have HO6 := Lib.hid hO6
 clear hr36 hO6 hW5 hO25 hL5 hL6 hS6 hS5 hS0 hsum
 go_wp2_with (at_builtin; refine append_rd rfl (.tmp 27) (.tmp 32) 28 rfl (B + 1) 24 _ 2 8 Tryz.underlying28 @infoS rfl (by decide) _ _ _ rfl HO6.out _ _ _ _ rfl HR6.out (one_sndL _) ?g3 ?g4 ?g5 ?_)
 case g3 => unfold maxLen; omega
 case g4 => omega
 case g5 => have := HB.out; omega
 intro ao7 x7 w7 hO7 hT7 _
 have hE7 : Ext w w7 := hE6.after hT7 (fun b hb e => by have := (HO6.out.lt _ e).1; have := HB.out; omega)
 have HO7 := Lib.hid hO7
 clear hO7 hT7
 go_wp2
 go_ret
 exact ⟨_, rfl, by rw [HFS.out]; refine own_base (base := B + 1) ?_ (by have := HB.out; omega); exact HO7.out, hE7⟩


theorem rlonce_any {w : World} {l : LawD} {cs : List Value} {vo : Option Addr} {vc : Nat} {ws : Wd} (hl : LawAt w l cs) (hv : WordAt w (.slice vo ws.length vc) ws) (hcap : ws.length ≤ vc) (z : Int) :
  Calls Tryz.prog 28 #[.agg cs.toArray, .slice vo ws.length vc, .int .i64 z] w fun e w' => ∃ u, e = .returned (.tuple #[u, .int .i64 (onceE l ws z)]) ∧ w'.ownsRow w.heap.size 24 2 u (onceW l ws z).length (sndL (onceW l ws z)) ∧ Ext w w' := by
 have hck := fun (V : World) (hE : Ext w V) => rlwcheck_any (hl.ext hE) (hv.ext hE)
 have hhi : lawW l ws = 0 → ∀ (i : Nat), i ≤ ws.length → ∀ V, Ext w V → Calls Tryz.prog 59 #[.agg cs.toArray, .slice vo ws.length vc, .int .i64 i] V fun e w' => e = .returned (.bool (hitL l ws i)) ∧ Ext V w' := by
  intro h0 i hi V hE
  obtain ⟨hlaw, hw0⟩ := lawW_zero h0
  obtain ⟨hk4, _⟩ := lawB_parts hlaw
  have hwl := wE_le hw0
  exact rhit_any (hl.ext hE) (hv.ext hE) rfl i (by omega) (by omega)
 have hre : lawW l ws = 0 → ∀ (i : Nat), hitL l ws i = true → ∀ V, Ext w V → Calls Tryz.prog 68 #[.agg cs.toArray, .slice vo ws.length vc, .int .i64 i] V fun e w' => ∃ u, e = .returned u ∧ w'.ownsRow V.heap.size 24 2 u (replL l ws i).length (sndL (replL l ws i)) ∧ Ext V w' := by
  intro h0 i hi V hE
  obtain ⟨hlaw, hw0⟩ := lawW_zero h0
  obtain ⟨hk4, hm6, _, _, hfits, _⟩ := lawB_parts hlaw
  have hwl := wE_le hw0
  exact rreplace_any (hl.ext hE) (hv.ext hE) rfl hcap i (hit_le hi) hfits (by omega) (by omega)
 have hrl : lawW l ws = 0 → ∀ (i : Nat), hitL l ws i = true → (replL l ws i).length ≤ 100 := by
  intro h0 i hi
  obtain ⟨hlaw, hw0⟩ := lawW_zero h0
  obtain ⟨hk4, hm6, _⟩ := lawB_parts hlaw
  have hwl := wE_le hw0
  have := replL_length (l := l) (hit_le hi)
  omega
 have HOE : Hid (onceE l ws z = if lawW l ws = 0 then (if z < 0 ∨ (ws.length : Int) < z then 3 else if hitL l ws z.toNat = false then 5 else if 32 < (replL l ws z.toNat).length then 11 else 0) else lawW l ws) := Lib.hid rfl
 have HOW : Hid (onceW l ws z = if onceE l ws z = 0 then replL l ws z.toNat else []) := Lib.hid rfl
 have hlm := hv.1.2.1
 unfold maxLen at hlm
 obtain ⟨wn, hwn⟩ : ∃ n, ws.length = n := ⟨_, rfl⟩
 rw [hwn] at hck hhi hre HOE hlm ⊢
 obtain ⟨nm, k1, p1, m1, n1, a1, b1, o1, N1, c1, k2, p2, m2, n2, a2, b2, o2, N2, c2, io, N3, ic, oo, N4, oc, md, rfl, HLA, HPL, HPR, HIF, HOU, HNM, HN1, HN2, HN3, HN4, HMD, q0, q1, q2, q3, q4⟩ := law_gen hl
 obtain ⟨R, hR⟩ : ∃ R, lawW l ws = R := ⟨_, rfl⟩
 obtain ⟨E, hE⟩ : ∃ R, onceE l ws z = R := ⟨_, rfl⟩
 obtain ⟨U, hU⟩ : ∃ R, onceW l ws z = R := ⟨_, rfl⟩
 rw [hR] at hck hhi hre hrl HOE
 rw [hE] at HOE HOW ⊢
 rw [hU] at HOW ⊢
 have HCK := Lib.hid hck; have HHI := Lib.hid hhi; have HRE := Lib.hid hre; have HRL := Lib.hid hrl
 clear hl hv hwn hck hhi hre hrl hR hE hU
 obtain ⟨w0, hw0⟩ : ∃ D, w.alloc (.cells #[.string nm, .int .i64 k1, .int .u32 (p1 : Int), .int .u32 (m1 : Int), .bool n1, .int .i64 a1, .int .i64 b1, .slice o1 N1 c1, .int .i64 k2, .int .u32 (p2 : Int), .int .u32 (m2 : Int), .bool n2, .int .i64 a2, .int .i64 b2, .slice o2 N2 c2, .slice io N3 ic, .slice oo N4 oc, .int .i64 md] 31) = D := ⟨_, rfl⟩
 have hE0 : Ext w w0 := by rw [← hw0]; exact (Turn.refl _ w).alloc _
 have hl0 : w0.heap[w.heap.size]? = some (.cells #[.string nm, .int .i64 k1, .int .u32 (p1 : Int), .int .u32 (m1 : Int), .bool n1, .int .i64 a1, .int .i64 b1, .slice o1 N1 c1, .int .i64 k2, .int .u32 (p2 : Int), .int .u32 (m2 : Int), .bool n2, .int .i64 a2, .int .i64 b2, .slice o2 N2 c2, .slice io N3 ic, .slice oo N4 oc, .int .i64 md] 31 (0, 0)) := by rw [← hw0]; exact new_at rfl
 have HL0 := Lib.hid hl0; have HW0 := Lib.hid hw0
 clear hl0 hw0
 go_enter Tryz.func28, Tryz.ntmps28
 go_upto_region 1 with (fail)
 rw [HW0.out]
 obtain ⟨B, hB⟩ : ∃ b, w.heap.size = b := ⟨_, rfl⟩
 have HBW := Lib.hid hB
 rw [hB] at HL0 ⊢
 clear hB HW0
 go_wp2_with (refine wpList_load_row rfl 31 (.tmp 3) rfl B rfl _ _ _ _ HL0.out Tryz.underlying31 rfl Tryz.lawInfo ?_)
 refine (HCK.out _ hE0).mono ?_
 rintro e w1 ⟨rfl, hN⟩
 have hE1 := hE0.trans hN
 have HL1 := Lib.hid (hN.keep HL0.out)
 clear hN hE0 HL0
 by_cases h0 : R = 0
 case neg =>
  have h1 : (R != 0) = true := by rw [bne_iff_ne]; exact h0
  have HE : Hid (E = R) := Lib.hid (by rw [HOE.out, if_neg h0])
  have HU : Hid (U = []) := Lib.hid (by rw [HOW.out, if_neg (by rw [HE.out]; exact h0)])
  go_wp2
  go_ret2
  exact ⟨_, by rw [HE.out]; rfl, by rw [HU.out]; exact own_nilS, hE1⟩
 have hz9 : (R != 0) = false := by rw [h0]; rfl
 have HOE1 : Hid (E = if z < 0 ∨ (wn : Int) < z then 3 else if hitL l ws z.toNat = false then 5 else if 32 < (replL l ws z.toNat).length then 11 else 0) := Lib.hid (by rw [HOE.out, if_pos h0])
 have HHI1 := Lib.hid (HHI.out h0); have HRE1 := Lib.hid (HRE.out h0); have HRL1 := Lib.hid (HRL.out h0)
 clear HOE HHI HRE HRL h0
 by_cases hz0 : z < 0
 ·have HE : Hid (E = 3) := Lib.hid (by rw [HOE1.out, if_pos (.inl hz0)])
  have HU : Hid (U = []) := Lib.hid (by rw [HOW.out, if_neg (by rw [HE.out]; decide)])
  go_wp2
  go_ret2
  exact ⟨_, by rw [HE.out]; rfl, by rw [HU.out]; exact own_nilS, hE1⟩
 by_cases hz1 : (wn : Int) < z
 ·have HE : Hid (E = 3) := Lib.hid (by rw [HOE1.out, if_pos (.inr hz1)])
  have HU : Hid (U = []) := Lib.hid (by rw [HOW.out, if_neg (by rw [HE.out]; decide)])
  go_wp2
  go_ret2
  exact ⟨_, by rw [HE.out]; rfl, by rw [HU.out]; exact own_nilS, hE1⟩
 obtain ⟨i, rfl⟩ := Int.eq_ofNat_of_zero_le (show 0 ≤ z by omega)
 have HOE2 : Hid (E = if hitL l ws i = false then 5 else if 32 < (replL l ws i).length then 11 else 0) := Lib.hid (by rw [HOE1.out, if_neg (fun q => q.elim hz0 hz1)]; rfl)
 have HOW2 : Hid (U = if E = 0 then replL l ws i else []) := Lib.hid (by rw [HOW.out]; rfl)
 clear HOE1 HOW
 have hhc := HHI1.out i (by omega) w1 hE1
 obtain ⟨hb, hhb⟩ : ∃ b, hitL l ws i = b := ⟨_, rfl⟩
 rw [hhb] at hhc HOE2
 have HHC := Lib.hid hhc; have HHB := Lib.hid hhb
 clear hhc hhb HHI1
 go_wp2_with (refine wpList_load_row rfl 31 (.tmp 3) rfl B rfl _ _ _ _ HL1.out Tryz.underlying31 rfl Tryz.lawInfo ?_)
 refine HHC.out.mono ?_
 rintro e w2 ⟨rfl, hN⟩
 have hE2 := hE1.trans hN
 have HL2 := Lib.hid (hN.keep HL1.out)
 clear hN hE1 HL1 HHC
 cases hb
 ·have HE : Hid (E = 5) := Lib.hid (by rw [HOE2.out]; rfl)
  have HU : Hid (U = []) := Lib.hid (by rw [HOW2.out, if_neg (by rw [HE.out]; decide)])
  go_wp2
  go_ret2
  exact ⟨_, by rw [HE.out]; rfl, by rw [HU.out]; exact own_nilS, hE2⟩
 have hrc := HRE1.out i HHB.out w2 hE2
 have hrl := HRL1.out i HHB.out
 obtain ⟨r, hr⟩ : ∃ r, replL l ws i = r := ⟨_, rfl⟩
 rw [hr] at hrc hrl HOE2 HOW2
 obtain ⟨rn, hrn⟩ : ∃ n, r.length = n := ⟨_, rfl⟩
 rw [hrn] at hrc hrl HOE2
 have HRC := Lib.hid hrc; have HRN := Lib.hid hrn
 clear hrc hr hrn HRE1 HRL1
 go_wp2_with (refine wpList_load_row rfl 31 (.tmp 3) rfl B rfl _ _ _ _ HL2.out Tryz.underlying31 rfl Tryz.lawInfo ?_)
 refine HRC.out.mono ?_
 rintro e w3 ⟨u, rfl, hO, hN⟩
 have hE3 := hE2.trans hN
 obtain ⟨uo, uc, rfl⟩ := own_slice hO
 have hbz := hE2.size
 have HO := Lib.hid (own_base hO (by have := HBW.out; omega : w.heap.size ≤ w2.heap.size))
 clear hO hN hE2 HL2 HRC
 by_cases h32 : 32 < rn
 ·have h33 : (32 : Int) < (rn : Int) := by omega
  have HE : Hid (E = 11) := Lib.hid (by rw [HOE2.out, if_neg (by decide), if_pos h32])
  have HU : Hid (U = []) := Lib.hid (by rw [HOW2.out, if_neg (by rw [HE.out]; decide)])
  go_wp2
  go_ret2
  exact ⟨_, by rw [HE.out]; rfl, by rw [HU.out]; exact own_nilS, hE3⟩
 ·have h33 : ¬ (32 : Int) < (rn : Int) := by omega
  have HE : Hid (E = 0) := Lib.hid (by rw [HOE2.out, if_neg (by decide), if_neg h32])
  have HU : Hid (U = r) := Lib.hid (by rw [HOW2.out, if_pos HE.out])
  go_wp2
  go_ret2
  exact ⟨_, by rw [HE.out]; rfl, by rw [HU.out, HRN.out]; exact HO.out, hE3⟩


theorem ronce_one {w : World} {l : LawD} {cs : List Value} {vo : Option Addr} {vc : Nat} {ws : Wd} (hl : LawAt w l cs) (hv : WordAt w (.slice vo ws.length vc) ws) (hcap : ws.length ≤ vc) (z : Int) :
  Calls Tryz.prog 28 #[.agg cs.toArray, .slice vo ws.length vc, .int .i64 z] w fun e w' => ∃ u, e = .returned (.tuple #[u, .int .i64 (onceE l ws z)]) ∧ OneW w' u (onceW l ws z) ∧ Ext w w' :=
 (rlonce_any hl hv hcap z).mono fun _ _ ⟨u, h1, h2, h3⟩ => ⟨u, h1, OneW.of_own h2 (onceW_ok hl hv.2 z), h3⟩
end Go.Proofs.YtedhogbocifipaaGreatDoor
