/- ablautref08.all (printed by genrefall.py). ablautref08.left (printed by genrefrun.py). -/
import Derived.Test.YtedhogbocifipaaGreatDoorGa35
import Derived.Test.YtedhogbocifipaaGreatDoorGa33
import Derived.Test.YtedhogbocifipaaGreatDoorGa12
import Derived.Test.YtedhogbocifipaaGreatDoorRunA
set_option maxRecDepth 100000
set_option maxHeartbeats 16000000
namespace Go.Proofs.YtedhogbocifipaaGreatDoor
open Go.RowKit Go.Ab
attribute [local go_sem] Oper.semAt_some wide_fn wide_depth

def Off (dv : Value) (vals : List Value) : Prop := ∀ x ∈ vals, KeptIn (fun g => dv.ownBlock ≠ some g) x
theorem Off.same {dv dv' : Value} {vals : List Value} {W : World} (h : Off dv vals) (hk : ∀ x ∈ vals, KeptIn (fun g => g < W.heap.size) x) (hb : dv'.ownBlock = dv.ownBlock ∨ ∃ k, W.heap.size ≤ k ∧ dv'.ownBlock = some k) : Off dv' vals := fun x hx g o n c e h0 => by
 rcases hb with hb | ⟨k, h1, h2⟩
 ·rw [hb]; exact h x hx g o n c e h0
 ·rw [h2]; intro q; cases q; have := hk x hx g o n c e h0; omega
theorem TrP.low {b : Nat} {W : World} {u v : Value} {vals : List Value} {tr : List (Nat × Wd)} (h : TrP b W u v vals tr) : ∀ x ∈ vals, KeptIn (fun g => g < W.heap.size) x := fun x hx => (h.wk x hx).mono fun _ hg => hg.1
/-- Another row is turned, which lies apart from all of these. -/
theorem TrP.turn {b : Nat} {A B : World} {u v dv : Value} {vals : List Value} {tr : List (Nat × Wd)} {b3 n3 : Nat} {x3 : List Value} (h : TrP b A u v vals tr) (hd : A.ownsRow b3 24 2 dv n3 x3) (ht : Turn (fun g => dv.ownBlock = some g) A B) (ho : Off dv vals) : TrP b B u v vals tr :=
 ⟨own_keep h.ou ht (fun g hg e => own_ne h.ou hd (by decide) g hg e), own_keep h.ov ht (fun g hg e => own_ne h.ov hd (by decide) g hg e), h.wd.keepS (S := fun g => dv.ownBlock ≠ some g) (ht.mono fun _ _ e hn => hn e) ho, fun x hx => (h.wk x hx).mono fun g hg => ⟨Nat.lt_of_lt_of_le hg.1 ht.size, hg.2⟩⟩
theorem take_one {ws : Wd} {i : Nat} (h : i < ws.length) : (ws.drop i).take 1 = [ws.getD i (0, 0)] := by
 rw [List.drop_eq_getElem_cons h, List.getD_eq_getElem?_getD, List.getElem?_eq_getElem h]; rfl
theorem take_none {ws : Wd} {i : Nat} (h : ws.length ≤ i) : (ws.drop i).take 1 = [] := by rw [List.drop_of_length_le h]; rfl

theorem rall_any {w : World} {l : LawD} {cs : List Value} {vo : Option Addr} {vc : Nat} {ws : Wd} (hl : LawAt w l cs) (hv : WordAt w (.slice vo ws.length vc) ws) (hcap : ws.length ≤ vc) (hlaw : lawB l = true) (hmode : l.mode = 1) (hwl : ws.length ≤ 32) :
  Calls Tryz.prog 61 #[.agg cs.toArray, .slice vo ws.length vc] w fun e w' => ∃ u v, e = .returned (.tuple #[u, v, .int .i64 (runE (traceL l ws))]) ∧ TrOut w.heap.size w' u v (runT (traceL l ws)) ∧ Ext w w' := by
 obtain ⟨hk4, hm6, hkm, _, hfits, _, _, _⟩ := lawB_parts hlaw
 have hhit := fun (V : World) (hE : Ext w V) (i : Nat) (hi : i ≤ ws.length) => rhit_any (hl.ext hE) (hv.ext hE) rfl i (by omega) (by omega)
 have hput := fun (V : World) (hE : Ext w V) (v : Value) (cut : Wd) (hc : WordAt V v cut) (hn : cut.length = l.ifs.length) => rlput_any (hl.ext hE) hc (by rw [hn]; exact hfits) (by omega)
 have hok : ∀ (cut : Wd), WdOk cut → WdOk (putL l cut) := fun cut hc => by
  obtain ⟨_, _, _, _, _, _, _, _, _, ho⟩ := hl
  exact putL_ok hc ho.2
 have hst : AllR l ws [] [] 0 := AllR.start hmode
 have hpl := putL_length l
 obtain ⟨nm, k1, p1, m1, n1, a1, b1, o1, N1, c1, k2, p2, m2, n2, a2, b2, o2, N2, c2, io, N3, ic, oo, N4, oc, md, rfl, HLA, HPL, HPR, HIF, HOU, HNM, HN1, HN2, HN3, HN4, HMD, q0, q1, q2, q3, q4⟩ := law_gen hl
 obtain ⟨TT, hT⟩ : ∃ R, traceL l ws = R := ⟨_, rfl⟩
 rw [hT]
 rw [HN3.out] at hk4 hkm hput
 rw [HN4.out] at hm6 hkm hpl hput
 obtain ⟨wn, hwn⟩ : ∃ n, ws.length = n := ⟨_, rfl⟩
 have HVS := Lib.hid hv; have HCAPS := Lib.hid hcap
 rw [hwn] at hv hcap hwl hhit ⊢
 have HHIT := Lib.hid hhit; have HPUTS := Lib.hid hput; have HOK := Lib.hid hok; have HT := Lib.hid hT; have HST := Lib.hid hst; have HV := Lib.hid hv; have HWN := Lib.hid hwn; have HPLL := Lib.hid hpl
 clear hl hv hhit hput hok hT hst hfits hlaw hmode HIF HOU HPL HPR HLA hwn hpl
 go_enter Tryz.func61, Tryz.ntmps61
 go_upto_region 1 with (fail)
 obtain ⟨w1, hw1⟩ : ∃ D, w.alloc (.cells #[.string nm, .int .i64 k1, .int .u32 (p1 : Int), .int .u32 (m1 : Int), .bool n1, .int .i64 a1, .int .i64 b1, .slice o1 N1 c1, .int .i64 k2, .int .u32 (p2 : Int), .int .u32 (m2 : Int), .bool n2, .int .i64 a2, .int .i64 b2, .slice o2 N2 c2, .slice io N3 ic, .slice oo N4 oc, .int .i64 md] 31) = D := ⟨_, rfl⟩
 have hE1 : Ext w w1 := by rw [← hw1]; exact (Turn.refl _ w).alloc _
 have hl1 : w1.heap[w.heap.size]? = some (.cells #[.string nm, .int .i64 k1, .int .u32 (p1 : Int), .int .u32 (m1 : Int), .bool n1, .int .i64 a1, .int .i64 b1, .slice o1 N1 c1, .int .i64 k2, .int .u32 (p2 : Int), .int .u32 (m2 : Int), .bool n2, .int .i64 a2, .int .i64 b2, .slice o2 N2 c2, .slice io N3 ic, .slice oo N4 oc, .int .i64 md] 31 (0, 0)) := by rw [← hw1]; exact new_at rfl
 have hs1 : w1.heap.size = w.heap.size + 1 := by rw [← hw1]; simp
 rw [hw1]
 obtain ⟨B, hB⟩ : ∃ b, w.heap.size = b := ⟨_, rfl⟩
 rw [hB] at hl1 hs1 ⊢
 have HL1 := Lib.hid hl1; have HB := Lib.hid hB; have HS1 := Lib.hid hs1
 clear hw1 hB hl1 hs1
 go_wp2
 refine wp_loop (fun a W => ∃ (i : Nat) (tr : List (Nat × Wd)) (d : Wd) (dn tn : Nat) (po qo dno : Option Addr) (pc qc dnc : Nat) (vals : List Value), a.defers = [] ∧ (a.tmps.size = 88 ∧ a.tmps.getD 1 undef = .slice vo wn vc ∧ a.tmps.getD 2 undef = .pointer (some ⟨B, 0, none⟩) ∧ a.tmps.getD 7 undef = .slice po tn pc ∧ a.tmps.getD 8 undef = .slice qo tn qc ∧ a.tmps.getD 9 undef = .slice dno dn dnc ∧ a.tmps.getD 10 undef = .int .i64 i) ∧ AllR l ws tr d i ∧ longT tr = false ∧ d.length = dn ∧ tr.length = tn ∧ W.ownsRow (B + 1) 24 2 (.slice dno dn dnc) dn (sndL d) ∧ WdOk d ∧ Off (.slice dno dn dnc) vals ∧ TrP (B + 1) W (.slice po tn pc) (.slice qo tn qc) vals tr ∧ Ext w1 W)
  (fun a _ => wn + 1 - (intOf (a.tmps.getD 10 undef)).toNat) ?_ ?_
 ·exact ⟨0, [], [], 0, 0, none, none, none, 0, 0, 0, [], rfl, ⟨rfl, rfl, rfl, rfl, rfl, rfl, rfl⟩, HST.out, rfl, rfl, rfl, World.ownsRow_nil _ _ _ _, (by simp [WdOk]), (fun x hx => by cases hx), TrP.nil _ _, Turn.refl _ _⟩
 clear HST
 rintro ⟨t, _⟩ V ⟨i, tr, d, dn, tn, po, qo, dno, pc, qc, dnc, vals, hds, ⟨hsz, f1, f2, f7, f8, f9, f10⟩, hat, hlong, hdn, htn, hd, hdok, hoff, hP, hE⟩
 subst hds
 obtain ⟨u', hu⟩ := frame_fun hsz
 obtain ⟨u, rfl⟩ : ∃ x, x = u' := ⟨_, rfl⟩
 have hu' : t = #[u 0, u 1, u 2, u 3, u 4, u 5, u 6, u 7, u 8, u 9, u 10, u 11, u 12, u 13, u 14, u 15, u 16, u 17, u 18, u 19, u 20, u 21, u 22, u 23, u 24, u 25, u 26, u 27, u 28, u 29, u 30, u 31, u 32, u 33, u 34, u 35, u 36, u 37, u 38, u 39, u 40, u 41, u 42, u 43, u 44, u 45, u 46, u 47, u 48, u 49, u 50, u 51, u 52, u 53, u 54, u 55, u 56, u 57, u 58, u 59, u 60, u 61, u 62, u 63, u 64, u 65, u 66, u 67, u 68, u 69, u 70, u 71, u 72, u 73, u 74, u 75, u 76, u 77, u 78, u 79, u 80, u 81, u 82, u 83, u 84, u 85, u 86, u 87] := hu
 clear hu
 subst hu'
 change u 1 = _ at f1
 change u 2 = _ at f2
 change u 7 = _ at f7
 change u 8 = _ at f8
 change u 9 = _ at f9
 change u 10 = _ at f10
 rw [f1, f2, f7, f8, f9, f10]
 clear f1 f2 f7 f8 f9 f10 hsz
 have HLV := Lib.hid (hE.keep HL1.out)
 have hE2 := hE1.trans hE
 have hcnt : tn ≤ 33 := by obtain ⟨_, _, h2, _⟩ := hat; have := HWN.out; omega
 have hi33 : i ≤ wn + 1 := by obtain ⟨_, _, _, h4⟩ := hat; have := HWN.out; omega
 have hdn9 : i ≤ wn → dn ≤ 232 := fun hi => by
  obtain ⟨_, h2, h3, _⟩ := hat
  have h2 := h2 (by rw [HWN.out]; exact hi)
  rw [hdn, HN3.out, HN4.out] at h2
  have := few (t := tr.length) (n := 33) (m := N4) (by rw [htn]; exact hcnt) hm6 (by omega)
  omega
 have HDN9 := Lib.hid hdn9
 have HAT := Lib.hid hat; have HLG := Lib.hid hlong; have HDN := Lib.hid hdn; have HTN := Lib.hid htn; have HD0 := Lib.hid hd; have HDOK := Lib.hid hdok; have HOFF := Lib.hid hoff; have HP := Lib.hid hP
 clear hdn9 hat hlong hdn htn hd hdok hoff hP
 by_cases hend : i ≤ wn
 case neg =>
  have h1 : ¬ ((i : Int) ≤ (wn : Int)) := by omega
  have hdo := HAT.out.done (by rw [HWN.out]; omega)
  rw [HT.out] at hdo
  subst hdo
  obtain ⟨g1, g2⟩ := run_end HLG.out
  have hO := HP.out.out
  rw [← g2] at hO
  have G1 := Lib.hid g1; have HO := Lib.hid hO
  clear g1 g2 hO hend
  go_wp2
  exact bodyPost_ret (results_t3 rfl _ _ _) rfl ⟨_, _, by rw [G1.out]; rfl, HO.out.base (by have := HB.out; omega), hE2⟩
 have h1 : (i : Int) ≤ (wn : Int) := by omega
 have hdn9 := HDN9.out hend
 have hhc := HHIT.out V hE2 i hend
 obtain ⟨q, hq⟩ : ∃ q, hitL l ws i = q := ⟨_, rfl⟩
 rw [hq] at hhc
 have HHC := Lib.hid hhc; have HQ := Lib.hid hq
 clear hhc hq HDN9
 go_wp2_with (refine wpList_load_row rfl 31 (.tmp 2) rfl B rfl _ _ _ _ HLV.out Tryz.underlying31 rfl Tryz.lawInfo ?_)
 refine HHC.out.mono ?_
 rintro e W ⟨rfl, hN⟩
 have hE3 := hE2.trans hN
 have hE13 := hE.trans hN
 have HLW := Lib.hid (hN.keep HLV.out)
 have HD := Lib.hid (own_ext HD0.out hN); have HP3 := Lib.hid (HP.out.ext hN)
 have hzW : B + 1 ≤ W.heap.size := by have := hE13.size; have := HS1.out; omega
 clear hN HLV HD0 HP HHC hE2 hE
 have hcell : ∀ (D : World), Ext w D → i < wn → ∃ g off sa sb, vo = some ⟨g, off, none⟩ ∧ (ws.getD i (0, 0)) = (sa, sb) ∧ D.cell? ⟨g, off + i * 2, none⟩ = some (.int .u32 (sa : Int)) ∧ D.cell? ⟨g, off + i * 2 + 1, none⟩ = some (.int .u32 (sb : Int)) ∧ lt32 (sa, sb) := fun D hD hi => by
  obtain ⟨g, off, cap', hq2, hg, c0, c1⟩ := (HVS.out.ext hD).at (i := i) (by rw [HWN.out]; exact hi)
  cases hq2
  exact ⟨g, off, _, _, rfl, rfl, c0, c1, HVS.out.2.get i (by rw [HWN.out]; exact hi)⟩
 have HCELL := Lib.hid hcell
 clear hcell
 cases q
 ·have hm := HAT.out.miss (by rw [HWN.out]; exact hend) HQ.out
  have HM := Lib.hid hm
  clear hm HAT
  by_cases hiw : i < wn
  ·have h2 : (i : Int) < (wn : Int) := by omega
   obtain ⟨g, off, sa, sb, rfl, hgd, c0, c1, hlt⟩ := HCELL.out W hE3 hiw
   have hnx := HM.out
   rw [take_one (by rw [HWN.out]; exact hiw), hgd] at hnx
   have HNX := Lib.hid hnx; have HGD := Lib.hid hgd
   clear hnx hgd HM
   go_wp2_with (at_builtin; refine append_row rfl (.tmp 26) (.tmp 31) 28 rfl (B + 1) 24 _ 2 8 Tryz.underlying28 @infoS rfl (by decide) _ _ _ rfl (own_ext HD.out ((Turn.refl _ W).alloc _)) ⟨W.heap.size, 0, none⟩ 1 1 [.int .u32 (sa : Int), .int .u32 (sb : Int)] rfl rfl (new_cells' rfl) (one_snd2 _ _) ?b3 ?b4 ?b5 ?_)
   case b3 => unfold maxLen; omega
   case b4 => omega
   case b5 => first | omega | (simp; omega)
   intro eo ec W3 hD3 hT3 hB3
   have t3 : Turn (fun b => (Value.slice dno dn dnc).ownBlock = some b) W W3 := Turn.trans ((Turn.refl _ W).alloc _) hT3
   have hB3' : (Value.slice eo (dn + 1) ec).ownBlock = (Value.slice dno dn dnc).ownBlock ∨ ∃ k, W.heap.size ≤ k ∧ (Value.slice eo (dn + 1) ec).ownBlock = some k := hB3.imp id fun e => ⟨_, by first | omega | simp | (simp; omega), e⟩
   have hP9 := HP3.out.turn HD.out t3 HOFF.out
   have hO9 := HOFF.out.same HP3.out.low hB3'
   have hE9 : Ext w1 W3 := hE13.after t3 (fun b hb e => by have := (HD.out.lt _ e).1; have := HS1.out; omega)
   have hd9 : W3.ownsRow (B + 1) 24 2 (.slice eo (dn + 1) ec) (dn + 1) (sndL (d ++ [(sa, sb)])) := by rw [sndL_append]; exact hD3
   have HP9 := Lib.hid hP9; have HO9 := Lib.hid hO9; have HD9 := Lib.hid hd9
   clear hP9 hO9 hd9 hD3 t3 hT3 hB3 hB3' c0 c1
   go_wp2
   exact ⟨⟨i + 1, tr, _, dn + 1, tn, po, qo, eo, pc, qc, ec, vals, by first | rfl | trivial, ⟨rfl, rfl, rfl, rfl, rfl, rfl, rfl⟩, HNX.out, HLG.out, (by rw [List.length_append, HDN.out]; rfl), HTN.out, HD9.out, (fun s hs => by rcases List.mem_append.1 hs with hs | hs; exact HDOK.out s hs; simp only [List.mem_singleton] at hs; subst hs; exact hlt), HO9.out, HP9.out, hE9⟩, by simp [intOf]; omega⟩
  ·have h2 : ¬ ((i : Int) < (wn : Int)) := by omega
   have hnx := HM.out
   rw [take_none (by rw [HWN.out]; omega), List.append_nil] at hnx
   have HNX := Lib.hid hnx
   clear hnx HM
   go_wp2
   exact ⟨⟨i + 1, tr, d, dn, tn, po, qo, dno, pc, qc, dnc, vals, by first | rfl | trivial, ⟨rfl, rfl, rfl, rfl, rfl, rfl, rfl⟩, HNX.out, HLG.out, HDN.out, HTN.out, HD.out, HDOK.out, HOFF.out, HP3.out, hE13⟩, by simp [intOf]; omega⟩
 obtain ⟨hnx0, hnx1, ⟨rest, hspl⟩, hdl, hik⟩ := HAT.out.hit HQ.out
 rw [HN3.out] at hnx0 hnx1 hik
 rw [HWN.out] at hik
 -- the slices
 have hw2 : WordAt W _ _ := WordAt.cut (HVS.out.ext hE3) (a := i) (b := i + N3) (by omega) (by rw [HWN.out]; exact hik) HCAPS.out
 have hw3 : WordAt W _ _ := WordAt.cut (HVS.out.ext hE3) (a := i + N3) (b := ws.length) (by rw [HWN.out]; exact hik) (by omega) HCAPS.out
 rw [show i + N3 - i = N3 by omega] at hw2
 rw [take_mid rfl, HWN.out] at hw3
 have s2 := fun D => slice_lh (A := vo) (n := wn) (c := vc) under_snd size_snd i (i + N3) (by omega) (by omega) D
 have s3 := fun D => slice_l (A := vo) (n := wn) (c := vc) under_snd size_snd (i + N3) (by omega) D
 simp only [Int.natCast_add] at s2 s3
 obtain ⟨y2, z2', e2', hx2⟩ : ∃ y z e, sliced vo i (i + N3) vc 2 = .slice y z e := ⟨_, _, _, rfl⟩
 obtain ⟨y3, z3, e3', hx3⟩ : ∃ y z e, sliced vo (i + N3) wn vc 2 = .slice y z e := ⟨_, _, _, rfl⟩
 rw [hx2] at hw2 s2
 rw [hx3] at hw3 s3
 clear hx2
 have hmid : ((ws.drop i).take N3).length = N3 := by rw [List.length_take, List.length_drop, HWN.out]; omega
 have hp2 := fun (D : World) (hD : Ext W D) => HPUTS.out D (hE3.trans hD) _ _ (hw2.ext hD) hmid
 have hpok := HOK.out _ hw2.2
 have hpln := HPLL.out ((ws.drop i).take N3)
 have hallD : allD l ws d i = d ++ putL l ((ws.drop i).take N3) := by unfold allD; rw [HN3.out]
 have hallN : allNowW l ws d i = allD l ws d i ++ ws.drop (i + N3) := by unfold allNowW; rw [HN3.out]
 obtain ⟨M, hM⟩ : ∃ M, putL l ((ws.drop i).take N3) = M := ⟨_, rfl⟩
 rw [hM] at hp2 hpok hpln hallD
 rw [hallD] at hallN hnx0 hnx1
 obtain ⟨dd, hdd⟩ : ∃ x, wn - (i + N3) = x := ⟨_, rfl⟩
 obtain ⟨rfl, hr3⟩ := word_rd hw3 (show (ws.drop (i + N3)).length = dd by rw [List.length_drop, HWN.out]; omega)
 have HR3W := Lib.hid hr3; have HW3OK : Hid (WdOk (ws.drop (i + N3))) := Lib.hid hw3.2
 obtain ⟨now, hnow⟩ : ∃ x, allNowW l ws d i = x := ⟨_, rfl⟩
 rw [hnow] at hnx0 hnx1 hspl hallN
 rw [HT.out] at hspl
 have HNL : Hid (now.length = dn + N4 + z3) := Lib.hid (by rw [hallN, List.length_append, List.length_append, HDN.out, hpln, List.length_drop, HWN.out]; omega)
 have HNS : Hid (sndL now = sndL d ++ sndL M ++ sndL (ws.drop (i + N3))) := Lib.hid (by rw [hallN, sndL_append, sndL_append])
 have HDL : Hid ((d ++ M).length = dn + N4) := Lib.hid (by rw [List.length_append, HDN.out, hpln])
 have HDMOK : Hid (WdOk (d ++ M)) := Lib.hid (fun s hs => by rcases List.mem_append.1 hs with hs | hs; exact HDOK.out s hs; exact hpok s hs)
 have HNOK : Hid (WdOk now) := Lib.hid (by rw [hallN]; intro s hs; rcases List.mem_append.1 hs with hs | hs; exact HDMOK.out s hs; exact HW3OK.out s hs)
 have HNX0 := Lib.hid hnx0; have HNX1 := Lib.hid hnx1; have HSPL := Lib.hid hspl; have HX3 := Lib.hid hx3
 have hput1 := hp2 W.drew (Turn.drew (Turn.refl _ W))
 have HPUT := Lib.hid hput1
 clear hput1 hp2 hx3 hw2 hw3 hpok hpln hallD hallN hM hr3 hnow hnx0 hnx1 hspl hdl hmid HDOK HAT
 have cK := cell_of_row _ _ 15 _ _ _ HLW.out
 go_upto_region 11 with (fail)
 clear cK
 have hsum : IntKind.i64.wrap ((i : Int) + (N3 : Int)) = (i : Int) + (N3 : Int) := IntWalk.i64_in _ (by omega)
 refine wp_region_late (S := fun D => D.heap[B]? = some (.cells #[.string nm, .int .i64 k1, .int .u32 (p1 : Int), .int .u32 (m1 : Int), .bool n1, .int .i64 a1, .int .i64 b1, .slice o1 N1 c1, .int .i64 k2, .int .u32 (p2 : Int), .int .u32 (m2 : Int), .bool n2, .int .i64 a2, .int .i64 b2, .slice o2 N2 c2, .slice io N3 ic, .slice oo N4 oc, .int .i64 md] 31 (0, 0))) [] (by kernel_rfl) (drew_keep HLW.out) ?_
 intro hS0
 refine tkE (i := 0) (d := 38) (v := ?_) rfl (Or.inl ⟨by rfl, ?_⟩) hS0 ?_
 rotate_left
 ·intro w hSw; (try dsimp only at hSw); go_simp; try with_reducible rfl
 try simp only [Act.put, pq]
 refine tkE (i := 1) (d := 39) (v := ?_) rfl (Or.inl ⟨by rfl, ?_⟩) hS0 ?_
 rotate_left
 ·intro w hSw; (try dsimp only at hSw); have hrow := hSw; refine exec_load_row (x := .tmp 2) ?_ B ?_ _ _ _ hrow Tryz.underlying31 Tryz.lawInfo <;> rfl
 try simp only [Act.put, pq]
 refine tkE (i := 2) (d := 40) (v := ?_) rfl (Or.inl ⟨by rfl, ?_⟩) hS0 ?_
 rotate_left
 ·intro w hSw; (try dsimp only at hSw); go_simp; try with_reducible rfl
 try simp only [Act.put, pq]
 refine tkE (i := 3) (d := 41) (v := ?_) rfl (Or.inl ⟨by rfl, ?_⟩) hS0 ?_
 rotate_left
 ·intro w hSw; (try dsimp only at hSw); go_simp; try with_reducible rfl
 try simp only [Act.put, pq]
 refine tkE (i := 4) (d := 42) (v := ?_) rfl (Or.inl ⟨by rfl, ?_⟩) hS0 ?_
 rotate_left
 ·intro w hSw; (try dsimp only at hSw); go_simp; try with_reducible rfl
 try simp only [Act.put, pq]
 refine tkE (i := 5) (d := 43) (v := ?_) rfl (Or.inl ⟨by rfl, ?_⟩) hS0 ?_
 rotate_left
 ·intro w hSw; (try dsimp only at hSw); go_simp; try with_reducible rfl
 try simp only [Act.put, pq]
 refine tkE (i := 6) (d := 44) (v := ?_) rfl (Or.inl ⟨by rfl, ?_⟩) hS0 ?_
 rotate_left
 ·intro w hSw; (try dsimp only at hSw); go_simp; try with_reducible rfl
 try simp only [Act.put, pq]
 refine tkE (i := 7) (d := 45) (v := ?_) rfl (Or.inl ⟨by rfl, ?_⟩) hS0 ?_
 rotate_left
 ·intro w hSw; (try dsimp only at hSw); go_simp; try with_reducible rfl
 try simp only [Act.put, pq]
 refine wpAnyE_ready (rs := [8]) (by kernel_rfl) (by simp) ?_
 refine AllReadyE.cons rfl (fun K hK => ?_) AllReadyE.nil
 (try rw [if_pos (show Region.wanted _ _ = true from rfl)])
 go_simp
 refine (HPUT.out).mono ?_
 rintro e W2 ⟨u5, rfl, hO5, hN5⟩
 have e2 : Ext W W2 := (Turn.drew (Turn.refl (fun _ => False) W)).trans hN5
 have hL5 := e2.keep HLW.out
 obtain ⟨xo, xc, rfl⟩ := own_slice hO5
 have hR5 : Rd W2 (.slice xo N4 xc) N4 2 (sndL M) := Rd.of_own hO5
 have hd5 := own_ext HD.out e2
 have zz2 := e2.size
 refine hK.out _ _ hL5 (fun hS5 => ?_)
 clear hK K
 try simp only [Act.put, pq]
 refine wpAnyE_ready (rs := [9]) (by kernel_rfl) (by simp) ?_
 refine AllReadyE.cons rfl (fun K hK => ?_) AllReadyE.nil
 (try rw [if_pos (show Region.wanted _ _ = true from rfl)])
 refine append_rdO (.tmp 38) (.tmp 46) 28 rfl (B + 1) 24 _ 2 8 Tryz.underlying28 @infoS rfl (by decide) _ _ _ rfl hd5 _ _ _ _ rfl hR5 (one_sndL _) (by unfold maxLen; omega) (by omega) (by omega) ?_
 intro eo ec W3 hD3 hT3 hB3
 have hL6 := hT3.heap hL5 (fun e => by have := (hd5.lt _ e).1; omega)
 have zz3 := hT3.size
 refine hK.out _ _ hL6 (fun hS6 => ?_)
 clear hK K
 try simp only [Act.put, List.setIfInBounds_toArray]
 refine tkE (i := 10) (d := 9) (v := ?_) rfl (Or.inl ⟨by rfl, ?_⟩) hS6 ?_
 rotate_left
 ·intro w hSw; (try dsimp only at hSw); go_simp; try with_reducible rfl
 try simp only [Act.put]
 refine wpAnyE_done (by kernel_rfl) ?_ _
 have t3 : Turn (fun b => (Value.slice dno dn dnc).ownBlock = some b) W W3 := (Ext.of e2).trans hT3
 have hB3' : (Value.slice eo (dn + N4) ec).ownBlock = (Value.slice dno dn dnc).ownBlock ∨ ∃ k, W.heap.size ≤ k ∧ (Value.slice eo (dn + N4) ec).ownBlock = some k := hB3.imp id fun e => ⟨_, zz2, e⟩
 have hP4 := HP3.out.turn HD.out t3 HOFF.out
 have hO4 := HOFF.out.same HP3.out.low hB3'
 have hE14 : Ext w1 W3 := hE13.after t3 (fun b hb e => by have := (HD.out.lt _ e).1; have := HS1.out; omega)
 have hE4 : Ext w W3 := hE1.trans hE14
 have hd3 : W3.ownsRow (B + 1) 24 2 (.slice eo (dn + N4) ec) (dn + N4) (sndL (d ++ M)) := by rw [sndL_append]; exact hD3
 have hr33 : Rd W3 (.slice y3 z3 e3') z3 2 (sndL (ws.drop (i + N3))) := by
  have hwx := HVS.out.ext hE4
  have hw3 : WordAt W3 _ _ := WordAt.cut hwx (a := i + N3) (b := ws.length) (by rw [HWN.out]; exact hik) (by omega) HCAPS.out
  rw [take_mid rfl, HWN.out, HX3.out] at hw3
  exact (word_rd hw3 (show (ws.drop (i + N3)).length = z3 by rw [List.length_drop, HWN.out]; omega)).2
 have HP4 := Lib.hid hP4; have HO4 := Lib.hid hO4; have HD3 := Lib.hid hd3; have HR33 := Lib.hid hr33; have HL3 := Lib.hid hL6
 have hz3 : B + 1 ≤ W3.heap.size := by omega
 clear hP4 hO4 hd3 hr33 hD3 hT3 hB3 hB3' t3 hL5 hL6 hd5 hR5 hO5 hS5 hS6 hS0 HD HP3 HOFF HLW HPUT hsum e2 hN5 zz2 s2 hE3 hE13
 have hou := HP4.out.ou
 rw [HTN.out] at hou
 have HOU := Lib.hid hou
 clear hou
 go_wp2_with (at_builtin; refine append_row rfl (.tmp 48) (.tmp 50) 38 rfl (B + 1) 3 _ 1 8 Tryz.underlying38 Tryz.infoI rfl (by decide) _ _ _ rfl (own_ext HOU.out ((Turn.refl _ W3).alloc _)) ⟨W3.heap.size, 0, none⟩ 1 1 [.int .i64 i] rfl rfl (new_cells' rfl) ?c2 ?c3 ?c4 ?c5 ?_)
 case c2 => first | rfl | (intro u hu; simp at hu; rcases hu with rfl; rfl)
 case c3 => unfold maxLen; omega
 case c4 => omega
 case c5 => first | omega | (simp; omega)
 intro ao1 x1 W4 hU1 hT1 hB1
 have t4 : Turn (fun b => (Value.slice po tn pc).ownBlock = some b) W3 W4 := Turn.trans ((Turn.refl _ W3).alloc _) hT1
 have hbu : (Value.slice ao1 (tn + 1) x1).ownBlock = (Value.slice po tn pc).ownBlock ∨ ∃ k, W3.heap.size ≤ k ∧ (Value.slice ao1 (tn + 1) x1).ownBlock = some k := hB1.imp id fun e => ⟨_, by first | omega | simp | (simp; omega), e⟩
 have hd4 := own_keep HD3.out t4 (fun g hg e => own_ne HOU.out HD3.out (by decide) g e hg)
 have hv4 := own_keep HP4.out.ov t4 (fun g hg e => own_ne HP4.out.ou HP4.out.ov (by decide) g e hg)
 have hE15 : Ext w1 W4 := hE14.after t4 (fun b hb e => by have := (HOU.out.lt _ e).1; have := HS1.out; omega)
 have hr34 : Rd W4 (.slice y3 z3 e3') z3 2 (sndL (ws.drop (i + N3))) := by
  have hwx := HVS.out.ext (hE1.trans hE15)
  have hw3 : WordAt W4 _ _ := WordAt.cut hwx (a := i + N3) (b := ws.length) (by rw [HWN.out]; exact hik) (by omega) HCAPS.out
  rw [take_mid rfl, HWN.out, HX3.out] at hw3
  exact (word_rd hw3 (show (ws.drop (i + N3)).length = z3 by rw [List.length_drop, HWN.out]; omega)).2
 have hz4 : B + 1 ≤ W4.heap.size := Nat.le_trans hz3 t4.size
 have HU1 := Lib.hid hU1; have HD4 := Lib.hid hd4; have HV4 := Lib.hid hv4; have HR3 := Lib.hid hr34; have HT4 := Lib.hid t4; have HBU := Lib.hid hbu
 have hz34 := t4.size
 have hdlt : ∀ g, (Value.slice eo (dn + N4) ec).ownBlock = some g → g < W4.heap.size := fun g hg => (hd4.lt g hg).2
 have HDLT := Lib.hid hdlt
 clear hdlt hU1 hT1 hB1 t4 hbu hd4 hv4 hr34 HR33 HD3 hE14 hE4
 go_upto_region 13 with (fail)
 have hsum : IntKind.i64.wrap ((i : Int) + (N3 : Int)) = (i : Int) + (N3 : Int) := IntWalk.i64_in _ (by omega)
 obtain ⟨W5, hW5⟩ : ∃ D, W4.drew = D := ⟨_, rfl⟩
 have HE45 : Hid (Ext W4 W5) := Lib.hid (by rw [← hW5]; exact Turn.drew (Turn.refl _ W4))
 refine wp_region_late (S := fun _ => True) [] (by kernel_rfl) trivial ?_
 intro hS0
 rw [hW5]
 clear hW5
 refine tkE (i := 1) (d := 53) (v := ?_) rfl (Or.inl ⟨by rfl, ?_⟩) hS0 ?_
 rotate_left
 ·intro w hSw; (try dsimp only at hSw); go_simp; try with_reducible rfl
 try simp only [Act.put, pq]
 refine tkE (i := 3) (d := 55) (v := ?_) rfl (Or.inl ⟨by rfl, ?_⟩) hS0 ?_
 rotate_left
 ·intro w hSw; (try dsimp only at hSw); go_simp; try with_reducible rfl
 try simp only [Act.put, pq]
 refine tkE (i := 4) (d := 56) (v := ?_) rfl (Or.inl ⟨by rfl, ?_⟩) hS0 ?_
 rotate_left
 ·intro w hSw; (try dsimp only at hSw); go_simp; try with_reducible rfl
 try simp only [Act.put, pq]
 refine tkE (i := 5) (d := 57) (v := ?_) rfl (Or.inl ⟨by rfl, ?_⟩) hS0 ?_
 rotate_left
 ·intro w hSw; (try dsimp only at hSw); go_simp; try with_reducible rfl
 try simp only [Act.put, pq]
 refine tkE (i := 6) (d := 58) (v := ?_) rfl (Or.inl ⟨by rfl, ?_⟩) hS0 ?_
 rotate_left
 ·intro w hSw; (try dsimp only at hSw); go_simp; try with_reducible rfl
 try simp only [Act.put, pq]
 refine tkE (i := 7) (d := 59) (v := ?_) rfl (Or.inl ⟨by rfl, ?_⟩) hS0 ?_
 rotate_left
 ·intro w hSw; (try dsimp only at hSw); go_simp; try with_reducible rfl
 try simp only [Act.put, pq]
 refine wpAnyE_ready (rs := [0]) (by kernel_rfl) (by simp) ?_
 refine AllReadyE.cons rfl (fun K hK => ?_) AllReadyE.nil
 (try rw [if_pos (show Region.wanted _ _ = true from rfl)])
 go_simp
 obtain ⟨W6, hW6⟩ : ∃ D, W5.alloc (.cells #[] 24) = D := ⟨_, rfl⟩
 have e6 : Ext W4 W6 := by rw [← hW6]; exact HE45.out.trans ((Turn.refl _ W5).alloc _)
 have hO6 : W6.ownsRow (B + 1) 24 2 (.slice (some ⟨W5.heap.size, 0, none⟩) 0 0) 0 [] := by rw [← hW6]; exact World.ownsRow_made (base := B + 1) (e := 24) (size := 2) W5 #[] 0 (by have := HE45.out.size; omega) (by decide) rfl
 rw [hW6]
 have HRD := Lib.hid (Rd.of_own (own_ext HD4.out e6)); have HR36 := Lib.hid (HR3.out.ext e6)
 have hg6 : W4.heap.size ≤ W5.heap.size := HE45.out.size
 obtain ⟨g6, hg⟩ : ∃ g, W5.heap.size = g := ⟨_, rfl⟩
 rw [hg] at hO6 hg6 ⊢
 have z6 := e6.size
 clear hW6 hg
 refine hK.out _ _ trivial (fun _ => ?_)
 clear hK K
 try simp only [Act.put, pq]
 refine wpAnyE_ready (rs := [2]) (by kernel_rfl) (by simp) ?_
 refine AllReadyE.cons rfl (fun K hK => ?_) AllReadyE.nil
 (try rw [if_pos (show Region.wanted _ _ = true from rfl)])
 refine append_rdO (.tmp 52) (.tmp 53) 28 rfl (B + 1) 24 _ 2 8 Tryz.underlying28 @infoS rfl (by decide) _ 0 [] rfl hO6 _ _ _ _ rfl HRD.out (one_sndL _) (by unfold maxLen; omega) (by omega) (by omega) ?_
 intro no1 nc1 W7 hO7 hT7 hB7
 try rw [Nat.zero_add] at hO7
 try rw [List.nil_append] at hO7
 try rw [Nat.zero_add] at hB7
 try rw [Nat.zero_add]
 have e7 : Ext W4 W7 := e6.after hT7 (fun b hb e => by have e9 : g6 = b := (by first | (simpa [Value.ownBlock] using e) | exact e | (cases e; rfl)); omega)
 have z7 := e7.size
 have HR37 := Lib.hid (HR3.out.ext e7)
 have HB7 := Lib.hid hB7
 clear hB7
 refine hK.out _ _ trivial (fun _ => ?_)
 clear hK K
 try simp only [Act.put, List.setIfInBounds_toArray]
 refine wpAnyE_ready (rs := [8]) (by kernel_rfl) (by simp) ?_
 refine AllReadyE.cons rfl (fun K hK => ?_) AllReadyE.nil
 (try rw [if_pos (show Region.wanted _ _ = true from rfl)])
 refine append_rdO (.tmp 54) (.tmp 59) 28 rfl (B + 1) 24 _ 2 8 Tryz.underlying28 @infoS rfl (by decide) _ _ _ rfl hO7 _ _ _ _ rfl HR37.out (one_sndL _) (by unfold maxLen; omega) (by omega) (by omega) ?_
 intro no nc W8 hO8 hT8 hB8
 have hfresh : ∀ g, (Value.slice no1 (dn + N4) nc1).ownBlock = some g → W4.heap.size ≤ g := fun g hg => by
  rcases HB7.out with e | e
  ·rw [e] at hg; have e9 : g6 = g := (by first | (simpa [Value.ownBlock] using hg) | exact hg | (cases hg; rfl))
   omega
  ·rw [e] at hg; cases hg; exact z6
 have hfr8 : ∀ g, (Value.slice no (dn + N4 + z3) nc).ownBlock = some g → W4.heap.size ≤ g := fun g hg => by
  rcases hB8 with e | e
  ·rw [e] at hg; exact hfresh g hg
  ·rw [e] at hg; cases hg; exact z7
 have e8 : Ext W4 W8 := e7.after hT8 (fun b hb e => by have := hfresh b e; omega)
 have HFR := Lib.hid hfr8
 refine hK.out _ _ trivial (fun _ => ?_)
 clear hK K hfresh hfr8 hB8
 try simp only [Act.put]
 refine tkE (i := 9) (d := 12) (v := ?_) rfl (Or.inl ⟨by rfl, ?_⟩) trivial ?_
 rotate_left
 ·intro w hSw; (try dsimp only at hSw); go_simp; try with_reducible rfl
 try simp only [Act.put]
 refine wpAnyE_done (by kernel_rfl) ?_ _
 have hnow8 : W8.ownsRow (B + 1) 24 2 (.slice no (dn + N4 + z3) nc) (dn + N4 + z3) (sndL now) := by rw [HNS.out, ← sndL_append]; exact hO8
 have hncap := (own_len hnow8).1
 have HNOW := Lib.hid hnow8
 have hU8 := own_ext HU1.out e8
 have hV8 := own_ext HV4.out e8
 have hD8 := own_ext HD4.out e8
 have hE18 := hE15.trans e8
 have hT38 : Turn (fun b => (Value.slice po tn pc).ownBlock = some b) W3 W8 := HT4.out.trans (Ext.of e8)
 have hz8 : B + 1 ≤ W8.heap.size := Nat.le_trans hz4 e8.size
 have HU8 := Lib.hid hU8; have HV8 := Lib.hid hV8; have HD8 := Lib.hid hD8; have HT38 := Lib.hid hT38
 clear hnow8 hU8 hV8 hD8 hT38 hO8 hT8 hO7 hT7 hO6 e6 e7 e8 HE45 HRD HR36 HR37 HB7 HR3 HU1 HV4 HD4 HT4 z6 z7 hg6 hsum s3 hE15
 by_cases h33 : 32 < dn + N4 + z3
 ·have h3 : (32 : Int) < ((dn : Int) + (N4 : Int) + (z3 : Int)) := by omega
  have h3' : (32 : Int) < ((dn + N4 + z3 : Nat) : Int) := by omega
  obtain ⟨g1, g2⟩ := run_long HSPL.out (show 32 < now.length by rw [HNL.out]; exact h33)
  have G1 := Lib.hid g1; have G2 := Lib.hid g2
  clear g1 g2
  go_wp2
  exact bodyPost_ret (results_t3 rfl _ _ _) rfl ⟨_, _, by rw [G1.out]; rfl, by rw [G2.out]; exact TrOut.nil _ _, hE1.trans hE18⟩
 have h3 : ¬ ((32 : Int) < ((dn : Int) + (N4 : Int) + (z3 : Int))) := by omega
 have h3' : ¬ ((32 : Int) < ((dn + N4 + z3 : Nat) : Int)) := by omega
 have hlg := longT_snoc HLG.out (x := (i, now)) (by show now.length ≤ 32; rw [HNL.out]; omega)
 have HLG2 := Lib.hid hlg
 have hov : W8.ownsRow (B + 1) 28 1 (.slice qo tn qc) tn vals := by have := HV8.out; rw [HTN.out] at this; exact this
 have HOV := Lib.hid hov
 obtain ⟨nn, hnn⟩ : ∃ x, dn + N4 + z3 = x := ⟨_, rfl⟩
 rw [hnn] at hncap HNOW h33 h3' HFR ⊢
 have HNN := Lib.hid hnn
 clear hlg hov HLG HSPL HV8
 go_wp2_with (at_builtin; refine append_row rfl (.tmp 64) (.tmp 66) 43 rfl (B + 1) 28 _ 1 24 Tryz.underlying43 Tryz.infoW2 rfl (by decide) _ _ _ rfl (own_ext HOV.out ((Turn.refl _ W8).alloc _)) ⟨W8.heap.size, 0, none⟩ 1 1 [.slice no nn nc] rfl rfl (new_cells' rfl) ?d2 ?d3 ?d4 ?d5 ?_)
 case d2 => first | rfl | (intro u hu; simp at hu; rcases hu with rfl; rfl)
 case d3 => unfold maxLen; omega
 case d4 => omega
 case d5 => first | omega | (simp; omega)
 intro ao2 x2 W9 hU2 hT2 hB2
 have t9 : Turn (fun b => (Value.slice qo tn qc).ownBlock = some b) W8 W9 := Turn.trans ((Turn.refl _ W8).alloc _) hT2
 have t39 : Turn (fun b => (Value.slice po tn pc).ownBlock = some b ∨ (Value.slice qo tn qc).ownBlock = some b) W3 W9 := (HT38.out.mono fun b _ e => .inl e).trans (t9.mono fun b _ e => .inr e)
 have hnw9 := own_keep HNOW.out t9 (fun g hg e => own_ne HOV.out HNOW.out (by decide) g e hg)
 have hone9 : OneW W9 (.slice no nn nc) now := by
  have h5 := hnw9
  have h6 := hncap
  rw [show nn = now.length by rw [HNL.out, HNN.out]] at h5 h6 ⊢
  exact OneW.own h5 HNOK.out
 have hu9 := own_keep HU8.out t9 (fun g hg e => own_ne HU8.out HOV.out (by decide) g hg e)
 have hbv : (Value.slice ao2 (tn + 1) x2).ownBlock = (Value.slice qo tn qc).ownBlock ∨ ∃ k, W3.heap.size ≤ k ∧ (Value.slice ao2 (tn + 1) x2).ownBlock = some k := hB2.imp id fun e => ⟨_, by have := HT38.out.size; first | omega | (simp; omega), e⟩
 have hap9 : Apart W9 (.slice ao1 (tn + 1) x1) (.slice ao2 (tn + 1) x2) (.slice no nn nc) := Apart.own hu9 hU2 hnw9 (by decide) (by decide)
 have hP9 := HP4.out.push2 (i := i) hone9 hap9 (by rw [HTN.out]; exact hu9) (by rw [HTN.out]; exact hU2) t39 HBU.out hbv
 have hd9 := own_keep HD8.out t9 (fun g hg e => own_ne HOV.out HD8.out (by decide) g e hg)
 have hO9 : Off (.slice eo (dn + N4) ec) (vals ++ [.slice no nn nc]) := fun y hy => by
  rcases List.mem_append.1 hy with hy | hy
  ·exact HO4.out y hy
  ·simp only [List.mem_singleton] at hy
   subst hy
   intro g o n' c e h0 hq
   cases e
   have h7 := HFR.out g rfl
   have h8 := HDLT.out g hq
   omega
 have hlow : ∀ b, b < B + 1 → ¬ ((Value.slice qo tn qc).ownBlock = some b) := fun b hb e => by have := (HOV.out.lt _ e).1; omega
 have hE19 : Ext w1 W9 := hE18.after t9 (fun b hb e => hlow b (by have := HS1.out; omega) e)
 have HP9 := Lib.hid hP9; have HD9 := Lib.hid hd9; have HO9 := Lib.hid hO9; have HTN9 : Hid ((tr ++ [(i, now)]).length = tn + 1) := Lib.hid (by rw [List.length_append, HTN.out]; rfl)
 have hz9 : B + 1 ≤ W9.heap.size := Nat.le_trans hz8 t9.size
 clear hnw9 hone9 hu9 hbv hap9 hP9 hd9 hO9 hlow hU2 hT2 hB2 t9 t39 HU8 HD8 HOV HOU HT38 HNOW HP4 HO4 HBU HFR HDLT hE18
 by_cases hk0 : N3 = 0
 case neg =>
  have hk9 : ((N3 : Int) == 0) = false := by simp; omega
  have hn := HNX1.out hk0
  have HN := Lib.hid hn
  have HK0 := Lib.hid hk0
  clear hn hk0
  go_wp2
  exact ⟨⟨i + N3, tr ++ [(i, now)], d ++ M, dn + N4, tn + 1, ao1, ao2, eo, x1, x2, ec, _, by first | rfl | trivial, ⟨rfl, rfl, rfl, rfl, rfl, rfl, by first | rfl | (simp; done)⟩, HN.out, HLG2.out, HDL.out, HTN9.out, HD9.out, HDMOK.out, HO9.out, HP9.out, hE19⟩, by have := HK0.out; simp [intOf]; omega⟩
 have hk9 : ((N3 : Int) == 0) = true := by simp; omega
 have hn := HNX0.out hk0
 by_cases hiw : i < wn
 ·have h2 : (i : Int) + (N3 : Int) < (wn : Int) := by omega
  obtain ⟨g, off, sa, sb, rfl, hgd, c0, c1, hlt⟩ := HCELL.out W9 (hE1.trans hE19) hiw
  rw [take_one (by rw [HWN.out]; exact hiw), hgd, show i + 1 = i + N3 + 1 by omega] at hn
  have HN := Lib.hid hn
  rw [show i * 2 = (i + N3) * 2 by omega] at c0 c1
  have HK0 := Lib.hid hk0
  have htn2 : ((i : Int) + (N3 : Int)).toNat = i + N3 := by omega
  have hpos : (0 : Int) ≤ (i : Int) + (N3 : Int) := by omega
  clear hn hgd hk0
  go_wp2_with (at_builtin; refine append_row rfl (.tmp 77) (.tmp 82) 28 rfl (B + 1) 24 _ 2 8 Tryz.underlying28 @infoS rfl (by decide) _ _ _ rfl (own_ext HD9.out ((Turn.refl _ W9).alloc _)) ⟨W9.heap.size, 0, none⟩ 1 1 [.int .u32 (sa : Int), .int .u32 (sb : Int)] rfl rfl (new_cells' rfl) (one_snd2 _ _) ?b3 ?b4 ?b5 ?_)
  case b3 => unfold maxLen; omega
  case b4 => omega
  case b5 => first | omega | (simp; omega)
  intro fo fc W10 hD10 hT10 hB10
  have t10 : Turn (fun b => (Value.slice eo (dn + N4) ec).ownBlock = some b) W9 W10 := Turn.trans ((Turn.refl _ W9).alloc _) hT10
  have hB10' : (Value.slice fo (dn + N4 + 1) fc).ownBlock = (Value.slice eo (dn + N4) ec).ownBlock ∨ ∃ k, W9.heap.size ≤ k ∧ (Value.slice fo (dn + N4 + 1) fc).ownBlock = some k := hB10.imp id fun e => ⟨_, by first | omega | simp | (simp; omega), e⟩
  have hP10 := HP9.out.turn HD9.out t10 HO9.out
  have hO10 := HO9.out.same HP9.out.low hB10'
  have hE20 : Ext w1 W10 := hE19.after t10 (fun b hb e => by have := (HD9.out.lt _ e).1; have := HS1.out; omega)
  have hd10 : W10.ownsRow (B + 1) 24 2 (.slice fo (dn + N4 + 1) fc) (dn + N4 + 1) (sndL (d ++ M ++ [(sa, sb)])) := by rw [sndL_append]; exact hD10
  have HP10 := Lib.hid hP10; have HO10 := Lib.hid hO10; have HD10 := Lib.hid hd10
  clear hP10 hO10 hd10 hD10 t10 hT10 hB10 hB10' c0 c1 htn2 hpos
  go_wp2
  exact ⟨⟨i + N3 + 1, tr ++ [(i, now)], _, dn + N4 + 1, tn + 1, ao1, ao2, fo, x1, x2, fc, _, by first | rfl | trivial, ⟨rfl, rfl, rfl, rfl, rfl, rfl, by first | rfl | (simp; done)⟩, HN.out, HLG2.out, (by rw [List.length_append, HDL.out]; rfl), HTN9.out, HD10.out, (fun s hs => by rcases List.mem_append.1 hs with hs | hs; exact HDMOK.out s hs; simp only [List.mem_singleton] at hs; subst hs; exact hlt), HO10.out, HP10.out, hE20⟩, by have := HK0.out; simp [intOf]; omega⟩
 ·have h2 : ¬ ((i : Int) + (N3 : Int) < (wn : Int)) := by omega
  rw [take_none (by rw [HWN.out]; omega), List.append_nil, show i + 1 = i + N3 + 1 by omega] at hn
  have HN := Lib.hid hn
  have HK0 := Lib.hid hk0
  clear hn hk0
  go_wp2
  first
   | exact ⟨⟨i + N3 + 1, tr ++ [(i, now)], d ++ M, dn + N4, tn + 1, ao1, ao2, eo, x1, x2, ec, _, by first | rfl | trivial, ⟨rfl, rfl, rfl, rfl, rfl, rfl, by first | rfl | (simp; done)⟩, HN.out, HLG2.out, HDL.out, HTN9.out, HD9.out, HDMOK.out, HO9.out, HP9.out, hE19⟩, by have := HK0.out; simp [intOf]; omega⟩
   | exact ⟨⟨i + N3 + 1, tr ++ [(i, now)], d ++ M, dn + N4, tn + 1, ao1, ao2, eo, x1, x2, ec, ⟨⟨rfl, rfl, rfl⟩, ⟨rfl, rfl, rfl⟩, ⟨rfl, rfl, rfl⟩, by simp⟩, HN.out, HLG2.out, HDL.out, HTN9.out, HD9.out, HDMOK.out, _, HO9.out, HP9.out⟩, by have := HK0.out; simp [intOf]; omega⟩


theorem rleft_any {w : World} {l : LawD} {cs : List Value} {vo : Option Addr} {vc : Nat} {ws : Wd} (hl : LawAt w l cs) (hv : WordAt w (.slice vo ws.length vc) ws) (hcap : ws.length ≤ vc) (hlaw : lawB l = true) (hmode : l.mode = 3) (hwl : ws.length ≤ 32) :
  Calls Tryz.prog 63 #[.agg cs.toArray, .slice vo ws.length vc] w fun e w' => ∃ u v, e = .returned (.tuple #[u, v, .int .i64 (runE (traceL l ws))]) ∧ TrOut w.heap.size w' u v (runT (traceL l ws)) ∧ Ext w w' := by
 obtain ⟨hk4, hm6, hkm, _, hfits, _, _, _⟩ := lawB_parts hlaw
 have hhit := fun (V : World) (hE : Ext w V) (cur : Wd) (ao : Option Addr) (un c : Nat) (hu : cur.length = un) (hc : WordAt V (.slice ao un c) cur) (h32 : un ≤ 32) (i : Nat) (hi : i ≤ un) => rhit_any (hl.ext hE) hc hu i (by omega) (by omega)
 have hrep := fun (V : World) (hE : Ext w V) (cur : Wd) (ao : Option Addr) (un c : Nat) (hu : cur.length = un) (hc : WordAt V (.slice ao un c) cur) (hcap : un ≤ c) (h32 : un ≤ 32) (i : Nat) (hi : hitL l cur i = true) => rreplace_any (hl.ext hE) hc hu hcap i (by rw [← hu]; exact hit_le hi) hfits (by omega) (by omega)
 have hin := fits_in hv
 have hok : ∀ (cur : Wd) (i : Nat), WdOk cur → WdOk (replL l cur i) := fun cur i hc => by
  obtain ⟨_, _, _, _, _, _, _, _, _, ho⟩ := hl
  unfold replL repl
  intro s hs
  rw [List.mem_append, List.mem_append] at hs
  rcases hs with (hs | hs) | hs
  ·exact hc s (List.mem_of_mem_take hs)
  ·exact putL_ok (fun s hs => hc s (List.mem_of_mem_drop (List.mem_of_mem_take hs))) ho.2 s hs
  ·exact hc s (List.mem_of_mem_drop hs)
 obtain ⟨nm, k1, p1, m1, n1, a1, b1, o1, N1, c1, k2, p2, m2, n2, a2, b2, o2, N2, c2, io, N3, ic, oo, N4, oc, md, rfl, HLA, HPL, HPR, HIF, HOU, HNM, HN1, HN2, HN3, HN4, HMD, q0, q1, q2, q3, q4⟩ := law_gen hl
 obtain ⟨T, hT⟩ : ∃ R, traceL l ws = R := ⟨_, rfl⟩
 rw [hT]
 have hst : LeftAt l ws [] ws (ws.length + 1 - l.ifs.length) := LeftAt.start (by omega) (by omega)
 rw [HN3.out] at hk4 hkm hst
 rw [HN4.out] at hm6 hkm
 obtain ⟨wn, hwn⟩ : ∃ n, ws.length = n := ⟨_, rfl⟩
 rw [hwn] at hv hcap hin hwl hst ⊢
 have hwn32 := hwl
 have HHIT := Lib.hid hhit; have HREP := Lib.hid hrep; have HIN := Lib.hid hin; have HOK := Lib.hid hok; have HT := Lib.hid hT; have HST := Lib.hid hst; have HV := Lib.hid hv; have HWN := Lib.hid hwn
 clear hl hv hhit hrep hin hok hT hst hfits hlaw hmode HIF HOU HPL HPR HLA hwn
 go_enter Tryz.func63, Tryz.ntmps63
 go_upto_region 1 with (fail)
 obtain ⟨w1, hw1⟩ : ∃ D, w.alloc (.cells #[.string nm, .int .i64 k1, .int .u32 (p1 : Int), .int .u32 (m1 : Int), .bool n1, .int .i64 a1, .int .i64 b1, .slice o1 N1 c1, .int .i64 k2, .int .u32 (p2 : Int), .int .u32 (m2 : Int), .bool n2, .int .i64 a2, .int .i64 b2, .slice o2 N2 c2, .slice io N3 ic, .slice oo N4 oc, .int .i64 md] 31) = D := ⟨_, rfl⟩
 have hE1 : Ext w w1 := by rw [← hw1]; exact (Turn.refl _ w).alloc _
 have hl1 : w1.heap[w.heap.size]? = some (.cells #[.string nm, .int .i64 k1, .int .u32 (p1 : Int), .int .u32 (m1 : Int), .bool n1, .int .i64 a1, .int .i64 b1, .slice o1 N1 c1, .int .i64 k2, .int .u32 (p2 : Int), .int .u32 (m2 : Int), .bool n2, .int .i64 a2, .int .i64 b2, .slice o2 N2 c2, .slice io N3 ic, .slice oo N4 oc, .int .i64 md] 31 (0, 0)) := by rw [← hw1]; exact new_at rfl
 have hs1 : w1.heap.size = w.heap.size + 1 := by rw [← hw1]; simp
 rw [hw1]
 obtain ⟨B, hB⟩ : ∃ b, w.heap.size = b := ⟨_, rfl⟩
 rw [hB] at hl1 hs1 ⊢
 have HL1 := Lib.hid hl1; have HB := Lib.hid hB; have HS1 := Lib.hid hs1
 have hV1 := HV.out.ext hE1
 have HV1 := Lib.hid hV1
 have cK := cell_of_row _ _ 15 _ _ _ hl1
 clear hw1 hB hl1 hs1 hV1 HV
 go_wp2
 refine wp_loop (fun a W => ∃ (z : Int) (tr : List (Nat × Wd)) (cur : Wd) (un : Nat) (ao : Option Addr) (c : Nat) (tn : Nat) (po qo : Option Addr) (pc qc : Nat) (vals : List Value), a.defers = [] ∧ (a.tmps.size = 51 ∧ a.tmps.getD 1 undef = .slice ao un c ∧ a.tmps.getD 2 undef = .pointer (some ⟨B, 0, none⟩) ∧ a.tmps.getD 7 undef = .slice po tn pc ∧ a.tmps.getD 8 undef = .slice qo tn qc ∧ a.tmps.getD 9 undef = .int .i64 N3 ∧ a.tmps.getD 10 undef = .int .i64 z) ∧
   ((∃ j, LeftAt l ws tr cur j ∧ ((j : Int) = z + 1 ∨ (j = 0 ∧ z < 0))) ∧ -10 ≤ z ∧ z ≤ 40) ∧ longT tr = false ∧ cur.length = un ∧ un ≤ 32 ∧ tr.length = tn ∧ WordAt W (.slice ao un c) cur ∧ un ≤ c ∧ Apart W (.slice po tn pc) (.slice qo tn qc) (.slice ao un c) ∧ TrP (B + 1) W (.slice po tn pc) (.slice qo tn qc) vals tr ∧ Ext w1 W)
  (fun a _ => (intOf (a.tmps.getD 10 undef) + 1).toNat) ?_ ?_
 ·exact ⟨_, [], ws, wn, vo, vc, 0, none, none, 0, 0, [], rfl, ⟨rfl, rfl, rfl, rfl, rfl, rfl, rfl⟩, ⟨⟨_, HST.out, by omega⟩, by omega, by omega⟩, rfl, HWN.out, hwl, rfl, HV1.out, hcap, HIN.out.mono fun g hg => ⟨by have := HS1.out; have := HB.out; omega, (fun e => by cases e), (fun e => by cases e)⟩, TrP.nil _ _, Turn.refl _ _⟩
 clear HST HV1 HIN cK hcap hwl
 rintro ⟨t, _⟩ V ⟨z, tr, cur, un, ao, c, tn, po, qo, pc, qc, vals, hds, ⟨hsz, f1, f2, f7, f8, f9, f10⟩, ⟨⟨j, hat, hjz⟩, hz1, hz2⟩, hlong, hun, h32, htn, hw, hc, hap, hP, hE⟩
 subst hds
 obtain ⟨u', hu⟩ := frame_fun hsz
 obtain ⟨u, rfl⟩ : ∃ x, x = u' := ⟨_, rfl⟩
 have hu' : t = #[u 0, u 1, u 2, u 3, u 4, u 5, u 6, u 7, u 8, u 9, u 10, u 11, u 12, u 13, u 14, u 15, u 16, u 17, u 18, u 19, u 20, u 21, u 22, u 23, u 24, u 25, u 26, u 27, u 28, u 29, u 30, u 31, u 32, u 33, u 34, u 35, u 36, u 37, u 38, u 39, u 40, u 41, u 42, u 43, u 44, u 45, u 46, u 47, u 48, u 49, u 50] := hu
 clear hu
 subst hu'
 change u 1 = _ at f1
 change u 2 = _ at f2
 change u 7 = _ at f7
 change u 8 = _ at f8
 change u 9 = _ at f9
 change u 10 = _ at f10
 rw [f1, f2, f7, f8, f9, f10]
 clear f1 f2 f7 f8 f9 f10 hsz
 have HLV := Lib.hid (hE.keep HL1.out)
 have hE2 := hE1.trans hE
 have hcnt : tn ≤ 33 := by obtain ⟨_, h2, _, _⟩ := hat; have := HWN.out; have := hwn32; omega
 have HLG := Lib.hid hlong; have HUN := Lib.hid hun; have HTN := Lib.hid htn; have HW := Lib.hid hw; have HAP := Lib.hid hap; have HP := Lib.hid hP
 clear hlong hun htn hw hap hP
 by_cases hend : 0 ≤ z
 case neg =>
  have hj0 : j = 0 := by omega
  subst hj0
  have hd := hat.done
  rw [HT.out] at hd
  subst hd
  obtain ⟨g1, g2⟩ := run_end HLG.out
  have hO := HP.out.out
  rw [← g2] at hO
  have G1 := Lib.hid g1; have HO := Lib.hid hO
  clear g1 g2 hO hjz hat
  go_wp2
  exact bodyPost_ret (results_t3 rfl _ _ _) rfl ⟨_, _, by rw [G1.out]; rfl, HO.out.base (by have := HB.out; omega), hE2⟩
 obtain ⟨i, rfl⟩ := Int.eq_ofNat_of_zero_le hend
 obtain rfl : j = i + 1 := by omega
 have hi33 : i ≤ 40 := by omega
 have hend := hat.le
 rw [HUN.out, HN3.out] at hend
 have HAT := Lib.hid hat
 clear hat hjz hz1 hz2
 have hhc := HHIT.out V hE2 cur ao un c HUN.out HW.out h32 i (by omega)
 obtain ⟨q, hq⟩ : ∃ q, hitL l cur i = q := ⟨_, rfl⟩
 rw [hq] at hhc
 have HHC := Lib.hid hhc; have HQ := Lib.hid hq
 clear hhc hq
 go_wp2_with (refine wpList_load_row rfl 31 (.tmp 2) rfl B rfl _ _ _ _ HLV.out Tryz.underlying31 rfl Tryz.lawInfo ?_)
 refine HHC.out.mono ?_
 rintro e W ⟨rfl, hN⟩
 have hE3 := hE2.trans hN
 have hE13 := hE.trans hN
 have HLW := Lib.hid (hN.keep HLV.out)
 have HW3 := Lib.hid (HW.out.ext hN); have HAP3 := Lib.hid (HAP.out.ext hN); have HP3 := Lib.hid (HP.out.ext hN)
 clear hN HLV HW HAP HP HHC
 cases q
 ·have hm := HAT.out.miss HQ.out
  have HM := Lib.hid hm
  clear hm HAT
  go_wp2
  exact ⟨⟨(i : Int) - 1, tr, cur, un, ao, c, tn, po, qo, pc, qc, vals, by first | rfl | trivial, ⟨rfl, rfl, rfl, rfl, rfl, rfl, rfl⟩, ⟨⟨i, HM.out, by omega⟩, by omega, by omega⟩, HLG.out, HUN.out, h32, HTN.out, HW3.out, hc, HAP3.out, HP3.out, hE13⟩, by first | (simp [intOf]; done) | (simp [intOf]; omega)⟩
 obtain ⟨hnext, rest, hspl⟩ := HAT.out.hit HQ.out
 have hrl := replL_length (hit_le HQ.out)
 have hrc := HREP.out W hE3 cur ao un c HUN.out HW3.out hc h32 i HQ.out
 have hrok := HOK.out cur i HW3.out.2
 rw [HUN.out, HN3.out, HN4.out] at hrl
 rw [HN3.out] at hnext
 obtain ⟨r, hr⟩ : ∃ r, replL l cur i = r := ⟨_, rfl⟩
 rw [hr] at hnext hspl hrl hrc hrok
 obtain ⟨rn, hrn⟩ : ∃ n, r.length = n := ⟨_, rfl⟩
 rw [hrn] at hrl hrc
 rw [HT.out] at hspl
 have HNX := Lib.hid hnext; have HSPL := Lib.hid hspl; have HRC := Lib.hid hrc; have HROK := Lib.hid hrok; have HRN := Lib.hid hrn
 clear hnext hspl hrc hrok hr hrn HAT
 go_wp2_with (refine wpList_load_row rfl 31 (.tmp 2) rfl B rfl _ _ _ _ HLW.out Tryz.underlying31 rfl Tryz.lawInfo ?_)
 refine HRC.out.mono ?_
 rintro e W2 ⟨x, rfl, hO, hN⟩
 have hE4 := hE3.trans hN
 have hE14 := hE13.trans hN
 have HLW2 := Lib.hid (hN.keep HLW.out)
 have HP4 := Lib.hid (HP3.out.ext hN)
 obtain ⟨ro, rc, rfl⟩ := own_slice hO
 have hrcap := (own_len hO).1
 have hone : OneW W2 (.slice ro rn rc) r := by
  have h3 := hO
  rw [← HRN.out] at h3 ⊢
  exact OneW.own h3 HROK.out
 have hap2 : Apart W2 (.slice po tn pc) (.slice qo tn qc) (.slice ro rn rc) := Apart.own HP4.out.ou HP4.out.ov hO (by decide) (by decide)
 have HONE := Lib.hid hone; have HAP2 := Lib.hid hap2
 clear hone hap2 hO hN HLW HP3 HAP3 HW3 HRC hE3 hE13
 by_cases h33 : 32 < rn
 ·have h1 : (32 : Int) < (rn : Int) := by omega
  obtain ⟨g1, g2⟩ := run_long HSPL.out (show 32 < r.length by rw [HRN.out]; exact h33)
  have G1 := Lib.hid g1; have G2 := Lib.hid g2
  clear g1 g2
  go_wp2
  exact bodyPost_ret (results_t3 rfl _ _ _) rfl ⟨_, _, by rw [G1.out]; rfl, by rw [G2.out]; exact TrOut.nil _ _, hE4⟩
 have h1' : ¬ ((32 : Int) < (rn : Int)) := by omega
 have hlg := longT_snoc HLG.out (x := (i, r)) (by show r.length ≤ 32; rw [HRN.out]; omega)
 have HLG2 := Lib.hid hlg
 have hou := HP4.out.ou
 have hov := HP4.out.ov
 rw [HTN.out] at hou hov
 have HOU := Lib.hid hou; have HOV := Lib.hid hov
 have hz2' : B + 1 ≤ W2.heap.size := by have := hE14.size; have := HS1.out; omega
 clear hlg hou hov HLG HSPL
 go_wp2_with (at_builtin; refine append_row rfl (.tmp 34) (.tmp 36) 38 rfl (B + 1) 3 _ 1 8 Tryz.underlying38 Tryz.infoI rfl (by decide) _ _ _ rfl (own_ext HOU.out ((Turn.refl _ W2).alloc _)) ⟨W2.heap.size, 0, none⟩ 1 1 [.int .i64 i] rfl rfl (new_cells' rfl) ?c2 ?c3 ?c4 ?c5 ?_)
 case c2 => first | rfl | (intro u hu; simp at hu; rcases hu with rfl; rfl)
 case c3 => unfold maxLen; omega
 case c4 => omega
 case c5 => first | omega | (simp; omega)
 intro ao1 x1 W3 hU1 hT1 hB1
 have t3 : Turn (fun b => (Value.slice po tn pc).ownBlock = some b) W2 W3 := Turn.trans ((Turn.refl _ W2).alloc _) hT1
 have hv3 := own_keep HOV.out t3 (fun g hg e => own_ne HOU.out HOV.out (by decide) g e hg)
 have hbu : (Value.slice ao1 (tn + 1) x1).ownBlock = (Value.slice po tn pc).ownBlock ∨ ∃ k, W2.heap.size ≤ k ∧ (Value.slice ao1 (tn + 1) x1).ownBlock = some k := hB1.imp id fun e => ⟨_, by first | omega | simp | (simp; omega), e⟩
 have HU1 := Lib.hid hU1; have HV3 := Lib.hid hv3; have HT3 := Lib.hid t3; have HBU := Lib.hid hbu
 have hz3 := t3.size
 clear hU1 hT1 hB1 t3 hv3 hbu
 go_wp2_with (at_builtin; refine append_row rfl (.tmp 38) (.tmp 40) 43 rfl (B + 1) 28 _ 1 24 Tryz.underlying43 Tryz.infoW2 rfl (by decide) _ _ _ rfl (own_ext HV3.out ((Turn.refl _ W3).alloc _)) ⟨W3.heap.size, 0, none⟩ 1 1 [.slice ro rn rc] rfl rfl (new_cells' rfl) ?d2 ?d3 ?d4 ?d5 ?_)
 case d2 => first | rfl | (intro u hu; simp at hu; rcases hu with rfl; rfl)
 case d3 => unfold maxLen; omega
 case d4 => omega
 case d5 => first | omega | (simp; omega)
 intro ao2 x2 W4 hU2 hT2 hB2
 have t4 : Turn (fun b => (Value.slice qo tn qc).ownBlock = some b) W3 W4 := Turn.trans ((Turn.refl _ W3).alloc _) hT2
 have t24 : Turn (fun b => (Value.slice po tn pc).ownBlock = some b ∨ (Value.slice qo tn qc).ownBlock = some b) W2 W4 := (HT3.out.mono fun b _ e => .inl e).trans (t4.mono fun b _ e => .inr e)
 have hbv : (Value.slice ao2 (tn + 1) x2).ownBlock = (Value.slice qo tn qc).ownBlock ∨ ∃ k, W2.heap.size ≤ k ∧ (Value.slice ao2 (tn + 1) x2).ownBlock = some k := hB2.imp id fun e => ⟨_, by first | omega | (simp; omega), e⟩
 have hu4 := own_keep HU1.out t4 (fun g hg e => own_ne HU1.out HV3.out (by decide) g hg e)
 obtain ⟨hP5, hone5, hap5⟩ := HP4.out.push (i := i) HONE.out HAP2.out (by rw [HTN.out]; exact hu4) (by rw [HTN.out]; exact hU2) t24 HBU.out hbv
 have hlow : ∀ b, b < B + 1 → ¬ ((Value.slice po tn pc).ownBlock = some b ∨ (Value.slice qo tn qc).ownBlock = some b) := fun b hb e => by
  rcases e with e | e
  ·have := (HOU.out.lt _ e).1; omega
  ·have := (HOV.out.lt _ e).1; omega
 have hE15 : Ext w1 W4 := hE14.after t24 (fun b hb e => hlow b (by have := HS1.out; omega) e)
 have hl5 := t24.heap HLW2.out (hlow B (by omega))
 have c16 := cell_of_row _ _ 16 _ _ _ hl5
 obtain ⟨ao5, c5, hq5, hw5, hc5⟩ := hone5
 rw [HRN.out] at hq5 hw5 hc5
 cases hq5
 have HP5 := Lib.hid hP5; have HW5 := Lib.hid hw5; have HAP5 := Lib.hid hap5; have HTN5 : Hid ((tr ++ [(i, r)]).length = tn + 1) := Lib.hid (by rw [List.length_append, HTN.out]; rfl)
 clear hP5 hw5 hap5 hl5 hU2 hT2 hB2 t4 t24 hbv hu4 hlow HU1 HV3 HT3 HBU HP4 HAP2 HONE HOU HOV hE14 hE4
 by_cases hk0 : N3 = 0
 ·have hk9 : ((N3 : Int) == 0) = true := by simp; omega
  have HK0 := Lib.hid hk0
  clear hk0
  go_wp2
  exact ⟨⟨(i : Int) - N3 - 1, tr ++ [(i, r)], r, rn, ro, rc, tn + 1, ao1, ao2, x1, x2, _, by first | rfl | trivial, ⟨rfl, rfl, rfl, rfl, rfl, rfl, by first | rfl | (simp; done)⟩, ⟨⟨_, HNX.out, by have := HK0.out; omega⟩, by omega, by omega⟩, HLG2.out, HRN.out, by omega, HTN5.out, HW5.out, hc5, HAP5.out, HP5.out, hE15⟩, by have := HK0.out; simp [intOf]; omega⟩
 ·have hk9 : ((N3 : Int) == 0) = false := by simp; omega
  have HK0 := Lib.hid hk0
  clear hk0
  go_wp2
  exact ⟨⟨(i : Int) - N3, tr ++ [(i, r)], r, rn, ro, rc, tn + 1, ao1, ao2, x1, x2, _, by first | rfl | trivial, ⟨rfl, rfl, rfl, rfl, rfl, rfl, by first | rfl | (simp; done)⟩, ⟨⟨_, HNX.out, by have := HK0.out; omega⟩, by omega, by omega⟩, HLG2.out, HRN.out, by omega, HTN5.out, HW5.out, hc5, HAP5.out, HP5.out, hE15⟩, by have := HK0.out; simp [intOf]; omega⟩
end Go.Proofs.YtedhogbocifipaaGreatDoor
