/- ablautlaw08.LawMirrors: the walk (printed by genlmirrorsw.py). -/
import Derived.Test.YtedhogbocifipaaGreatDoorGa22
import Derived.Test.YtedhogbocifipaaGreatDoorRowSet
import Derived.Test.YtedhogbocifipaaGreatDoorGa20
import Derived.Test.YtedhogbocifipaaGreatDoorLMirror
import Derived.Test.YtedhogbocifipaaGreatDoorGa12
set_option maxRecDepth 100000
set_option maxHeartbeats 16000000
namespace Go.Proofs.YtedhogbocifipaaGreatDoor
open Go.RowKit Go.Ab
attribute [local go_sem] Oper.semAt_some wide_fn wide_depth

theorem one_own {w : World} {base : Nat} {e : TypeId} {v : Value} {u : Wd} (h : w.ownsRow base e 2 v u.length (sndL u)) (hok : WdOk u) : OneW w v u := by
 obtain ⟨_, _, ao, c, rfl, _⟩ := Rd.of_own h
 exact OneW.own h hok
theorem app_one {w : World} {l : LawD} {cs : List Value} {vo : Option Addr} {vc : Nat} {ws : Wd} (hl : LawAt w l cs) (hv : WordAt w (.slice vo ws.length vc) ws) (hcap : ws.length ≤ vc) (hT : Tab w) :
  Calls Tryz.prog 26 #[.agg cs.toArray, .slice vo ws.length vc] w fun e w' => ∃ zo zc, e = .returned (.tuple #[.slice zo (appL l ws).length zc, .int .i64 (trE l ws)]) ∧ WordAt w' (.slice zo (appL l ws).length zc) (appL l ws) ∧ Ext w w' :=
 (lapply_any hl hv hcap hT).mono fun _ _ ⟨u, h1, ⟨zo, zc, hq, h2, _⟩, h3⟩ => by
  subst hq
  exact ⟨zo, zc, h1, h2, h3⟩
theorem app_short {l : LawD} {ws : Wd} (h : trE l ws = 0) : (appL l ws).length ≤ 32 := by
 have key : ∀ (t : List Wd) (d : Wd), d.length ≤ 32 → (∀ x ∈ t, x.length ≤ 32) → (t.getLastD d).length ≤ 32 := by
  intro t
  induction t with
  | nil => intro d hd _; exact hd
  | cons a t ih => intro d _ ht; rw [List.getLastD_cons]; exact ih a (ht a (by simp)) (fun x hx => ht x (by simp [hx]))
 unfold appL lastT
 rw [if_pos h]
 refine key _ _ (wE_le (lawW_zero (trE_law h)).2) (fun x hx => ?_)
 obtain ⟨y, hy, rfl⟩ := List.mem_map.1 hx
 exact longT_get (trE_short h) hy
theorem lawE_yes {l : LawD} (h : lawE l = 0) : lawB l = true := by
 unfold lawE at h
 split at h
 ·assumption
 ·cases h
abbrev modeL (l : LawD) (m : Int) : LawD := ⟨l.name, l.left, l.right, l.ifs, l.outs, m⟩
theorem mode_at {w D : World} {l : LawD} {nm : ByteArray} {k1 : Int} {p1 m1 : Nat} {n1 : Bool} {a1 b1 : Int} {o1 : Option Addr} {N1 c1 : Nat} {k2 : Int} {p2 m2 : Nat} {n2 : Bool} {a2 b2 : Int} {o2 : Option Addr} {N2 c2 : Nat} {io : Option Addr} {N3 ic : Nat} {oo : Option Addr} {N4 oc : Nat} (hE : Ext w D) (hn : l.name = nm) (hs : nm.size ≤ maxLen)
  (hl : PatAt (fun g => g < w.heap.size) w l.left [.int .i64 k1, .int .u32 (p1 : Int), .int .u32 (m1 : Int), .bool n1, .int .i64 a1, .int .i64 b1, .slice o1 N1 c1]) (hr : PatAt (fun g => g < w.heap.size) w l.right [.int .i64 k2, .int .u32 (p2 : Int), .int .u32 (m2 : Int), .bool n2, .int .i64 a2, .int .i64 b2, .slice o2 N2 c2])
  (hi : WordAt w (.slice io N3 ic) l.ifs) (ho : OutsAt w (.slice oo N4 oc) l.outs) (m : Int) : LawAt D (modeL l m) [.string nm, .int .i64 k1, .int .u32 (p1 : Int), .int .u32 (m1 : Int), .bool n1, .int .i64 a1, .int .i64 b1, .slice o1 N1 c1, .int .i64 k2, .int .u32 (p2 : Int), .int .u32 (m2 : Int), .bool n2, .int .i64 a2, .int .i64 b2, .slice o2 N2 c2, .slice io N3 ic, .slice oo N4 oc, .int .i64 m] := by
 subst hn
 have hb : ∀ g, g < w.heap.size → g < D.heap.size := fun g hg => Nat.lt_of_lt_of_le hg hE.size
 exact ⟨[.int .i64 k1, .int .u32 (p1 : Int), .int .u32 (m1 : Int), .bool n1, .int .i64 a1, .int .i64 b1, .slice o1 N1 c1], [.int .i64 k2, .int .u32 (p2 : Int), .int .u32 (m2 : Int), .bool n2, .int .i64 a2, .int .i64 b2, .slice o2 N2 c2], _, _, rfl, hs, PatAt.mono hb (hl.ext hE), PatAt.mono hb (hr.ext hE), hi.ext hE, ho.ext hE⟩
theorem lawE_good {l : LawD} (h : lawB l = true) : lawE l = 0 := by unfold lawE; rw [if_pos h]

theorem mirrors_law {w : World} {l : LawD} {cs : List Value} {vo : Option Addr} {vc : Nat} {ws : Wd} (hl : LawAt w l cs) (hv : WordAt w (.slice vo ws.length vc) ws) (hcap : ws.length ≤ vc) (hT : Tab w) (hb : ws.length ≤ 17592186044416) :
  Calls Tryz.prog 11 #[.agg cs.toArray, .slice vo ws.length vc] w fun e w' => e = .returned (.bool true) ∧ Ext w w' := by
 obtain ⟨nm, k1, p1, m1, n1, a1, b1, o1, N1, c1, k2, p2, m2, n2, a2, b2, o2, N2, c2, io, N3, ic, oo, N4, oc, md, rfl, HLA, HPL, HPR, HIF, HOU, HNM, HN1, HN2, HN3, HN4, HMD, q0, q1, q2, q3, q4⟩ := law_gen hl
 have HLW : Hid (∀ (m : Int) D, Ext w D → LawAt D (modeL l m) [.string nm, .int .i64 k1, .int .u32 (p1 : Int), .int .u32 (m1 : Int), .bool n1, .int .i64 a1, .int .i64 b1, .slice o1 N1 c1, .int .i64 k2, .int .u32 (p2 : Int), .int .u32 (m2 : Int), .bool n2, .int .i64 a2, .int .i64 b2, .slice o2 N2 c2, .slice io N3 ic, .slice oo N4 oc, .int .i64 m]) := Lib.hid fun m D hE => mode_at hE HNM.out q0 HPL.out HPR.out HIF.out HOU.out m
 have hck := fun (m : Int) (D : World) (hE : Ext w D) => lcheck_any (HLW.out m D hE) (hT.keep hE id)
 have hmi := fun (m : Int) (h0 : lawE (modeL l m) = 0) (D : World) (hE : Ext w D) => lmirror_any (HLW.out m D hE) (lawE_yes h0) (hT.keep hE id)
 have hap := fun (m : Int) (D : World) (hE : Ext w D) => app_one (HLW.out m D hE) (hv.ext hE) hcap (hT.keep hE id)
 have hpl := fun (m : Int) (hm : m = 2 ∨ m = 3) (h0 : lawE (modeL l m) = 0) => And.intro (mir_law (l := modeL l m) (lawE_yes h0) hm ws) (lawE_good (mirLaw_ok (l := modeL l m) (lawE_yes h0) hm))
 have hre := fun (D : World) (hE : Ext w D) => reversed_any (hv.ext hE) rfl hb
 have htb := fun (D : World) (hE : Ext w D) => hT.keep hE id
 have hwo := fun (V : World) (hE : Ext w V) => lworks_any V (hT.keep hE id)
 have hok := hv.2
 obtain ⟨nv, hnv⟩ : ∃ n, ws.length = n := ⟨_, rfl⟩
 rw [hnv] at hcap hb
 simp only [hnv] at hap hre ⊢
 have HNV := Lib.hid hnv; have HCK := Lib.hid hck; have HMI := Lib.hid hmi; have HAP := Lib.hid hap; have HMP := Lib.hid hpl; have HRE := Lib.hid hre; have HTB := Lib.hid htb; have HWO := Lib.hid hwo; have HOK := Lib.hid hok
 clear hl hv hT hck hmi hap hpl hre htb hwo hok hnv hcap HLA HPL HPR HIF HOU HLW
 go_enter Tryz.func11, Tryz.ntmps11
 go_upto_region 1 with (fail)
 obtain ⟨w1, hw1⟩ : ∃ D, w.alloc (.cells #[.string nm, .int .i64 k1, .int .u32 (p1 : Int), .int .u32 (m1 : Int), .bool n1, .int .i64 a1, .int .i64 b1, .slice o1 N1 c1, .int .i64 k2, .int .u32 (p2 : Int), .int .u32 (m2 : Int), .bool n2, .int .i64 a2, .int .i64 b2, .slice o2 N2 c2, .slice io N3 ic, .slice oo N4 oc, .int .i64 md] 31) = D := ⟨_, rfl⟩
 have hE1 : Ext w w1 := by rw [← hw1]; exact (Turn.refl _ w).alloc _
 have hl1 : w1.heap[w.heap.size]? = some (.cells #[.string nm, .int .i64 k1, .int .u32 (p1 : Int), .int .u32 (m1 : Int), .bool n1, .int .i64 a1, .int .i64 b1, .slice o1 N1 c1, .int .i64 k2, .int .u32 (p2 : Int), .int .u32 (m2 : Int), .bool n2, .int .i64 a2, .int .i64 b2, .slice o2 N2 c2, .slice io N3 ic, .slice oo N4 oc, .int .i64 md] 31 (0, 0)) := by rw [← hw1]; exact new_at rfl
 rw [hw1]
 obtain ⟨B, hB⟩ : ∃ b, w.heap.size = b := ⟨_, rfl⟩
 rw [hB] at hl1 ⊢
 have HL1 := Lib.hid hl1; have HB := Lib.hid hB
 clear hw1 hl1 hB
 have cX := cell_of_row _ _ 17 _ _ _ HL1.out
 by_cases hm3 : md = 3
 case pos =>
  subst hm3
  have HR := Lib.hid (show w1.heap[B]? = some (.cells #[.string nm, .int .i64 k1, .int .u32 (p1 : Int), .int .u32 (m1 : Int), .bool n1, .int .i64 a1, .int .i64 b1, .slice o1 N1 c1, .int .i64 k2, .int .u32 (p2 : Int), .int .u32 (m2 : Int), .bool n2, .int .i64 a2, .int .i64 b2, .slice o2 N2 c2, .slice io N3 ic, .slice oo N4 oc, .int .i64 3] 31 (0, 0)) from HL1.out)
  go_upto_region 3 with (fail)
  clear cX HR
  have hck := HCK.out 3; have hmi := HMI.out 3; have hap := HAP.out 3; have hpl := HMP.out 3 (.inr rfl); have hsz := @app_short (modeL l 3) ws; have hbad := @appL_bad (modeL l 3) ws
  clear HCK HMI HAP HMP
  obtain ⟨l', hq⟩ : ∃ R, modeL l 3 = R := ⟨_, rfl⟩
  simp only [hq] at hck hmi hap hpl hsz hbad
  clear hq
  obtain ⟨E, hq⟩ : ∃ R, lawE l' = R := ⟨_, rfl⟩
  simp only [hq] at hck hmi hpl
  clear hq
  obtain ⟨Ev, hq⟩ : ∃ R, trE l' ws = R := ⟨_, rfl⟩
  simp only [hq] at hap hpl hsz hbad
  clear hq
  obtain ⟨X, hq⟩ : ∃ R, appL l' ws = R := ⟨_, rfl⟩
  simp only [hq] at hap hpl hsz hbad
  clear hq
  obtain ⟨nx, hnx⟩ : ∃ n, X.length = n := ⟨_, rfl⟩
  have hnx32 : nx ≤ 32 := by
    by_cases h : Ev = 0
    ·rw [← hnx]; exact hsz h
    ·rw [← hnx, hbad h]; exact Nat.zero_le _
  simp only [hnx] at hap
  have HCK := Lib.hid hck; have HMI := Lib.hid hmi; have HAP := Lib.hid hap; have HMP := Lib.hid hpl; have HNX := Lib.hid hnx
  clear hck hmi hap hpl hsz hbad hnx
  go_wp2_with (refine wpList_load_row rfl 31 (.tmp 2) rfl B rfl _ _ _ _ HL1.out Tryz.underlying31 rfl Tryz.lawInfo ?_)
  refine (HCK.out _ hE1).mono ?_
  rintro e w2 ⟨rfl, hN⟩
  have hN1 : Ext w1 w2 := hN
  have hE2 : Ext w w2 := hE1.trans hN
  clear hN
  have HL2 := Lib.hid (hN1.keep HL1.out)
  clear HCK HL1 hN1 hE1
  by_cases hE0 : E = 0
  case neg =>
   have h9 : (E != 0) = true := by rw [bne_iff_ne]; exact hE0
   clear HAP HMI HMP HRE
   go_wp2_with fail
   refine (HWO.out _ hE2).mono ?_
   rintro e w3 ⟨rfl, hN⟩
   have hN2 : Ext w2 w3 := hN
   have hE3 : Ext w w3 := hE2.trans hN
   clear hN
   have HEND := Lib.hid hE3
   clear hE2 hE3
   go_wp2
   go_ret
   exact ⟨rfl, HEND.out⟩
  subst hE0
  obtain ⟨⟨hp1, hp2⟩, hp3⟩ := HMP.out rfl
  have HP1 := Lib.hid hp1; have HP2 := Lib.hid hp2; have HP3 := Lib.hid hp3
  clear hp1 hp2 hp3 HMP
  go_wp2_with (refine wpList_load_row rfl 31 (.tmp 2) rfl B rfl _ _ _ _ HL2.out Tryz.underlying31 rfl Tryz.lawInfo ?_)
  refine (HMI.out (by first | trivial | rfl) _ hE2).mono ?_
  rintro e w3 ⟨ds, rfl, hds, hN⟩
  have hN2 : Ext w2 w3 := hN
  have hE3 : Ext w w3 := hE2.trans hN
  clear hN
  have HL3 := Lib.hid (hN2.keep HL2.out)
  clear HMI HL2 hN2 hE2
  obtain ⟨nm', k1', p1', m1', n1', a1', b1', o1', N1', c1', k2', p2', m2', n2', a2', b2', o2', N2', c2', io', N3', ic', oo', N4', oc', md', rfl, HLA', HPL', HPR', HIF', HOU', HNM', HN1', HN2', HN3', HN4', HMD', q0', q1', q2', q3', q4'⟩ := law_gen hds
  clear hds HPL' HPR' HIF' HOU' HNM' HN1' HN2' HN3' HN4' HMD'
  obtain ⟨M, hM⟩ : ∃ x, w3.heap.size = x := ⟨_, rfl⟩
  have hBM : B < M := by have h1 := (Array.getElem?_eq_some_iff.1 HL3.out).1; omega
  have hnz : (w3.alloc (.cells #[.string ⟨#[]⟩, .int .i64 0, .int .u32 0, .int .u32 0, .bool false, .int .i64 0, .int .i64 0, .slice none 0 0, .int .i64 0, .int .u32 0, .int .u32 0, .bool false, .int .i64 0, .int .i64 0, .slice none 0 0, .slice none 0 0, .slice none 0 0, .int .i64 0] 31)).heap[M]? = some (.cells #[.string ⟨#[]⟩, .int .i64 0, .int .u32 0, .int .u32 0, .bool false, .int .i64 0, .int .i64 0, .slice none 0 0, .int .i64 0, .int .u32 0, .int .u32 0, .bool false, .int .i64 0, .int .i64 0, .slice none 0 0, .slice none 0 0, .slice none 0 0, .int .i64 0] 31 (0, 0)) := new_at hM.symm
  obtain ⟨w4, hw⟩ : ∃ D, (w3.alloc (.cells #[.string ⟨#[]⟩, .int .i64 0, .int .u32 0, .int .u32 0, .bool false, .int .i64 0, .int .i64 0, .slice none 0 0, .int .i64 0, .int .u32 0, .int .u32 0, .bool false, .int .i64 0, .int .i64 0, .slice none 0 0, .slice none 0 0, .slice none 0 0, .int .i64 0] 31)).setRow M #[.string nm', .int .i64 k1', .int .u32 (p1' : Int), .int .u32 (m1' : Int), .bool n1', .int .i64 a1', .int .i64 b1', .slice o1' N1' c1', .int .i64 k2', .int .u32 (p2' : Int), .int .u32 (m2' : Int), .bool n2', .int .i64 a2', .int .i64 b2', .slice o2' N2' c2', .slice io' N3' ic', .slice oo' N4' oc', .int .i64 md'] = D := ⟨_, rfl⟩
  have hT2 := Turn.setRow (w3.alloc (.cells #[.string ⟨#[]⟩, .int .i64 0, .int .u32 0, .int .u32 0, .bool false, .int .i64 0, .int .i64 0, .slice none 0 0, .int .i64 0, .int .u32 0, .int .u32 0, .bool false, .int .i64 0, .int .i64 0, .slice none 0 0, .slice none 0 0, .slice none 0 0, .int .i64 0] 31)) M #[.string nm', .int .i64 k1', .int .u32 (p1' : Int), .int .u32 (m1' : Int), .bool n1', .int .i64 a1', .int .i64 b1', .slice o1' N1' c1', .int .i64 k2', .int .u32 (p2' : Int), .int .u32 (m2' : Int), .bool n2', .int .i64 a2', .int .i64 b2', .slice o2' N2' c2', .slice io' N3' ic', .slice oo' N4' oc', .int .i64 md']
  have hx2 := setRow_heap _ _ _ #[.string nm', .int .i64 k1', .int .u32 (p1' : Int), .int .u32 (m1' : Int), .bool n1', .int .i64 a1', .int .i64 b1', .slice o1' N1' c1', .int .i64 k2', .int .u32 (p2' : Int), .int .u32 (m2' : Int), .bool n2', .int .i64 a2', .int .i64 b2', .slice o2' N2' c2', .slice io' N3' ic', .slice oo' N4' oc', .int .i64 md'] _ _ hnz
  rw [hw] at hT2 hx2
  have hN3 : Ext w3 w4 := Turn.after ((Turn.refl _ w3).alloc _) hT2 (fun b hb e => by omega)
  have hE4 : Ext w w4 := hE3.trans hN3
  have HL4 := Lib.hid (hN3.keep HL3.out); have HX4 := Lib.hid hx2; have HNZ := Lib.hid hnz; have HW := Lib.hid hw
  have HML : Hid (∀ D, Ext w4 D → LawAt D (mirLaw l') [.string nm', .int .i64 k1', .int .u32 (p1' : Int), .int .u32 (m1' : Int), .bool n1', .int .i64 a1', .int .i64 b1', .slice o1' N1' c1', .int .i64 k2', .int .u32 (p2' : Int), .int .u32 (m2' : Int), .bool n2', .int .i64 a2', .int .i64 b2', .slice o2' N2' c2', .slice io' N3' ic', .slice oo' N4' oc', .int .i64 md']) := Lib.hid (fun D hD => (HLA'.out.ext hN3).ext hD)
  clear hnz hw hT2 hx2 HL3 hN3 HLA'
  go_upto_region 6 with (refine wpList_store_row rfl 31 (.tmp 5) (.tmp 19) rfl M #[.string nm', .int .i64 k1', .int .u32 (p1' : Int), .int .u32 (m1' : Int), .bool n1', .int .i64 a1', .int .i64 b1', .slice o1' N1' c1', .int .i64 k2', .int .u32 (p2' : Int), .int .u32 (m2' : Int), .bool n2', .int .i64 a2', .int .i64 b2', .slice o2' N2' c2', .slice io' N3' ic', .slice oo' N4' oc', .int .i64 md'] rfl (by first | rfl | (simp [hM])) _ _ HNZ.out (by kernel_rfl) rfl (by kernel_rfl) ?_; rw [HW.out])
  clear HW HNZ hM hE3
  go_wp2_with (refine wpList_load_row rfl 31 (.tmp 2) rfl B rfl _ _ _ _ HL4.out Tryz.underlying31 rfl Tryz.lawInfo ?_)
  refine (HAP.out _ hE4).mono ?_
  rintro e w5 ⟨xo, xc, rfl, hO, hN⟩
  have hN4 : Ext w4 w5 := hN
  have hE5 : Ext w w5 := hE4.trans hN
  clear hN
  have HX5 := Lib.hid (hN4.keep HX4.out)
  have HML2 : Hid (∀ D, Ext w5 D → LawAt D (mirLaw l') [.string nm', .int .i64 k1', .int .u32 (p1' : Int), .int .u32 (m1' : Int), .bool n1', .int .i64 a1', .int .i64 b1', .slice o1' N1' c1', .int .i64 k2', .int .u32 (p2' : Int), .int .u32 (m2' : Int), .bool n2', .int .i64 a2', .int .i64 b2', .slice o2' N2' c2', .slice io' N3' ic', .slice oo' N4' oc', .int .i64 md']) := Lib.hid (fun D hD => HML.out D (hN4.trans hD))
  have HXW : Hid (∀ D, Ext w5 D → WordAt D (.slice xo nx xc) X) := Lib.hid (fun D hD => hO.ext hD)
  clear hO HML HAP HL4 HX4 hN4 hE4
  go_upto_region 7 with (fail)
  obtain ⟨V0, hV0⟩ : ∃ D, w5.drew = D := ⟨_, rfl⟩
  have e0 : Ext w5 V0 := by rw [← hV0]; exact (Turn.refl _ w5).drew
  have hL0 := e0.keep HX5.out
  refine wp_region_late (S := fun D => D.heap[M]? = some (.cells #[.string nm', .int .i64 k1', .int .u32 (p1' : Int), .int .u32 (m1' : Int), .bool n1', .int .i64 a1', .int .i64 b1', .slice o1' N1' c1', .int .i64 k2', .int .u32 (p2' : Int), .int .u32 (m2' : Int), .bool n2', .int .i64 a2', .int .i64 b2', .slice o2' N2' c2', .slice io' N3' ic', .slice oo' N4' oc', .int .i64 md'] 31 (0, 0))) [] (by kernel_rfl) (by rw [hV0]; exact hL0) ?_
  intro _
  have hS0 := hL0
  rw [hV0]
  clear hV0
  refine tkE (i := 0) (d := 27) (v := ?_) rfl (Or.inl ⟨by rfl, ?_⟩) hS0 ?_
  rotate_left
  ·intro w hSw; (try dsimp only at hSw); have hrow := hSw; refine exec_load_row (x := .tmp 5) ?_ M ?_ _ _ _ hrow Tryz.underlying31 Tryz.lawInfo <;> rfl
  try simp only [Act.put, pq]
  refine tkE (i := 1) (d := 28) (v := ?_) rfl (Or.inl ⟨by rfl, ?_⟩) hS0 ?_
  rotate_left
  ·intro w hSw; (try dsimp only at hSw); go_simp; try with_reducible rfl
  try simp only [Act.put, pq]
  refine wpAnyE_ready (rs := [2]) (by kernel_rfl) (by simp) ?_
  refine AllReadyE.cons rfl (fun K hK => ?_) AllReadyE.nil
  (try rw [if_pos (show Region.wanted _ _ = true from rfl)])
  go_simp
  refine (HRE.out _ (hE5.trans e0)).mono ?_
  rintro e V1 ⟨ro, rc, rfl, hO1, hN⟩
  have e1 : Ext w5 V1 := e0.trans hN
  have hL1 := hN.keep hL0
  obtain ⟨zo, zc, hq, hzw, hzc⟩ := one_own (u := ws.reverse) (by rw [List.length_reverse, HNV.out]; exact hO1) (fun x hx => HOK.out x (List.mem_reverse.1 hx))
  simp only [Value.slice.injEq] at hq
  rw [List.length_reverse, HNV.out] at hq hzc
  obtain ⟨rfl, _, rfl⟩ := hq
  have hx := app_one (HML2.out V1 e1) hzw (by rw [List.length_reverse, HNV.out]; exact hzc) (HTB.out V1 (hE5.trans e1))
  rw [HP1.out, HP2.out, List.length_reverse, List.length_reverse, HNV.out, HNX.out] at hx
  have HX := Lib.hid hx
  clear hx hzw hzc hO1 hN
  refine hK.out _ _ hL1 (fun hS1 => ?_)
  clear hK K
  try simp only [Act.put, pq]
  refine wpAnyE_ready (rs := [3]) (by kernel_rfl) (by simp) ?_
  refine AllReadyE.cons rfl (fun K hK => ?_) AllReadyE.nil
  (try rw [if_pos (show Region.wanted _ _ = true from rfl)])
  go_simp
  refine HX.out.mono ?_
  rintro e V2 ⟨yo, yc, rfl, hO2, hN⟩
  have e2 : Ext w5 V2 := e1.trans hN
  have hL2 := hN.keep hL1
  refine hK.out _ _ hL2 (fun hS2 => ?_)
  clear hK K hN
  try simp only [Act.put, pq]
  refine tkE (i := 4) (d := 26) (v := ?_) rfl (Or.inl ⟨by rfl, ?_⟩) hS2 ?_
  rotate_left
  ·intro w hSw; (try dsimp only at hSw); go_simp; try with_reducible rfl
  try simp only [Act.put, pq]
  refine tkE (i := 5) (d := 31) (v := ?_) rfl (Or.inl ⟨by rfl, ?_⟩) hS2 ?_
  rotate_left
  ·intro w hSw; (try dsimp only at hSw); go_simp; try with_reducible rfl
  try simp only [Act.put, pq]
  refine tkE (i := 6) (d := 32) (v := ?_) rfl (Or.inl ⟨by rfl, ?_⟩) hS2 ?_
  rotate_left
  ·intro w hSw; (try dsimp only at hSw); go_simp; try with_reducible rfl
  try simp only [Act.put, pq]
  refine tkE (i := 7) (d := 8) (v := ?_) rfl (Or.inl ⟨by rfl, ?_⟩) hS2 ?_
  rotate_left
  ·intro w hSw; (try dsimp only at hSw); go_simp; try with_reducible rfl
  try simp only [Act.put, pq]
  refine tkE (i := 8) (d := 9) (v := ?_) rfl (Or.inl ⟨by rfl, ?_⟩) hS2 ?_
  rotate_left
  ·intro w hSw; (try dsimp only at hSw); go_simp; try with_reducible rfl
  try simp only [Act.put, pq]
  refine wpAnyE_done (by kernel_rfl) ?_ _
  obtain ⟨w6, hq⟩ : ∃ D, V2 = D := ⟨_, rfl⟩
  rw [hq] at hO2 e2 hL2 ⊢
  have hE6 : Ext w w6 := hE5.trans e2
  have HX6 := Lib.hid hL2
  have HML := Lib.hid (HML2.out w6 e2)
  have HXW2 : Hid (∀ D, Ext w6 D → WordAt D (.slice xo nx xc) X) := Lib.hid (fun D hD => HXW.out D (e2.trans hD))
  have HYW : Hid (WordAt w6 (.slice yo nx yc) X.reverse) := Lib.hid hO2
  clear hq hL2 hS2 e2 hL1 hS1 e1 hL0 hS0 e0 HX hO2 HML2 HXW HRE HX5 hE5
  have hcm := lcheck_any HML.out (HTB.out w6 hE6)
  rw [HP3.out] at hcm
  have HCM := Lib.hid hcm
  clear hcm
  go_wp2_with (refine wpList_load_row rfl 31 (.tmp 5) rfl M rfl _ _ _ _ HX6.out Tryz.underlying31 rfl Tryz.lawInfo ?_)
  refine (HCM.out).mono ?_
  rintro e w7 ⟨rfl, hN⟩
  have hN6 : Ext w6 w7 := hN
  have hE7 : Ext w w7 := hE6.trans hN
  clear hN
  have HYW2 := Lib.hid (HYW.out.ext hN6)
  have HXW3 : Hid (∀ D, Ext w7 D → WordAt D (.slice xo nx xc) X) := Lib.hid (fun D hD => HXW2.out D (hN6.trans hD))
  clear HCM HML HYW HXW2 HX6 hN6 hE6
  go_wp2_with fail
  refine (reversed_any HYW2.out (by rw [List.length_reverse]; exact HNX.out) (by omega)).mono ?_
  rintro e w8 ⟨so, sc, rfl, hO, hN⟩
  have hE8 : Ext w w8 := hE7.trans hN
  rw [List.reverse_reverse] at hO
  have hsw := own_word (by rw [HNX.out]; exact hO) (HXW3.out _ (Turn.refl _ _)).2
  have HXW4 := Lib.hid (HXW3.out _ hN); have HSW := Lib.hid hsw
  clear hO hN hsw HXW3 HYW2 hE7
  go_wp2_with fail
  refine (same_self HXW4.out HSW.out).mono ?_
  rintro e w9 ⟨rfl, hN⟩
  have hN8 : Ext w8 w9 := hN
  have hE9 : Ext w w9 := hE8.trans hN
  clear hN
  clear HXW4 HSW hN8 hE8
  go_wp2_with fail
  refine (HWO.out _ hE9).mono ?_
  rintro e w10 ⟨rfl, hN⟩
  have hN9 : Ext w9 w10 := hN
  have hE10 : Ext w w10 := hE9.trans hN
  clear hN
  have HEND := Lib.hid hE10
  clear hE9 hE10
  go_wp2
  go_ret
  exact ⟨rfl, HEND.out⟩
 have hmb : (md != 3) = true := by rw [bne_iff_ne]; exact hm3
 obtain ⟨w2, hw⟩ : ∃ D, w1.setCell ⟨B, 17, none⟩ (.int .i64 2) = D := ⟨_, rfl⟩
 have hl2 : w2.heap[B]? = some (.cells #[.string nm, .int .i64 k1, .int .u32 (p1 : Int), .int .u32 (m1 : Int), .bool n1, .int .i64 a1, .int .i64 b1, .slice o1 N1 c1, .int .i64 k2, .int .u32 (p2 : Int), .int .u32 (m2 : Int), .bool n2, .int .i64 a2, .int .i64 b2, .slice o2 N2 c2, .slice io N3 ic, .slice oo N4 oc, .int .i64 2] 31 (0, 0)) := by rw [← hw]; exact mode_set HL1.out
 have hE2 : Ext w w2 := by rw [← hw]; exact hE1.after (Turn.set1 _ _ _ _) (fun b hb e => by have := HB.out; omega)
 have fS := froz_row HL1.out (o := 17) (by simp)
 go_upto_region 3 with (fail)
 try rw [hw]
 have HL2 := Lib.hid hl2
 clear hl2 hw HL1 hE1 cX fS hmb
 have hck := HCK.out 2; have hmi := HMI.out 2; have hap := HAP.out 2; have hpl := HMP.out 2 (.inl rfl); have hsz := @app_short (modeL l 2) ws; have hbad := @appL_bad (modeL l 2) ws
 clear HCK HMI HAP HMP
 obtain ⟨l', hq⟩ : ∃ R, modeL l 2 = R := ⟨_, rfl⟩
 simp only [hq] at hck hmi hap hpl hsz hbad
 clear hq
 obtain ⟨E, hq⟩ : ∃ R, lawE l' = R := ⟨_, rfl⟩
 simp only [hq] at hck hmi hpl
 clear hq
 obtain ⟨Ev, hq⟩ : ∃ R, trE l' ws = R := ⟨_, rfl⟩
 simp only [hq] at hap hpl hsz hbad
 clear hq
 obtain ⟨X, hq⟩ : ∃ R, appL l' ws = R := ⟨_, rfl⟩
 simp only [hq] at hap hpl hsz hbad
 clear hq
 obtain ⟨nx, hnx⟩ : ∃ n, X.length = n := ⟨_, rfl⟩
 have hnx32 : nx ≤ 32 := by
    by_cases h : Ev = 0
    ·rw [← hnx]; exact hsz h
    ·rw [← hnx, hbad h]; exact Nat.zero_le _
 simp only [hnx] at hap
 have HCK := Lib.hid hck; have HMI := Lib.hid hmi; have HAP := Lib.hid hap; have HMP := Lib.hid hpl; have HNX := Lib.hid hnx
 clear hck hmi hap hpl hsz hbad hnx
 go_wp2_with (refine wpList_load_row rfl 31 (.tmp 2) rfl B rfl _ _ _ _ HL2.out Tryz.underlying31 rfl Tryz.lawInfo ?_)
 refine (HCK.out _ hE2).mono ?_
 rintro e w3 ⟨rfl, hN⟩
 have hN2 : Ext w2 w3 := hN
 have hE3 : Ext w w3 := hE2.trans hN
 clear hN
 have HL3 := Lib.hid (hN2.keep HL2.out)
 clear HCK HL2 hN2 hE2
 by_cases hE0 : E = 0
 case neg =>
  have h9 : (E != 0) = true := by rw [bne_iff_ne]; exact hE0
  clear HAP HMI HMP HRE
  go_wp2_with fail
  refine (HWO.out _ hE3).mono ?_
  rintro e w4 ⟨rfl, hN⟩
  have hN3 : Ext w3 w4 := hN
  have hE4 : Ext w w4 := hE3.trans hN
  clear hN
  have HEND := Lib.hid hE4
  clear hE3 hE4
  go_wp2
  go_ret
  exact ⟨rfl, HEND.out⟩
 subst hE0
 obtain ⟨⟨hp1, hp2⟩, hp3⟩ := HMP.out rfl
 have HP1 := Lib.hid hp1; have HP2 := Lib.hid hp2; have HP3 := Lib.hid hp3
 clear hp1 hp2 hp3 HMP
 go_wp2_with (refine wpList_load_row rfl 31 (.tmp 2) rfl B rfl _ _ _ _ HL3.out Tryz.underlying31 rfl Tryz.lawInfo ?_)
 refine (HMI.out (by first | trivial | rfl) _ hE3).mono ?_
 rintro e w4 ⟨ds, rfl, hds, hN⟩
 have hN3 : Ext w3 w4 := hN
 have hE4 : Ext w w4 := hE3.trans hN
 clear hN
 have HL4 := Lib.hid (hN3.keep HL3.out)
 clear HMI HL3 hN3 hE3
 obtain ⟨nm', k1', p1', m1', n1', a1', b1', o1', N1', c1', k2', p2', m2', n2', a2', b2', o2', N2', c2', io', N3', ic', oo', N4', oc', md', rfl, HLA', HPL', HPR', HIF', HOU', HNM', HN1', HN2', HN3', HN4', HMD', q0', q1', q2', q3', q4'⟩ := law_gen hds
 clear hds HPL' HPR' HIF' HOU' HNM' HN1' HN2' HN3' HN4' HMD'
 obtain ⟨M, hM⟩ : ∃ x, w4.heap.size = x := ⟨_, rfl⟩
 have hBM : B < M := by have h1 := (Array.getElem?_eq_some_iff.1 HL4.out).1; omega
 have hnz : (w4.alloc (.cells #[.string ⟨#[]⟩, .int .i64 0, .int .u32 0, .int .u32 0, .bool false, .int .i64 0, .int .i64 0, .slice none 0 0, .int .i64 0, .int .u32 0, .int .u32 0, .bool false, .int .i64 0, .int .i64 0, .slice none 0 0, .slice none 0 0, .slice none 0 0, .int .i64 0] 31)).heap[M]? = some (.cells #[.string ⟨#[]⟩, .int .i64 0, .int .u32 0, .int .u32 0, .bool false, .int .i64 0, .int .i64 0, .slice none 0 0, .int .i64 0, .int .u32 0, .int .u32 0, .bool false, .int .i64 0, .int .i64 0, .slice none 0 0, .slice none 0 0, .slice none 0 0, .int .i64 0] 31 (0, 0)) := new_at hM.symm
 obtain ⟨w5, hw⟩ : ∃ D, (w4.alloc (.cells #[.string ⟨#[]⟩, .int .i64 0, .int .u32 0, .int .u32 0, .bool false, .int .i64 0, .int .i64 0, .slice none 0 0, .int .i64 0, .int .u32 0, .int .u32 0, .bool false, .int .i64 0, .int .i64 0, .slice none 0 0, .slice none 0 0, .slice none 0 0, .int .i64 0] 31)).setRow M #[.string nm', .int .i64 k1', .int .u32 (p1' : Int), .int .u32 (m1' : Int), .bool n1', .int .i64 a1', .int .i64 b1', .slice o1' N1' c1', .int .i64 k2', .int .u32 (p2' : Int), .int .u32 (m2' : Int), .bool n2', .int .i64 a2', .int .i64 b2', .slice o2' N2' c2', .slice io' N3' ic', .slice oo' N4' oc', .int .i64 md'] = D := ⟨_, rfl⟩
 have hT2 := Turn.setRow (w4.alloc (.cells #[.string ⟨#[]⟩, .int .i64 0, .int .u32 0, .int .u32 0, .bool false, .int .i64 0, .int .i64 0, .slice none 0 0, .int .i64 0, .int .u32 0, .int .u32 0, .bool false, .int .i64 0, .int .i64 0, .slice none 0 0, .slice none 0 0, .slice none 0 0, .int .i64 0] 31)) M #[.string nm', .int .i64 k1', .int .u32 (p1' : Int), .int .u32 (m1' : Int), .bool n1', .int .i64 a1', .int .i64 b1', .slice o1' N1' c1', .int .i64 k2', .int .u32 (p2' : Int), .int .u32 (m2' : Int), .bool n2', .int .i64 a2', .int .i64 b2', .slice o2' N2' c2', .slice io' N3' ic', .slice oo' N4' oc', .int .i64 md']
 have hx2 := setRow_heap _ _ _ #[.string nm', .int .i64 k1', .int .u32 (p1' : Int), .int .u32 (m1' : Int), .bool n1', .int .i64 a1', .int .i64 b1', .slice o1' N1' c1', .int .i64 k2', .int .u32 (p2' : Int), .int .u32 (m2' : Int), .bool n2', .int .i64 a2', .int .i64 b2', .slice o2' N2' c2', .slice io' N3' ic', .slice oo' N4' oc', .int .i64 md'] _ _ hnz
 rw [hw] at hT2 hx2
 have hN4 : Ext w4 w5 := Turn.after ((Turn.refl _ w4).alloc _) hT2 (fun b hb e => by omega)
 have hE5 : Ext w w5 := hE4.trans hN4
 have HL5 := Lib.hid (hN4.keep HL4.out); have HX5 := Lib.hid hx2; have HNZ := Lib.hid hnz; have HW := Lib.hid hw
 have HML : Hid (∀ D, Ext w5 D → LawAt D (mirLaw l') [.string nm', .int .i64 k1', .int .u32 (p1' : Int), .int .u32 (m1' : Int), .bool n1', .int .i64 a1', .int .i64 b1', .slice o1' N1' c1', .int .i64 k2', .int .u32 (p2' : Int), .int .u32 (m2' : Int), .bool n2', .int .i64 a2', .int .i64 b2', .slice o2' N2' c2', .slice io' N3' ic', .slice oo' N4' oc', .int .i64 md']) := Lib.hid (fun D hD => (HLA'.out.ext hN4).ext hD)
 clear hnz hw hT2 hx2 HL4 hN4 HLA'
 go_upto_region 6 with (refine wpList_store_row rfl 31 (.tmp 5) (.tmp 19) rfl M #[.string nm', .int .i64 k1', .int .u32 (p1' : Int), .int .u32 (m1' : Int), .bool n1', .int .i64 a1', .int .i64 b1', .slice o1' N1' c1', .int .i64 k2', .int .u32 (p2' : Int), .int .u32 (m2' : Int), .bool n2', .int .i64 a2', .int .i64 b2', .slice o2' N2' c2', .slice io' N3' ic', .slice oo' N4' oc', .int .i64 md'] rfl (by first | rfl | (simp [hM])) _ _ HNZ.out (by kernel_rfl) rfl (by kernel_rfl) ?_; rw [HW.out])
 clear HW HNZ hM hE4
 go_wp2_with (refine wpList_load_row rfl 31 (.tmp 2) rfl B rfl _ _ _ _ HL5.out Tryz.underlying31 rfl Tryz.lawInfo ?_)
 refine (HAP.out _ hE5).mono ?_
 rintro e w6 ⟨xo, xc, rfl, hO, hN⟩
 have hN5 : Ext w5 w6 := hN
 have hE6 : Ext w w6 := hE5.trans hN
 clear hN
 have HX6 := Lib.hid (hN5.keep HX5.out)
 have HML2 : Hid (∀ D, Ext w6 D → LawAt D (mirLaw l') [.string nm', .int .i64 k1', .int .u32 (p1' : Int), .int .u32 (m1' : Int), .bool n1', .int .i64 a1', .int .i64 b1', .slice o1' N1' c1', .int .i64 k2', .int .u32 (p2' : Int), .int .u32 (m2' : Int), .bool n2', .int .i64 a2', .int .i64 b2', .slice o2' N2' c2', .slice io' N3' ic', .slice oo' N4' oc', .int .i64 md']) := Lib.hid (fun D hD => HML.out D (hN5.trans hD))
 have HXW : Hid (∀ D, Ext w6 D → WordAt D (.slice xo nx xc) X) := Lib.hid (fun D hD => hO.ext hD)
 clear hO HML HAP HL5 HX5 hN5 hE5
 go_upto_region 7 with (fail)
 obtain ⟨V0, hV0⟩ : ∃ D, w6.drew = D := ⟨_, rfl⟩
 have e0 : Ext w6 V0 := by rw [← hV0]; exact (Turn.refl _ w6).drew
 have hL0 := e0.keep HX6.out
 refine wp_region_late (S := fun D => D.heap[M]? = some (.cells #[.string nm', .int .i64 k1', .int .u32 (p1' : Int), .int .u32 (m1' : Int), .bool n1', .int .i64 a1', .int .i64 b1', .slice o1' N1' c1', .int .i64 k2', .int .u32 (p2' : Int), .int .u32 (m2' : Int), .bool n2', .int .i64 a2', .int .i64 b2', .slice o2' N2' c2', .slice io' N3' ic', .slice oo' N4' oc', .int .i64 md'] 31 (0, 0))) [] (by kernel_rfl) (by rw [hV0]; exact hL0) ?_
 intro _
 have hS0 := hL0
 rw [hV0]
 clear hV0
 refine tkE (i := 0) (d := 27) (v := ?_) rfl (Or.inl ⟨by rfl, ?_⟩) hS0 ?_
 rotate_left
 ·intro w hSw; (try dsimp only at hSw); have hrow := hSw; refine exec_load_row (x := .tmp 5) ?_ M ?_ _ _ _ hrow Tryz.underlying31 Tryz.lawInfo <;> rfl
 try simp only [Act.put, pq]
 refine tkE (i := 1) (d := 28) (v := ?_) rfl (Or.inl ⟨by rfl, ?_⟩) hS0 ?_
 rotate_left
 ·intro w hSw; (try dsimp only at hSw); go_simp; try with_reducible rfl
 try simp only [Act.put, pq]
 refine wpAnyE_ready (rs := [2]) (by kernel_rfl) (by simp) ?_
 refine AllReadyE.cons rfl (fun K hK => ?_) AllReadyE.nil
 (try rw [if_pos (show Region.wanted _ _ = true from rfl)])
 go_simp
 refine (HRE.out _ (hE6.trans e0)).mono ?_
 rintro e V1 ⟨ro, rc, rfl, hO1, hN⟩
 have e1 : Ext w6 V1 := e0.trans hN
 have hL1 := hN.keep hL0
 obtain ⟨zo, zc, hq, hzw, hzc⟩ := one_own (u := ws.reverse) (by rw [List.length_reverse, HNV.out]; exact hO1) (fun x hx => HOK.out x (List.mem_reverse.1 hx))
 simp only [Value.slice.injEq] at hq
 rw [List.length_reverse, HNV.out] at hq hzc
 obtain ⟨rfl, _, rfl⟩ := hq
 have hx := app_one (HML2.out V1 e1) hzw (by rw [List.length_reverse, HNV.out]; exact hzc) (HTB.out V1 (hE6.trans e1))
 rw [HP1.out, HP2.out, List.length_reverse, List.length_reverse, HNV.out, HNX.out] at hx
 have HX := Lib.hid hx
 clear hx hzw hzc hO1 hN
 refine hK.out _ _ hL1 (fun hS1 => ?_)
 clear hK K
 try simp only [Act.put, pq]
 refine wpAnyE_ready (rs := [3]) (by kernel_rfl) (by simp) ?_
 refine AllReadyE.cons rfl (fun K hK => ?_) AllReadyE.nil
 (try rw [if_pos (show Region.wanted _ _ = true from rfl)])
 go_simp
 refine HX.out.mono ?_
 rintro e V2 ⟨yo, yc, rfl, hO2, hN⟩
 have e2 : Ext w6 V2 := e1.trans hN
 have hL2 := hN.keep hL1
 refine hK.out _ _ hL2 (fun hS2 => ?_)
 clear hK K hN
 try simp only [Act.put, pq]
 refine tkE (i := 4) (d := 26) (v := ?_) rfl (Or.inl ⟨by rfl, ?_⟩) hS2 ?_
 rotate_left
 ·intro w hSw; (try dsimp only at hSw); go_simp; try with_reducible rfl
 try simp only [Act.put, pq]
 refine tkE (i := 5) (d := 31) (v := ?_) rfl (Or.inl ⟨by rfl, ?_⟩) hS2 ?_
 rotate_left
 ·intro w hSw; (try dsimp only at hSw); go_simp; try with_reducible rfl
 try simp only [Act.put, pq]
 refine tkE (i := 6) (d := 32) (v := ?_) rfl (Or.inl ⟨by rfl, ?_⟩) hS2 ?_
 rotate_left
 ·intro w hSw; (try dsimp only at hSw); go_simp; try with_reducible rfl
 try simp only [Act.put, pq]
 refine tkE (i := 7) (d := 8) (v := ?_) rfl (Or.inl ⟨by rfl, ?_⟩) hS2 ?_
 rotate_left
 ·intro w hSw; (try dsimp only at hSw); go_simp; try with_reducible rfl
 try simp only [Act.put, pq]
 refine tkE (i := 8) (d := 9) (v := ?_) rfl (Or.inl ⟨by rfl, ?_⟩) hS2 ?_
 rotate_left
 ·intro w hSw; (try dsimp only at hSw); go_simp; try with_reducible rfl
 try simp only [Act.put, pq]
 refine wpAnyE_done (by kernel_rfl) ?_ _
 obtain ⟨w7, hq⟩ : ∃ D, V2 = D := ⟨_, rfl⟩
 rw [hq] at hO2 e2 hL2 ⊢
 have hE7 : Ext w w7 := hE6.trans e2
 have HX7 := Lib.hid hL2
 have HML := Lib.hid (HML2.out w7 e2)
 have HXW2 : Hid (∀ D, Ext w7 D → WordAt D (.slice xo nx xc) X) := Lib.hid (fun D hD => HXW.out D (e2.trans hD))
 have HYW : Hid (WordAt w7 (.slice yo nx yc) X.reverse) := Lib.hid hO2
 clear hq hL2 hS2 e2 hL1 hS1 e1 hL0 hS0 e0 HX hO2 HML2 HXW HRE HX6 hE6
 have hcm := lcheck_any HML.out (HTB.out w7 hE7)
 rw [HP3.out] at hcm
 have HCM := Lib.hid hcm
 clear hcm
 go_wp2_with (refine wpList_load_row rfl 31 (.tmp 5) rfl M rfl _ _ _ _ HX7.out Tryz.underlying31 rfl Tryz.lawInfo ?_)
 refine (HCM.out).mono ?_
 rintro e w8 ⟨rfl, hN⟩
 have hN7 : Ext w7 w8 := hN
 have hE8 : Ext w w8 := hE7.trans hN
 clear hN
 have HYW2 := Lib.hid (HYW.out.ext hN7)
 have HXW3 : Hid (∀ D, Ext w8 D → WordAt D (.slice xo nx xc) X) := Lib.hid (fun D hD => HXW2.out D (hN7.trans hD))
 clear HCM HML HYW HXW2 HX7 hN7 hE7
 go_wp2_with fail
 refine (reversed_any HYW2.out (by rw [List.length_reverse]; exact HNX.out) (by omega)).mono ?_
 rintro e w9 ⟨so, sc, rfl, hO, hN⟩
 have hE9 : Ext w w9 := hE8.trans hN
 rw [List.reverse_reverse] at hO
 have hsw := own_word (by rw [HNX.out]; exact hO) (HXW3.out _ (Turn.refl _ _)).2
 have HXW4 := Lib.hid (HXW3.out _ hN); have HSW := Lib.hid hsw
 clear hO hN hsw HXW3 HYW2 hE8
 go_wp2_with fail
 refine (same_self HXW4.out HSW.out).mono ?_
 rintro e w10 ⟨rfl, hN⟩
 have hN9 : Ext w9 w10 := hN
 have hE10 : Ext w w10 := hE9.trans hN
 clear hN
 clear HXW4 HSW hN9 hE9
 go_wp2_with fail
 refine (HWO.out _ hE10).mono ?_
 rintro e w11 ⟨rfl, hN⟩
 have hN10 : Ext w10 w11 := hN
 have hE11 : Ext w w11 := hE10.trans hN
 clear hN
 have HEND := Lib.hid hE11
 clear hE10 hE11
 go_wp2
 go_ret
 exact ⟨rfl, HEND.out⟩
end Go.Proofs.YtedhogbocifipaaGreatDoor
