/- law.Once (printed by genonce.py). -/
import Derived.Test.YtamkkhlabfahmaaGreatDoorGa17
import Derived.Test.YtamkkhlabfahmaaGreatDoorGa12
set_option maxRecDepth 100000
set_option maxHeartbeats 8000000
namespace Go.Proofs.YtamkkhlabfahmaaGreatDoor
open Go.RowKit Go.Ab
attribute [local go_sem] Oper.semAt_some wide_fn wide_depth

def onceE (l : LawD) (ws : Wd) (z : Int) : Int :=
 if lawW l ws = 0 then (if z < 0 ∨ (ws.length : Int) < z then 3 else if hitL l ws z.toNat = false then 5 else if 32 < (replL l ws z.toNat).length then 11 else 0) else lawW l ws
def onceW (l : LawD) (ws : Wd) (z : Int) : Wd := if onceE l ws z = 0 then replL l ws z.toNat else []
theorem own_nilS {w : World} {e : TypeId} {b : Nat} : w.ownsRow b e 2 (.slice none 0 0) ([] : Wd).length (sndL []) := World.ownsRow_nil _ _ _ _

theorem lonce_any {w : World} {l : LawD} {cs : List Value} {vo : Option Addr} {vc : Nat} {ws : Wd} (hl : LawAt w l cs) (hv : WordAt w (.slice vo ws.length vc) ws) (hcap : ws.length ≤ vc) (hT : Tab w) (z : Int) :
  Calls Tryz.prog 20 #[.agg cs.toArray, .slice vo ws.length vc, .int .i64 z] w fun e w' => ∃ u, e = .returned (.tuple #[u, .int .i64 (onceE l ws z)]) ∧ w'.ownsRow w.heap.size 24 2 u (onceW l ws z).length (sndL (onceW l ws z)) ∧ Ext w w' := by
 have hck := fun (V : World) (hE : Ext w V) => lwcheck_any (hl.ext hE) (hv.ext hE) (hT.keep hE id)
 have hhi : lawW l ws = 0 → ∀ (i : Nat), i ≤ ws.length → ∀ V, Ext w V → Calls Tryz.prog 63 #[.agg cs.toArray, .slice vo ws.length vc, .int .i64 i] V fun e w' => e = .returned (.bool (hitL l ws i)) ∧ Ext V w' := by
  intro h0 i hi V hE
  obtain ⟨hlaw, hw0⟩ := lawW_zero h0
  obtain ⟨hk4, _⟩ := lawB_parts hlaw
  have hwl := wE_le hw0
  exact hit_any (hl.ext hE) (hv.ext hE) (hT.keep hE id) i (by omega) (by omega)
 have hre : lawW l ws = 0 → ∀ (i : Nat), hitL l ws i = true → ∀ V, Ext w V → Calls Tryz.prog 64 #[.agg cs.toArray, .slice vo ws.length vc, .int .i64 i] V fun e w' => ∃ u, e = .returned u ∧ w'.ownsRow V.heap.size 24 2 u (replL l ws i).length (sndL (replL l ws i)) ∧ Ext V w' := by
  intro h0 i hi V hE
  obtain ⟨hlaw, hw0⟩ := lawW_zero h0
  obtain ⟨hk4, hm6, _, _, hfits, _⟩ := lawB_parts hlaw
  have hwl := wE_le hw0
  exact replace_any (hl.ext hE) (hv.ext hE) rfl hcap i (hit_le hi) hfits (by omega) (by omega)
 have hrl : lawW l ws = 0 → ∀ (i : Nat), hitL l ws i = true → (replL l ws i).length ≤ 100 := by
  intro h0 i hi
  obtain ⟨hlaw, hw0⟩ := lawW_zero h0
  obtain ⟨hk4, hm6, _⟩ := lawB_parts hlaw
  have hwl := wE_le hw0
  have := replL_length (l := l) (hit_le hi)
  omega
 have HOE : Hid (onceE l ws z = if lawW l ws = 0 then (if z < 0 ∨ (ws.length : Int) < z then 3 else if hitL l ws z.toNat = false then 5 else if 32 < (replL l ws z.toNat).length then 11 else 0) else lawW l ws) := Lib.hid rfl
 have HOW : Hid (onceW l ws z = if onceE l ws z = 0 then replL l ws z.toNat else []) := Lib.hid rfl
 have hlm := hv.1.2.1
 unfold maxLen at hlm
 obtain ⟨wn, hwn⟩ : ∃ n, ws.length = n := ⟨_, rfl⟩
 rw [hwn] at hck hhi hre HOE hlm ⊢
 obtain ⟨nm, k1, p1, m1, n1, a1, b1, o1, N1, c1, k2, p2, m2, n2, a2, b2, o2, N2, c2, io, N3, ic, oo, N4, oc, md, rfl, HLA, HPL, HPR, HIF, HOU, HNM, HN1, HN2, HN3, HN4, HMD, q0, q1, q2, q3, q4⟩ := law_gen hl
 obtain ⟨R, hR⟩ : ∃ R, lawW l ws = R := ⟨_, rfl⟩
 obtain ⟨E, hE⟩ : ∃ R, onceE l ws z = R := ⟨_, rfl⟩
 obtain ⟨U, hU⟩ : ∃ R, onceW l ws z = R := ⟨_, rfl⟩
 rw [hR] at hck hhi hre hrl HOE
 rw [hE] at HOE HOW ⊢
 rw [hU] at HOW ⊢
 have HCK := Lib.hid hck; have HHI := Lib.hid hhi; have HRE := Lib.hid hre; have HRL := Lib.hid hrl
 clear hl hv hT hwn hck hhi hre hrl hR hE hU
 obtain ⟨w0, hw0⟩ : ∃ D, w.alloc (.cells #[.string nm, .int .i64 k1, .int .u32 (p1 : Int), .int .u32 (m1 : Int), .bool n1, .int .i64 a1, .int .i64 b1, .slice o1 N1 c1, .int .i64 k2, .int .u32 (p2 : Int), .int .u32 (m2 : Int), .bool n2, .int .i64 a2, .int .i64 b2, .slice o2 N2 c2, .slice io N3 ic, .slice oo N4 oc, .int .i64 md] 34) = D := ⟨_, rfl⟩
 have hE0 : Ext w w0 := by rw [← hw0]; exact (Turn.refl _ w).alloc _
 have hl0 : w0.heap[w.heap.size]? = some (.cells #[.string nm, .int .i64 k1, .int .u32 (p1 : Int), .int .u32 (m1 : Int), .bool n1, .int .i64 a1, .int .i64 b1, .slice o1 N1 c1, .int .i64 k2, .int .u32 (p2 : Int), .int .u32 (m2 : Int), .bool n2, .int .i64 a2, .int .i64 b2, .slice o2 N2 c2, .slice io N3 ic, .slice oo N4 oc, .int .i64 md] 34 (0, 0)) := by rw [← hw0]; exact new_at rfl
 have HL0 := Lib.hid hl0; have HW0 := Lib.hid hw0
 clear hl0 hw0
 go_enter Tryz.func20, Tryz.ntmps20
 go_upto_region 1 with (fail)
 rw [HW0.out]
 obtain ⟨B, hB⟩ : ∃ b, w.heap.size = b := ⟨_, rfl⟩
 have HBW := Lib.hid hB
 rw [hB] at HL0 ⊢
 clear hB HW0
 go_wp2_with (refine wpList_load_row rfl 34 (.tmp 3) rfl B rfl _ _ _ _ HL0.out Tryz.underlying34 rfl Tryz.lawInfo ?_)
 refine (HCK.out _ hE0).mono ?_
 rintro e w1 ⟨rfl, hN⟩
 have hE1 := hE0.trans hN
 have HL1 := Lib.hid (hN.keep HL0.out)
 clear hN hE0 HL0
 by_cases h0 : R = 0
 case neg =>
  have h1 : (R != 0) = true := by rw [bne_iff_ne]; exact h0
  have HE : Hid (E = R) := Lib.hid (by rw [HOE.out, if_neg h0])
  have HU : Hid (U = []) := Lib.hid (by rw [HOW.out, if_neg (by rw [HE.out]; exact h0)])
  go_wp2
  go_ret2
  exact ⟨_, by rw [HE.out]; rfl, by rw [HU.out]; exact own_nilS, hE1⟩
 have hz9 : (R != 0) = false := by rw [h0]; rfl
 have HOE1 : Hid (E = if z < 0 ∨ (wn : Int) < z then 3 else if hitL l ws z.toNat = false then 5 else if 32 < (replL l ws z.toNat).length then 11 else 0) := Lib.hid (by rw [HOE.out, if_pos h0])
 have HHI1 := Lib.hid (HHI.out h0); have HRE1 := Lib.hid (HRE.out h0); have HRL1 := Lib.hid (HRL.out h0)
 clear HOE HHI HRE HRL h0
 by_cases hz0 : z < 0
 ·have HE : Hid (E = 3) := Lib.hid (by rw [HOE1.out, if_pos (.inl hz0)])
  have HU : Hid (U = []) := Lib.hid (by rw [HOW.out, if_neg (by rw [HE.out]; decide)])
  go_wp2
  go_ret2
  exact ⟨_, by rw [HE.out]; rfl, by rw [HU.out]; exact own_nilS, hE1⟩
 by_cases hz1 : (wn : Int) < z
 ·have HE : Hid (E = 3) := Lib.hid (by rw [HOE1.out, if_pos (.inr hz1)])
  have HU : Hid (U = []) := Lib.hid (by rw [HOW.out, if_neg (by rw [HE.out]; decide)])
  go_wp2
  go_ret2
  exact ⟨_, by rw [HE.out]; rfl, by rw [HU.out]; exact own_nilS, hE1⟩
 obtain ⟨i, rfl⟩ := Int.eq_ofNat_of_zero_le (show 0 ≤ z by omega)
 have HOE2 : Hid (E = if hitL l ws i = false then 5 else if 32 < (replL l ws i).length then 11 else 0) := Lib.hid (by rw [HOE1.out, if_neg (fun q => q.elim hz0 hz1)]; rfl)
 have HOW2 : Hid (U = if E = 0 then replL l ws i else []) := Lib.hid (by rw [HOW.out]; rfl)
 clear HOE1 HOW
 have hhc := HHI1.out i (by omega) w1 hE1
 obtain ⟨hb, hhb⟩ : ∃ b, hitL l ws i = b := ⟨_, rfl⟩
 rw [hhb] at hhc HOE2
 have HHC := Lib.hid hhc; have HHB := Lib.hid hhb
 clear hhc hhb HHI1
 go_wp2_with (refine wpList_load_row rfl 34 (.tmp 3) rfl B rfl _ _ _ _ HL1.out Tryz.underlying34 rfl Tryz.lawInfo ?_)
 refine HHC.out.mono ?_
 rintro e w2 ⟨rfl, hN⟩
 have hE2 := hE1.trans hN
 have HL2 := Lib.hid (hN.keep HL1.out)
 clear hN hE1 HL1 HHC
 cases hb
 ·have HE : Hid (E = 5) := Lib.hid (by rw [HOE2.out]; rfl)
  have HU : Hid (U = []) := Lib.hid (by rw [HOW2.out, if_neg (by rw [HE.out]; decide)])
  go_wp2
  go_ret2
  exact ⟨_, by rw [HE.out]; rfl, by rw [HU.out]; exact own_nilS, hE2⟩
 have hrc := HRE1.out i HHB.out w2 hE2
 have hrl := HRL1.out i HHB.out
 obtain ⟨r, hr⟩ : ∃ r, replL l ws i = r := ⟨_, rfl⟩
 rw [hr] at hrc hrl HOE2 HOW2
 obtain ⟨rn, hrn⟩ : ∃ n, r.length = n := ⟨_, rfl⟩
 rw [hrn] at hrc hrl HOE2
 have HRC := Lib.hid hrc; have HRN := Lib.hid hrn
 clear hrc hr hrn HRE1 HRL1
 go_wp2_with (refine wpList_load_row rfl 34 (.tmp 3) rfl B rfl _ _ _ _ HL2.out Tryz.underlying34 rfl Tryz.lawInfo ?_)
 refine HRC.out.mono ?_
 rintro e w3 ⟨u, rfl, hO, hN⟩
 have hE3 := hE2.trans hN
 obtain ⟨uo, uc, rfl⟩ := own_slice hO
 have hbz := hE2.size
 have HO := Lib.hid (own_base hO (by have := HBW.out; omega : w.heap.size ≤ w2.heap.size))
 clear hO hN hE2 HL2 HRC
 by_cases h32 : 32 < rn
 ·have h33 : (32 : Int) < (rn : Int) := by omega
  have HE : Hid (E = 11) := Lib.hid (by rw [HOE2.out, if_neg (by decide), if_pos h32])
  have HU : Hid (U = []) := Lib.hid (by rw [HOW2.out, if_neg (by rw [HE.out]; decide)])
  go_wp2
  go_ret2
  exact ⟨_, by rw [HE.out]; rfl, by rw [HU.out]; exact own_nilS, hE3⟩
 ·have h33 : ¬ (32 : Int) < (rn : Int) := by omega
  have HE : Hid (E = 0) := Lib.hid (by rw [HOE2.out, if_neg (by decide), if_neg h32])
  have HU : Hid (U = r) := Lib.hid (by rw [HOW2.out, if_pos HE.out])
  go_wp2
  go_ret2
  exact ⟨_, by rw [HE.out]; rfl, by rw [HU.out, HRN.out]; exact HO.out, hE3⟩
end Go.Proofs.YtamkkhlabfahmaaGreatDoor
