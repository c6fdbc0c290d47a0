/- law.Once (printed by genonce.py). law.Once as one word. ablautref01.Take (printed by genreftake.py). -/
import Derived.Test.YtedhogbocifipaaGreatDoorGa17
import Derived.Test.YtedhogbocifipaaGreatDoorGa12
import Derived.Test.YtedhogbocifipaaGreatDoorGa22
import Derived.Test.YtedhogbocifipaaGreatDoorGa30
set_option maxRecDepth 100000
set_option maxHeartbeats 8000000
namespace Go.Proofs.YtedhogbocifipaaGreatDoor
open Go.RowKit Go.Ab
attribute [local go_sem] Oper.semAt_some wide_fn wide_depth

def onceE (l : LawD) (ws : Wd) (z : Int) : Int :=
 if lawW l ws = 0 then (if z < 0 ∨ (ws.length : Int) < z then 3 else if hitL l ws z.toNat = false then 5 else if 32 < (replL l ws z.toNat).length then 11 else 0) else lawW l ws
def onceW (l : LawD) (ws : Wd) (z : Int) : Wd := if onceE l ws z = 0 then replL l ws z.toNat else []
theorem own_nilS {w : World} {e : TypeId} {b : Nat} : w.ownsRow b e 2 (.slice none 0 0) ([] : Wd).length (sndL []) := World.ownsRow_nil _ _ _ _

theorem lonce_any {w : World} {l : LawD} {cs : List Value} {vo : Option Addr} {vc : Nat} {ws : Wd} (hl : LawAt w l cs) (hv : WordAt w (.slice vo ws.length vc) ws) (hcap : ws.length ≤ vc) (hT : Tab w) (z : Int) :
  Calls Tryz.prog 27 #[.agg cs.toArray, .slice vo ws.length vc, .int .i64 z] w fun e w' => ∃ u, e = .returned (.tuple #[u, .int .i64 (onceE l ws z)]) ∧ w'.ownsRow w.heap.size 24 2 u (onceW l ws z).length (sndL (onceW l ws z)) ∧ Ext w w' := by
 have hck := fun (V : World) (hE : Ext w V) => lwcheck_any (hl.ext hE) (hv.ext hE) (hT.keep hE id)
 have hhi : lawW l ws = 0 → ∀ (i : Nat), i ≤ ws.length → ∀ V, Ext w V → Calls Tryz.prog 66 #[.agg cs.toArray, .slice vo ws.length vc, .int .i64 i] V fun e w' => e = .returned (.bool (hitL l ws i)) ∧ Ext V w' := by
  intro h0 i hi V hE
  obtain ⟨hlaw, hw0⟩ := lawW_zero h0
  obtain ⟨hk4, _⟩ := lawB_parts hlaw
  have hwl := wE_le hw0
  exact hit_any (hl.ext hE) (hv.ext hE) (hT.keep hE id) i (by omega) (by omega)
 have hre : lawW l ws = 0 → ∀ (i : Nat), hitL l ws i = true → ∀ V, Ext w V → Calls Tryz.prog 67 #[.agg cs.toArray, .slice vo ws.length vc, .int .i64 i] V fun e w' => ∃ u, e = .returned u ∧ w'.ownsRow V.heap.size 24 2 u (replL l ws i).length (sndL (replL l ws i)) ∧ Ext V w' := by
  intro h0 i hi V hE
  obtain ⟨hlaw, hw0⟩ := lawW_zero h0
  obtain ⟨hk4, hm6, _, _, hfits, _⟩ := lawB_parts hlaw
  have hwl := wE_le hw0
  exact replace_any (hl.ext hE) (hv.ext hE) rfl hcap i (hit_le hi) hfits (by omega) (by omega)
 have hrl : lawW l ws = 0 → ∀ (i : Nat), hitL l ws i = true → (replL l ws i).length ≤ 100 := by
  intro h0 i hi
  obtain ⟨hlaw, hw0⟩ := lawW_zero h0
  obtain ⟨hk4, hm6, _⟩ := lawB_parts hlaw
  have hwl := wE_le hw0
  have := replL_length (l := l) (hit_le hi)
  omega
 have HOE : Hid (onceE l ws z = if lawW l ws = 0 then (if z < 0 ∨ (ws.length : Int) < z then 3 else if hitL l ws z.toNat = false then 5 else if 32 < (replL l ws z.toNat).length then 11 else 0) else lawW l ws) := Lib.hid rfl
 have HOW : Hid (onceW l ws z = if onceE l ws z = 0 then replL l ws z.toNat else []) := Lib.hid rfl
 have hlm := hv.1.2.1
 unfold maxLen at hlm
 obtain ⟨wn, hwn⟩ : ∃ n, ws.length = n := ⟨_, rfl⟩
 rw [hwn] at hck hhi hre HOE hlm ⊢
 obtain ⟨nm, k1, p1, m1, n1, a1, b1, o1, N1, c1, k2, p2, m2, n2, a2, b2, o2, N2, c2, io, N3, ic, oo, N4, oc, md, rfl, HLA, HPL, HPR, HIF, HOU, HNM, HN1, HN2, HN3, HN4, HMD, q0, q1, q2, q3, q4⟩ := law_gen hl
 obtain ⟨R, hR⟩ : ∃ R, lawW l ws = R := ⟨_, rfl⟩
 obtain ⟨E, hE⟩ : ∃ R, onceE l ws z = R := ⟨_, rfl⟩
 obtain ⟨U, hU⟩ : ∃ R, onceW l ws z = R := ⟨_, rfl⟩
 rw [hR] at hck hhi hre hrl HOE
 rw [hE] at HOE HOW ⊢
 rw [hU] at HOW ⊢
 have HCK := Lib.hid hck; have HHI := Lib.hid hhi; have HRE := Lib.hid hre; have HRL := Lib.hid hrl
 clear hl hv hT hwn hck hhi hre hrl hR hE hU
 obtain ⟨w0, hw0⟩ : ∃ D, w.alloc (.cells #[.string nm, .int .i64 k1, .int .u32 (p1 : Int), .int .u32 (m1 : Int), .bool n1, .int .i64 a1, .int .i64 b1, .slice o1 N1 c1, .int .i64 k2, .int .u32 (p2 : Int), .int .u32 (m2 : Int), .bool n2, .int .i64 a2, .int .i64 b2, .slice o2 N2 c2, .slice io N3 ic, .slice oo N4 oc, .int .i64 md] 31) = D := ⟨_, rfl⟩
 have hE0 : Ext w w0 := by rw [← hw0]; exact (Turn.refl _ w).alloc _
 have hl0 : w0.heap[w.heap.size]? = some (.cells #[.string nm, .int .i64 k1, .int .u32 (p1 : Int), .int .u32 (m1 : Int), .bool n1, .int .i64 a1, .int .i64 b1, .slice o1 N1 c1, .int .i64 k2, .int .u32 (p2 : Int), .int .u32 (m2 : Int), .bool n2, .int .i64 a2, .int .i64 b2, .slice o2 N2 c2, .slice io N3 ic, .slice oo N4 oc, .int .i64 md] 31 (0, 0)) := by rw [← hw0]; exact new_at rfl
 have HL0 := Lib.hid hl0; have HW0 := Lib.hid hw0
 clear hl0 hw0
 go_enter Tryz.func27, Tryz.ntmps27
 go_upto_region 1 with (fail)
 rw [HW0.out]
 obtain ⟨B, hB⟩ : ∃ b, w.heap.size = b := ⟨_, rfl⟩
 have HBW := Lib.hid hB
 rw [hB] at HL0 ⊢
 clear hB HW0
 go_wp2_with (refine wpList_load_row rfl 31 (.tmp 3) rfl B rfl _ _ _ _ HL0.out Tryz.underlying31 rfl Tryz.lawInfo ?_)
 refine (HCK.out _ hE0).mono ?_
 rintro e w1 ⟨rfl, hN⟩
 have hE1 := hE0.trans hN
 have HL1 := Lib.hid (hN.keep HL0.out)
 clear hN hE0 HL0
 by_cases h0 : R = 0
 case neg =>
  have h1 : (R != 0) = true := by rw [bne_iff_ne]; exact h0
  have HE : Hid (E = R) := Lib.hid (by rw [HOE.out, if_neg h0])
  have HU : Hid (U = []) := Lib.hid (by rw [HOW.out, if_neg (by rw [HE.out]; exact h0)])
  go_wp2
  go_ret2
  exact ⟨_, by rw [HE.out]; rfl, by rw [HU.out]; exact own_nilS, hE1⟩
 have hz9 : (R != 0) = false := by rw [h0]; rfl
 have HOE1 : Hid (E = if z < 0 ∨ (wn : Int) < z then 3 else if hitL l ws z.toNat = false then 5 else if 32 < (replL l ws z.toNat).length then 11 else 0) := Lib.hid (by rw [HOE.out, if_pos h0])
 have HHI1 := Lib.hid (HHI.out h0); have HRE1 := Lib.hid (HRE.out h0); have HRL1 := Lib.hid (HRL.out h0)
 clear HOE HHI HRE HRL h0
 by_cases hz0 : z < 0
 ·have HE : Hid (E = 3) := Lib.hid (by rw [HOE1.out, if_pos (.inl hz0)])
  have HU : Hid (U = []) := Lib.hid (by rw [HOW.out, if_neg (by rw [HE.out]; decide)])
  go_wp2
  go_ret2
  exact ⟨_, by rw [HE.out]; rfl, by rw [HU.out]; exact own_nilS, hE1⟩
 by_cases hz1 : (wn : Int) < z
 ·have HE : Hid (E = 3) := Lib.hid (by rw [HOE1.out, if_pos (.inr hz1)])
  have HU : Hid (U = []) := Lib.hid (by rw [HOW.out, if_neg (by rw [HE.out]; decide)])
  go_wp2
  go_ret2
  exact ⟨_, by rw [HE.out]; rfl, by rw [HU.out]; exact own_nilS, hE1⟩
 obtain ⟨i, rfl⟩ := Int.eq_ofNat_of_zero_le (show 0 ≤ z by omega)
 have HOE2 : Hid (E = if hitL l ws i = false then 5 else if 32 < (replL l ws i).length then 11 else 0) := Lib.hid (by rw [HOE1.out, if_neg (fun q => q.elim hz0 hz1)]; rfl)
 have HOW2 : Hid (U = if E = 0 then replL l ws i else []) := Lib.hid (by rw [HOW.out]; rfl)
 clear HOE1 HOW
 have hhc := HHI1.out i (by omega) w1 hE1
 obtain ⟨hb, hhb⟩ : ∃ b, hitL l ws i = b := ⟨_, rfl⟩
 rw [hhb] at hhc HOE2
 have HHC := Lib.hid hhc; have HHB := Lib.hid hhb
 clear hhc hhb HHI1
 go_wp2_with (refine wpList_load_row rfl 31 (.tmp 3) rfl B rfl _ _ _ _ HL1.out Tryz.underlying31 rfl Tryz.lawInfo ?_)
 refine HHC.out.mono ?_
 rintro e w2 ⟨rfl, hN⟩
 have hE2 := hE1.trans hN
 have HL2 := Lib.hid (hN.keep HL1.out)
 clear hN hE1 HL1 HHC
 cases hb
 ·have HE : Hid (E = 5) := Lib.hid (by rw [HOE2.out]; rfl)
  have HU : Hid (U = []) := Lib.hid (by rw [HOW2.out, if_neg (by rw [HE.out]; decide)])
  go_wp2
  go_ret2
  exact ⟨_, by rw [HE.out]; rfl, by rw [HU.out]; exact own_nilS, hE2⟩
 have hrc := HRE1.out i HHB.out w2 hE2
 have hrl := HRL1.out i HHB.out
 obtain ⟨r, hr⟩ : ∃ r, replL l ws i = r := ⟨_, rfl⟩
 rw [hr] at hrc hrl HOE2 HOW2
 obtain ⟨rn, hrn⟩ : ∃ n, r.length = n := ⟨_, rfl⟩
 rw [hrn] at hrc hrl HOE2
 have HRC := Lib.hid hrc; have HRN := Lib.hid hrn
 clear hrc hr hrn HRE1 HRL1
 go_wp2_with (refine wpList_load_row rfl 31 (.tmp 3) rfl B rfl _ _ _ _ HL2.out Tryz.underlying31 rfl Tryz.lawInfo ?_)
 refine HRC.out.mono ?_
 rintro e w3 ⟨u, rfl, hO, hN⟩
 have hE3 := hE2.trans hN
 obtain ⟨uo, uc, rfl⟩ := own_slice hO
 have hbz := hE2.size
 have HO := Lib.hid (own_base hO (by have := HBW.out; omega : w.heap.size ≤ w2.heap.size))
 clear hO hN hE2 HL2 HRC
 by_cases h32 : 32 < rn
 ·have h33 : (32 : Int) < (rn : Int) := by omega
  have HE : Hid (E = 11) := Lib.hid (by rw [HOE2.out, if_neg (by decide), if_pos h32])
  have HU : Hid (U = []) := Lib.hid (by rw [HOW2.out, if_neg (by rw [HE.out]; decide)])
  go_wp2
  go_ret2
  exact ⟨_, by rw [HE.out]; rfl, by rw [HU.out]; exact own_nilS, hE3⟩
 ·have h33 : ¬ (32 : Int) < (rn : Int) := by omega
  have HE : Hid (E = 0) := Lib.hid (by rw [HOE2.out, if_neg (by decide), if_neg h32])
  have HU : Hid (U = r) := Lib.hid (by rw [HOW2.out, if_pos HE.out])
  go_wp2
  go_ret2
  exact ⟨_, by rw [HE.out]; rfl, by rw [HU.out, HRN.out]; exact HO.out, hE3⟩


theorem replL_ok {w : World} {l : LawD} {cs : List Value} (hl : LawAt w l cs) {ws : Wd} (hc : WdOk ws) (i : Nat) : WdOk (replL l ws i) := by
 obtain ⟨_, _, _, _, _, _, _, _, _, ho⟩ := hl
 unfold replL repl
 intro s hs
 rw [List.mem_append, List.mem_append] at hs
 rcases hs with (hs | hs) | hs
 ·exact hc s (List.mem_of_mem_take hs)
 ·exact putL_ok (fun s hs => hc s (List.mem_of_mem_drop (List.mem_of_mem_take hs))) ho.2 s hs
 ·exact hc s (List.mem_of_mem_drop hs)
theorem onceW_ok {w : World} {l : LawD} {cs : List Value} (hl : LawAt w l cs) {ws : Wd} (hc : WdOk ws) (z : Int) : WdOk (onceW l ws z) := by
 unfold onceW
 split
 ·exact replL_ok hl hc _
 ·simp [WdOk]
theorem OneW.of_own {w : World} {base : Nat} {e : TypeId} {v : Value} {u : Wd} (h : w.ownsRow base e 2 v u.length (sndL u)) (hok : WdOk u) : OneW w v u := by
 obtain ⟨_, _, ao, c, rfl, _⟩ := Rd.of_own h
 exact OneW.own h hok
theorem once_one {w : World} {l : LawD} {cs : List Value} {vo : Option Addr} {vc : Nat} {ws : Wd} (hl : LawAt w l cs) (hv : WordAt w (.slice vo ws.length vc) ws) (hcap : ws.length ≤ vc) (hT : Tab w) (z : Int) :
  Calls Tryz.prog 27 #[.agg cs.toArray, .slice vo ws.length vc, .int .i64 z] w fun e w' => ∃ u, e = .returned (.tuple #[u, .int .i64 (onceE l ws z)]) ∧ OneW w' u (onceW l ws z) ∧ Ext w w' :=
 (lonce_any hl hv hcap hT z).mono fun _ _ ⟨u, h1, h2, h3⟩ => ⟨u, h1, OneW.of_own h2 (onceW_ok hl hv.2 z), h3⟩


theorem rtake_any {s f : Nat × Nat} {m : Nat} (hs : lt32 s) (hf : lt32 f) (hm : m < 4294967296) (w : World) :
  Calls Tryz.prog 134 #[sV s, sV f, .int .u32 (m : Int)] w fun e w' => e = .returned (.tuple #[sV (takV s f m).1, .int .i64 (takV s f m).2]) ∧ Ext w w' := by
 have hv1 := fun (V : World) => rv_any hs V
 have hv2 := fun (V : World) => rv_any hf V
 have hg := fun (h : okS f = true) (k : Nat) (hk : k < 24) (V : World) => rget_any hf h hk V
 have hput := fun (k : Nat) (hk : k < 24) (v : Int) (V : World) => rput_any (mix_lt (s := s) (f := f) (m % 2 ^ k) hs hf) hk v V
 have hstep := fun (h : okS f = true) (k : Nat) => mix_step (s := s) m k hs hf h
 have h0 : mixS s f (m % 2 ^ 0) = s := by rw [Nat.pow_zero, Nat.mod_one]; exact mix_none f hs
 have hend : m < 16777216 → m % 2 ^ 24 = m := mod_24
 have hbit := fun (k : Nat) => bit32 m k hm
 obtain ⟨x, hx⟩ : ∃ x, okS s = x := ⟨_, rfl⟩
 obtain ⟨y, hy⟩ : ∃ x, okS f = x := ⟨_, rfl⟩
 rw [hx] at hv1
 rw [hy] at hv2 hg hstep
 have HR : Hid (takV s f m = if x = false ∨ y = false then ((0, 0), 14) else if 16777215 < m then ((0, 0), 2) else (mixS s f m, 0)) := Lib.hid (by unfold takV; rw [hx, hy])
 obtain ⟨r1, r2, hr⟩ : ∃ r1 r2, takV s f m = (r1, r2) := ⟨_, _, rfl⟩
 rw [hr] at HR ⊢
 have HV1 := Lib.hid hv1; have HV2 := Lib.hid hv2; have HG := Lib.hid hg; have HP := Lib.hid hput; have HST := Lib.hid hstep; have H0 := Lib.hid h0; have HEND := Lib.hid hend; have HBIT := Lib.hid hbit
 clear hv1 hv2 hg hput hstep h0 hend hbit hx hy hr
 go_enter Tryz.func134, Tryz.ntmps134
 go_wp2_with fail
 obtain ⟨B, hB⟩ : ∃ B, w.heap.size = B := ⟨_, rfl⟩
 have x1 : (((w.alloc (.cells #[.int .u32 (s.1 : Int), .int .u32 (s.2 : Int)] 24)).alloc (.cells #[.int .u32 (f.1 : Int), .int .u32 (f.2 : Int)] 24)).alloc (.cells #[.int .u32 0, .int .u32 0] 24)).heap[B]? = some (.cells #[.int .u32 (s.1 : Int), .int .u32 (s.2 : Int)] 24 (0, 0)) := by subst hB; exact new_keep (new_keep (new_at rfl))
 have y1 : (((w.alloc (.cells #[.int .u32 (s.1 : Int), .int .u32 (s.2 : Int)] 24)).alloc (.cells #[.int .u32 (f.1 : Int), .int .u32 (f.2 : Int)] 24)).alloc (.cells #[.int .u32 0, .int .u32 0] 24)).heap[B + 1]? = some (.cells #[.int .u32 (f.1 : Int), .int .u32 (f.2 : Int)] 24 (0, 0)) := by subst hB; exact new_keep (new_at (by simp))
 have z1 : (((w.alloc (.cells #[.int .u32 (s.1 : Int), .int .u32 (s.2 : Int)] 24)).alloc (.cells #[.int .u32 (f.1 : Int), .int .u32 (f.2 : Int)] 24)).alloc (.cells #[.int .u32 0, .int .u32 0] 24)).heap[B + 2]? = some (.cells #[.int .u32 0, .int .u32 0] 24 (0, 0)) := by subst hB; exact new_at (by simp)
 have E1 : Ext w (((w.alloc (.cells #[.int .u32 (s.1 : Int), .int .u32 (s.2 : Int)] 24)).alloc (.cells #[.int .u32 (f.1 : Int), .int .u32 (f.2 : Int)] 24)).alloc (.cells #[.int .u32 0, .int .u32 0] 24)) := (((Turn.refl _ w).alloc _).alloc _).alloc _
 refine (HV1.out _).mono ?_
 generalize (((w.alloc (.cells #[.int .u32 (s.1 : Int), .int .u32 (s.2 : Int)] 24)).alloc (.cells #[.int .u32 (f.1 : Int), .int .u32 (f.2 : Int)] 24)).alloc (.cells #[.int .u32 0, .int .u32 0] 24)) = w1 at x1 y1 z1 E1 ⊢
 rw [hB]
 have HB := Lib.hid hB
 clear hB
 rintro e w2 ⟨rfl, hN⟩
 have E2 := E1.trans hN
 have x2 := hN.keep x1
 have y2 := hN.keep y1
 have z2 := hN.keep z1
 have cX := fun j => cell_of_row _ _ j _ _ _ x2
 have cY := fun j => cell_of_row _ _ j _ _ _ y2
 have HZ2 := Lib.hid z2
 clear hN x1 y1 z1 E1
 cases x
 ·have hw : r1 = (0, 0) ∧ r2 = 14 := by have := HR.out; rw [if_pos (.inl rfl)] at this; exact ⟨congrArg Prod.fst this, congrArg Prod.snd this⟩
  obtain ⟨rfl, rfl⟩ := hw
  clear HR x2 y2 z2
  go_wp2_with (refine wpList_store_row rfl 24 (.tmp 6) (.tmp 18) rfl (B + 2) #[.int .u32 0, .int .u32 0] rfl rfl _ _ HZ2.out (by kernel_rfl) rfl (by kernel_rfl) ?_)
  have hT9 := Turn.setRow w2 (B + 2) #[.int .u32 0, .int .u32 0]
  refine bodyPost_ret (snd_result2 (p := 6) (u := 7) rfl rfl (setRow_heap _ _ _ _ _ _ HZ2.out) (by kernel_rfl)) rfl ?_
  exact ⟨rfl, E2.after hT9 (fun b h1 e => by have := HB.out; omega)⟩
 go_wp2_with fail
 refine (HV2.out _).mono ?_
 rintro e w3 ⟨rfl, hN⟩
 have E3 := E2.trans hN
 have x3 := hN.keep x2
 have y3 := hN.keep y2
 have z3 := hN.keep z2
 clear cX cY
 have cX := fun j => cell_of_row _ _ j _ _ _ x3
 have cY := fun j => cell_of_row _ _ j _ _ _ y3
 have HZ3 := Lib.hid z3
 clear hN x2 y2 z2 E2
 cases y
 ·have hw : r1 = (0, 0) ∧ r2 = 14 := by have := HR.out; rw [if_pos (.inr rfl)] at this; exact ⟨congrArg Prod.fst this, congrArg Prod.snd this⟩
  obtain ⟨rfl, rfl⟩ := hw
  clear HR x3 y3 z3
  go_wp2_with (refine wpList_store_row rfl 24 (.tmp 6) (.tmp 18) rfl (B + 2) #[.int .u32 0, .int .u32 0] rfl rfl _ _ HZ3.out (by kernel_rfl) rfl (by kernel_rfl) ?_)
  have hT9 := Turn.setRow w3 (B + 2) #[.int .u32 0, .int .u32 0]
  refine bodyPost_ret (snd_result2 (p := 6) (u := 7) rfl rfl (setRow_heap _ _ _ _ _ _ HZ3.out) (by kernel_rfl)) rfl ?_
  exact ⟨rfl, E3.after hT9 (fun b h1 e => by have := HB.out; omega)⟩
 by_cases hm2 : 16777215 < m
 ·have g1 : (16777215 : Int) < (m : Int) := by omega
  have hw : r1 = (0, 0) ∧ r2 = 2 := by have := HR.out; rw [if_neg (by decide), if_pos hm2] at this; exact ⟨congrArg Prod.fst this, congrArg Prod.snd this⟩
  obtain ⟨rfl, rfl⟩ := hw
  clear HR x3 y3 z3
  go_wp2_with (refine wpList_store_row rfl 24 (.tmp 6) (.tmp 21) rfl (B + 2) #[.int .u32 0, .int .u32 0] rfl rfl _ _ HZ3.out (by kernel_rfl) rfl (by kernel_rfl) ?_)
  have hT9 := Turn.setRow w3 (B + 2) #[.int .u32 0, .int .u32 0]
  refine bodyPost_ret (snd_result2 (p := 6) (u := 7) rfl rfl (setRow_heap _ _ _ _ _ _ HZ3.out) (by kernel_rfl)) rfl ?_
  exact ⟨rfl, E3.after hT9 (fun b h1 e => by have := HB.out; omega)⟩
 have g1 : ¬ (16777215 : Int) < (m : Int) := by omega
 have hw : r1 = mixS s f m ∧ r2 = 0 := by have := HR.out; rw [if_neg (by decide), if_neg hm2] at this; exact ⟨congrArg Prod.fst this, congrArg Prod.snd this⟩
 obtain ⟨hr1, rfl⟩ := hw
 rw [← HEND.out (by omega)] at hr1
 have HR1 := Lib.hid hr1
 clear HR hr1 HEND
 go_wp2
 have hA : Ext w3 (w3.alloc (.cells #[.int .u32 (s.1 : Int), .int .u32 (s.2 : Int)] 24)) := (Turn.refl _ w3).alloc _
 have o4 : (w3.alloc (.cells #[.int .u32 (s.1 : Int), .int .u32 (s.2 : Int)] 24)).heap[w3.heap.size]? = some (.cells #[.int .u32 (s.1 : Int), .int .u32 (s.2 : Int)] 24 (0, 0)) := new_at rfl
 have hOB : B + 2 < w3.heap.size := (Array.getElem?_eq_some_iff.1 z3).1
 have x4 := hA.keep x3
 have y4 := hA.keep y3
 have z4 := hA.keep z3
 have E4 : Ext w _ := E3.trans hA
 clear cX cY x3 y3 z3 E3 hA HZ2 HZ3
 generalize (w3.alloc (.cells #[.int .u32 (s.1 : Int), .int .u32 (s.2 : Int)] 24)) = w4 at o4 x4 y4 z4 E4 ⊢
 generalize w3.heap.size = O at o4 hOB ⊢
 have HG2 := Lib.hid (HG.out (by first | rfl | trivial)); have HST2 := Lib.hid (HST.out (by first | rfl | trivial))
 clear HG HST
 refine wp_loop (fun a W => ∃ (k : Nat) (c : Nat × Nat), k ≤ 24 ∧ a.defers = [] ∧ (a.tmps.size = 39 ∧ a.tmps.getD 2 undef = .int .u32 (m : Int) ∧ a.tmps.getD 3 undef = .pointer (some ⟨B, 0, none⟩) ∧ a.tmps.getD 4 undef = .pointer (some ⟨B + 1, 0, none⟩) ∧ a.tmps.getD 6 undef = .pointer (some ⟨B + 2, 0, none⟩) ∧ a.tmps.getD 8 undef = .pointer (some ⟨O, 0, none⟩) ∧ a.tmps.getD 9 undef = .int .i64 k) ∧ Hid (c = mixS s f (m % 2 ^ k)) ∧
   W.heap[B]? = some (.cells #[.int .u32 (s.1 : Int), .int .u32 (s.2 : Int)] 24 (0, 0)) ∧ W.heap[B + 1]? = some (.cells #[.int .u32 (f.1 : Int), .int .u32 (f.2 : Int)] 24 (0, 0)) ∧ W.heap[B + 2]? = some (.cells #[.int .u32 0, .int .u32 0] 24 (0, 0)) ∧ W.heap[O]? = some (.cells #[.int .u32 (c.1 : Int), .int .u32 (c.2 : Int)] 24 (0, 0)) ∧ Ext w W)
  (fun a _ => 24 - (intOf (a.tmps.getD 9 undef)).toNat) ?_ ?_
 ·exact ⟨0, s, by omega, rfl, ⟨rfl, rfl, rfl, rfl, rfl, rfl, rfl⟩, Lib.hid H0.out.symm, x4, y4, z4, o4, E4⟩
 clear x4 y4 z4 o4 E4 H0
 rintro ⟨t, _⟩ W ⟨k, c, hk, hds, ⟨hsz, f2, f3, f4, f6, f8, f9⟩, HC, hx, hy, hz, ho, hE⟩
 subst hds
 obtain ⟨u', hu⟩ := frame_fun hsz
 obtain ⟨u, rfl⟩ : ∃ x, x = u' := ⟨_, rfl⟩
 have hu' : t = #[u 0, u 1, u 2, u 3, u 4, u 5, u 6, u 7, u 8, u 9, u 10, u 11, u 12, u 13, u 14, u 15, u 16, u 17, u 18, u 19, u 20, u 21, u 22, u 23, u 24, u 25, u 26, u 27, u 28, u 29, u 30, u 31, u 32, u 33, u 34, u 35, u 36, u 37, u 38] := hu
 clear hu
 subst hu'
 change u 2 = _ at f2
 change u 3 = _ at f3
 change u 4 = _ at f4
 change u 6 = _ at f6
 change u 8 = _ at f8
 change u 9 = _ at f9
 rw [f2, f3, f4, f6, f8, f9]
 clear f2 f3 f4 f6 f8 f9 hsz
 have HX := Lib.hid hx; have HY := Lib.hid hy; have HZ := Lib.hid hz; have HO := Lib.hid ho; have HE := Lib.hid hE
 by_cases hk24 : k < 24
 ·have h1 : (k : Int) < 24 := by omega
  have h2 : (k : Int) < 32 := by omega
  have h3 : (0 : Int) ≤ (k : Int) := by omega
  have b1 := HBIT.out k
  have hp := HP.out k hk24 (getS f k)
  have hg := HG2.out k hk24
  have hst := HST2.out k
  rw [← HC.out] at hp hst
  obtain ⟨gv, hgv⟩ : ∃ g, getS f k = g := ⟨_, rfl⟩
  obtain ⟨nx, hnx⟩ : ∃ n, putS c k gv = n := ⟨_, rfl⟩
  obtain ⟨q, hq⟩ : ∃ q, m.testBit k = q := ⟨_, rfl⟩
  rw [hgv] at hp hg hst
  rw [hnx] at hp hst
  rw [hq] at b1 hst
  have G1 := Lib.hid hg; have P1 := Lib.hid hp; have NX := Lib.hid hst
  clear hp hg hst hgv hnx hq
  cases q
  ·have hn := NX.out
   rw [if_neg (by decide)] at hn
   have HNX := Lib.hid hn.symm
   clear hn NX hx hy hz ho hE
   go_wp2
   first | exact ⟨⟨k + 1, c, by omega, by first | rfl | trivial, ⟨rfl, rfl, rfl, rfl, rfl, rfl, rfl⟩, HNX, HX.out, HY.out, HZ.out, HO.out, HE.out⟩, by simp [intOf]; omega⟩ | exact ⟨⟨k + 1, c, by omega, by simp, HNX, HX.out, HY.out, HZ.out, HO.out, HE.out⟩, by simp [intOf]; omega⟩
  ·have hn := NX.out
   rw [if_pos rfl] at hn
   have HNX := Lib.hid hn.symm
   have hcs : ∀ (D : World), Turn (· = O) W D → D.cell? ⟨B + 1, 0, none⟩ = some (.int .u32 (f.1 : Int)) ∧ D.cell? ⟨B + 1, 1, none⟩ = some (.int .u32 (f.2 : Int)) := by
    intro D hD
    have h0 := hD.heap hy (by omega)
    simp [World.cell?, h0]
   have HS := Lib.hid hcs
   have cO := fun j => cell_of_row _ _ j _ _ _ ho
   clear hn NX hx hy hz ho hE hcs
   go_wp2
   refine wp_region_held_drew (S := fun D => D.cell? ⟨B + 1, 0, none⟩ = some (.int .u32 (f.1 : Int)) ∧ D.cell? ⟨B + 1, 1, none⟩ = some (.int .u32 (f.2 : Int))) (by kernel_rfl) (HS.out _ (Turn.drew (Turn.refl _ W))) ?_
   intro hS0
   refine tkH (i := 1) (d := 33) (v := ?_) rfl (Or.inl ⟨by rfl, ?_⟩) hS0 ?_
   rotate_left
   ·intro w hSw; (try dsimp only at hSw); go_simp; try with_reducible rfl
   try simp only [Act.put, pq]
   refine tkH (i := 2) (d := 34) (v := ?_) rfl (Or.inl ⟨by rfl, ?_⟩) hS0 ?_
   rotate_left
   ·intro w hSw; (try dsimp only at hSw); go_simp; try with_reducible rfl
   try simp only [Act.put, pq]
   refine tkH (i := 3) (d := 35) (v := ?_) rfl (Or.inl ⟨by rfl, ?_⟩) hS0 ?_
   rotate_left
   ·intro w hSw; (try dsimp only at hSw); go_simp; try with_reducible rfl
   try simp only [Act.put, pq]
   refine wpAnyH_ready (rs := [0, 4]) (by kernel_rfl) (by simp) ?_
   refine AllReadyH.cons rfl (fun K hK => ?_) (AllReadyH.cons rfl (fun K hK => ?_) (AllReadyH.nil))
   ·(try rw [if_pos (show Region.wanted _ _ = true from rfl)])
    go_simp
    refine hK.out _ _ (hS0) (fun _ => ?_)
    clear hK K
    try simp only [Act.put, pq]
    refine wpAnyH_ready (rs := [4]) (by kernel_rfl) (by simp) ?_
    refine AllReadyH.cons rfl (fun K hK => ?_) (AllReadyH.nil)
    (try rw [if_pos (show Region.wanted _ _ = true from rfl)])
    go_simp
    refine (G1.out _).mono ?_
    rintro e V1 ⟨rfl, hN⟩
    have hV1 : Ext W V1 := Turn.trans (Turn.drew (Turn.refl _ W)) hN
    have o1 := hV1.keep HO.out
    have cO1 := fun j => cell_of_row _ _ j _ _ _ o1
    refine hK.out _ _ (HS.out _ (Ext.of hV1)) (fun hS1 => ?_)
    clear hK K hN
    try simp only [Act.put, pq]
    clear cO1
    refine wpAnyH_ready (rs := [5]) (by kernel_rfl) (by simp) ?_
    refine AllReadyH.cons rfl (fun K hK => ?_) (AllReadyH.nil)
    (try rw [if_pos (show Region.wanted _ _ = true from rfl)])
    go_simp
    refine (P1.out _).mono ?_
    rintro e V2 ⟨rfl, hN⟩
    have hV2 : Ext W V2 := hV1.trans hN
    have o2 := hV2.keep HO.out
    refine hK.out _ _ (HS.out _ (Ext.of hV2)) (fun hS2 => ?_)
    clear hK K hN o1
    try simp only [Act.put, pq]
    refine wpAnyH_ready (rs := [6]) (by kernel_rfl) (by simp) ?_
    refine AllReadyH.cons rfl (fun K hK => ?_) (AllReadyH.nil)
    (try rw [if_pos (show Region.wanted _ _ = true from rfl)])
    refine wp_store_row 24 (.tmp 8) (.tmp 37) rfl O #[.int .u32 (nx.1 : Int), .int .u32 (nx.2 : Int)] rfl rfl _ _ o2 (by kernel_rfl) rfl (by kernel_rfl) ?_
    have hT9 := Turn.setRow V2 O #[.int .u32 (nx.1 : Int), .int .u32 (nx.2 : Int)]
    have o9 : (V2.setRow O #[.int .u32 (nx.1 : Int), .int .u32 (nx.2 : Int)]).heap[O]? = some (.cells #[.int .u32 (nx.1 : Int), .int .u32 (nx.2 : Int)] 24 (0, 0)) := setRow_heap _ _ _ _ _ _ o2
    have hT8 := (Ext.of hV2).trans hT9
    have x9 := hT8.heap HX.out (by omega)
    have y9 := hT8.heap HY.out (by omega)
    have z9 := hT8.heap HZ.out (by omega)
    have E9 : Ext w _ := HE.out.after hT8 (fun b h1 e => by have := HB.out; omega)
    have HX9 := Lib.hid x9; have HY9 := Lib.hid y9; have HZ9 := Lib.hid z9; have HO9 := Lib.hid o9; have HE9 := Lib.hid E9
    refine hK.out _ _ (HS.out _ hT8) (fun hS3 => ?_)
    clear hK K o2 x9 y9 z9 o9 E9 hT8 hT9 hS1 hS2 hS3
    change wpAnyH _ _ _ _ _ _ _ (Act.put _ none _) _
    simp only [Act.put]
    refine wpAnyH_done (by kernel_rfl) ?_ _
    go_wp2
    first | exact ⟨⟨k + 1, nx, by omega, by first | rfl | trivial, ⟨rfl, rfl, rfl, rfl, rfl, rfl, rfl⟩, HNX, HX9.out, HY9.out, HZ9.out, HO9.out, HE9.out⟩, by simp [intOf]; omega⟩ | exact ⟨⟨k + 1, nx, by omega, by simp, HNX, HX9.out, HY9.out, HZ9.out, HO9.out, HE9.out⟩, by simp [intOf]; omega⟩
   ·(try rw [if_pos (show Region.wanted _ _ = true from rfl)])
    go_simp
    refine (G1.out _).mono ?_
    rintro e V1 ⟨rfl, hN⟩
    have hV1 : Ext W V1 := Turn.trans (Turn.drew (Turn.refl _ W)) hN
    have o1 := hV1.keep HO.out
    have cO1 := fun j => cell_of_row _ _ j _ _ _ o1
    refine hK.out _ _ (HS.out _ (Ext.of hV1)) (fun hS1 => ?_)
    clear hK K hN
    try simp only [Act.put, pq]
    refine wpAnyH_ready (rs := [0]) (by kernel_rfl) (by simp) ?_
    refine AllReadyH.cons rfl (fun K hK => ?_) (AllReadyH.nil)
    (try rw [if_pos (show Region.wanted _ _ = true from rfl)])
    go_simp
    refine hK.out _ _ (hS1) (fun _ => ?_)
    clear hK K
    try simp only [Act.put, pq]
    clear cO1
    refine wpAnyH_ready (rs := [5]) (by kernel_rfl) (by simp) ?_
    refine AllReadyH.cons rfl (fun K hK => ?_) (AllReadyH.nil)
    (try rw [if_pos (show Region.wanted _ _ = true from rfl)])
    go_simp
    refine (P1.out _).mono ?_
    rintro e V2 ⟨rfl, hN⟩
    have hV2 : Ext W V2 := hV1.trans hN
    have o2 := hV2.keep HO.out
    refine hK.out _ _ (HS.out _ (Ext.of hV2)) (fun hS2 => ?_)
    clear hK K hN o1
    try simp only [Act.put, pq]
    refine wpAnyH_ready (rs := [6]) (by kernel_rfl) (by simp) ?_
    refine AllReadyH.cons rfl (fun K hK => ?_) (AllReadyH.nil)
    (try rw [if_pos (show Region.wanted _ _ = true from rfl)])
    refine wp_store_row 24 (.tmp 8) (.tmp 37) rfl O #[.int .u32 (nx.1 : Int), .int .u32 (nx.2 : Int)] rfl rfl _ _ o2 (by kernel_rfl) rfl (by kernel_rfl) ?_
    have hT9 := Turn.setRow V2 O #[.int .u32 (nx.1 : Int), .int .u32 (nx.2 : Int)]
    have o9 : (V2.setRow O #[.int .u32 (nx.1 : Int), .int .u32 (nx.2 : Int)]).heap[O]? = some (.cells #[.int .u32 (nx.1 : Int), .int .u32 (nx.2 : Int)] 24 (0, 0)) := setRow_heap _ _ _ _ _ _ o2
    have hT8 := (Ext.of hV2).trans hT9
    have x9 := hT8.heap HX.out (by omega)
    have y9 := hT8.heap HY.out (by omega)
    have z9 := hT8.heap HZ.out (by omega)
    have E9 : Ext w _ := HE.out.after hT8 (fun b h1 e => by have := HB.out; omega)
    have HX9 := Lib.hid x9; have HY9 := Lib.hid y9; have HZ9 := Lib.hid z9; have HO9 := Lib.hid o9; have HE9 := Lib.hid E9
    refine hK.out _ _ (HS.out _ hT8) (fun hS3 => ?_)
    clear hK K o2 x9 y9 z9 o9 E9 hT8 hT9 hS1 hS2 hS3
    change wpAnyH _ _ _ _ _ _ _ (Act.put _ none _) _
    simp only [Act.put]
    refine wpAnyH_done (by kernel_rfl) ?_ _
    go_wp2
    first | exact ⟨⟨k + 1, nx, by omega, by first | rfl | trivial, ⟨rfl, rfl, rfl, rfl, rfl, rfl, rfl⟩, HNX, HX9.out, HY9.out, HZ9.out, HO9.out, HE9.out⟩, by simp [intOf]; omega⟩ | exact ⟨⟨k + 1, nx, by omega, by simp, HNX, HX9.out, HY9.out, HZ9.out, HO9.out, HE9.out⟩, by simp [intOf]; omega⟩
 ·obtain rfl : k = 24 := by omega
  have hr := HR1.out
  rw [← HC.out] at hr
  subst hr
  have cO := fun j => cell_of_row _ _ j _ _ _ ho
  clear hx hy hz ho hE
  go_wp2_with (refine wpList_store_row rfl 24 (.tmp 6) (.tmp 38) rfl (B + 2) #[.int .u32 (r1.1 : Int), .int .u32 (r1.2 : Int)] rfl rfl _ _ HZ.out (by kernel_rfl) rfl (by kernel_rfl) ?_)
  have hT9 := Turn.setRow W (B + 2) #[.int .u32 (r1.1 : Int), .int .u32 (r1.2 : Int)]
  refine bodyPost_ret (snd_result2 (p := 6) (u := 7) rfl rfl (setRow_heap _ _ _ _ _ _ HZ.out) (by kernel_rfl)) rfl ?_
  exact ⟨rfl, HE.out.after hT9 (fun b h1 e => by have := HB.out; omega)⟩
end Go.Proofs.YtedhogbocifipaaGreatDoor
