/- ablautref08.Trace, Apply, Changes (printed by genreftr.py). -/
import Derived.Test.YtedhogbocifipaaGreatDoorGa36
import Derived.Test.YtedhogbocifipaaGreatDoorGa20
set_option maxRecDepth 100000
set_option maxHeartbeats 16000000
namespace Go.Proofs.YtedhogbocifipaaGreatDoor
open Go.RowKit Go.Ab
attribute [local go_sem] Oper.semAt_some wide_fn wide_depth

theorem tr_run {l : LawD} {ws : Wd} (h : lawW l ws = 0) : trE l ws = runE (traceL l ws) ∧ trT l ws = runT (traceL l ws) := by
 have h1 : trE l ws = runE (traceL l ws) := by unfold trE runE; rw [if_pos h]
 refine ⟨h1, ?_⟩
 unfold trT
 rw [h1]
 unfold runE runT
 cases longT (traceL l ws) <;> simp

theorem rltrace_any {w : World} {l : LawD} {cs : List Value} {vo : Option Addr} {vc : Nat} {ws : Wd} (hl : LawAt w l cs) (hv : WordAt w (.slice vo ws.length vc) ws) (hcap : ws.length ≤ vc) :
  Calls Tryz.prog 24 #[.agg cs.toArray, .slice vo ws.length vc] w fun e w' => ∃ u v, e = .returned (.tuple #[u, v, .int .i64 (trE l ws)]) ∧ TrOut w.heap.size w' u v (trT l ws) ∧ Ext w w' := by
 have hck := fun (V : World) (hE : Ext w V) => rlwcheck_any (hl.ext hE) (hv.ext hE)
 have hall := fun (V : World) (hE : Ext w V) (h1 : lawB l = true) (h2 : l.mode = 1) (h3 : ws.length ≤ 32) => rall_any (hl.ext hE) (hv.ext hE) hcap h1 h2 h3
 have hright := fun (V : World) (hE : Ext w V) (h1 : lawB l = true) (h2 : l.mode = 2) (h3 : ws.length ≤ 32) => rright_any (hl.ext hE) (hv.ext hE) hcap h1 h2 h3
 have hleft := fun (V : World) (hE : Ext w V) (h1 : lawB l = true) (h2 : l.mode = 3) (h3 : ws.length ≤ 32) => rleft_any (hl.ext hE) (hv.ext hE) hcap h1 h2 h3
 have htr := @tr_run l ws
 have hbad : lawW l ws ≠ 0 → trE l ws = lawW l ws ∧ trT l ws = [] := fun h => by
  have : trE l ws = lawW l ws := by unfold trE; rw [if_neg h]
  refine ⟨this, ?_⟩
  unfold trT; rw [this, if_neg h]
 have hgood : lawW l ws = 0 → lawB l = true ∧ (1 ≤ l.mode ∧ l.mode ≤ 3) ∧ ws.length ≤ 32 := fun h => by
  obtain ⟨h1, h2⟩ := lawW_zero h
  obtain ⟨_, _, _, h3, _⟩ := lawB_parts h1
  exact ⟨h1, h3, wE_le h2⟩
 obtain ⟨wn, hwn⟩ : ∃ n, ws.length = n := ⟨_, rfl⟩
 rw [hwn] at hck hall hright hleft hgood ⊢
 obtain ⟨nm, k1, p1, m1, n1, a1, b1, o1, N1, c1, k2, p2, m2, n2, a2, b2, o2, N2, c2, io, N3, ic, oo, N4, oc, md, rfl, HLA, HPL, HPR, HIF, HOU, HNM, HN1, HN2, HN3, HN4, HMD, q0, q1, q2, q3, q4⟩ := law_gen hl
 rw [HMD.out] at hall hright hleft hgood
 obtain ⟨R, hR⟩ : ∃ R, lawW l ws = R := ⟨_, rfl⟩
 obtain ⟨TT, hTT⟩ : ∃ R, traceL l ws = R := ⟨_, rfl⟩
 obtain ⟨E, hE⟩ : ∃ R, trE l ws = R := ⟨_, rfl⟩
 obtain ⟨U, hU⟩ : ∃ R, trT l ws = R := ⟨_, rfl⟩
 rw [hR] at hck htr hbad hgood
 rw [hTT] at hall hright hleft htr
 rw [hE, hU] at htr hbad
 rw [hE, hU]
 have HCK := Lib.hid hck; have HALL := Lib.hid hall; have HRIGHT := Lib.hid hright; have HLEFT := Lib.hid hleft; have HTR := Lib.hid htr; have HBAD := Lib.hid hbad; have HGOOD := Lib.hid hgood
 clear hl hv hcap hck hall hright hleft htr hbad hgood hR hTT hE hU hwn
 go_enter Tryz.func24, Tryz.ntmps24
 go_upto_region 1 with (fail)
 obtain ⟨w1, hw1⟩ : ∃ D, w.alloc (.cells #[.string nm, .int .i64 k1, .int .u32 (p1 : Int), .int .u32 (m1 : Int), .bool n1, .int .i64 a1, .int .i64 b1, .slice o1 N1 c1, .int .i64 k2, .int .u32 (p2 : Int), .int .u32 (m2 : Int), .bool n2, .int .i64 a2, .int .i64 b2, .slice o2 N2 c2, .slice io N3 ic, .slice oo N4 oc, .int .i64 md] 31) = D := ⟨_, rfl⟩
 have hE1 : Ext w w1 := by rw [← hw1]; exact (Turn.refl _ w).alloc _
 have hl1 : w1.heap[w.heap.size]? = some (.cells #[.string nm, .int .i64 k1, .int .u32 (p1 : Int), .int .u32 (m1 : Int), .bool n1, .int .i64 a1, .int .i64 b1, .slice o1 N1 c1, .int .i64 k2, .int .u32 (p2 : Int), .int .u32 (m2 : Int), .bool n2, .int .i64 a2, .int .i64 b2, .slice o2 N2 c2, .slice io N3 ic, .slice oo N4 oc, .int .i64 md] 31 (0, 0)) := by rw [← hw1]; exact new_at rfl
 have hs1 : w1.heap.size = w.heap.size + 1 := by rw [← hw1]; simp
 rw [hw1]
 obtain ⟨B, hB⟩ : ∃ b, w.heap.size = b := ⟨_, rfl⟩
 rw [hB] at hl1 hs1 ⊢
 have HL1 := Lib.hid hl1; have HB := Lib.hid hB; have HS1 := Lib.hid hs1
 clear hw1 hl1 hB hs1
 go_wp2_with (refine wpList_load_row rfl 31 (.tmp 2) rfl B rfl _ _ _ _ HL1.out Tryz.underlying31 rfl Tryz.lawInfo ?_)
 refine (HCK.out _ hE1).mono ?_
 rintro e w2 ⟨rfl, hN⟩
 have hE2 := hE1.trans hN
 have HL2 := Lib.hid (hN.keep HL1.out)
 clear hN hE1 HL1 HCK
 by_cases h0 : R = 0
 case neg =>
  have h9 : (R != 0) = true := by rw [bne_iff_ne]; exact h0
  obtain ⟨rfl, rfl⟩ := HBAD.out h0
  go_wp2
  exact bodyPost_ret (results_t3 rfl _ _ _) rfl ⟨_, _, rfl, TrOut.nil _ _, hE2⟩
 subst h0
 obtain ⟨hE', hU'⟩ := HTR.out rfl
 obtain ⟨hlaw, hmd, h32⟩ := HGOOD.out rfl
 have hA := fun (V : World) (hE : Ext w V) (h2 : md = 1) => HALL.out V hE hlaw h2 h32
 have hR := fun (V : World) (hE : Ext w V) (h2 : md = 2) => HRIGHT.out V hE hlaw h2 h32
 have hL := fun (V : World) (hE : Ext w V) (h2 : md = 3) => HLEFT.out V hE hlaw h2 h32
 rw [← hE', ← hU'] at hA hR hL
 have HA := Lib.hid hA; have HR := Lib.hid hR; have HL := Lib.hid hL
 clear hA hR hL HALL HRIGHT HLEFT HTR HBAD HGOOD hE' hU'
 have cM := cell_of_row _ _ 17 _ _ _ HL2.out
 by_cases h1 : md = 1
 ·subst h1
  have HA1 := Lib.hid (fun V hE => HA.out V hE rfl)
  clear HA HR HL
  have hc := HA1.out w2 hE2
  have HC := Lib.hid hc
  clear hc
  go_wp2_with (refine wpList_load_row rfl 31 (.tmp 2) rfl B rfl _ _ _ _ HL2.out Tryz.underlying31 rfl Tryz.lawInfo ?_)
  refine HC.out.mono ?_
  rintro e w3 ⟨u, v, rfl, hO, hN⟩
  have hE3 := hE2.trans hN
  obtain ⟨uo, uc, xo, xc, rfl, rfl, _⟩ := hO.slices
  have HO := Lib.hid (hO.base (b' := w.heap.size) hE2.size)
  clear hO hN HC
  go_wp2
  exact bodyPost_ret (results_t3 rfl _ _ _) rfl ⟨_, _, rfl, HO.out, hE3⟩
 have h1' : (md == 1) = false := by rw [beq_eq_false_iff_ne]; exact h1
 by_cases h2 : md = 2
 ·subst h2
  have HA1 := Lib.hid (fun V hE => HR.out V hE rfl)
  clear HA HR HL
  have hc := HA1.out w2 hE2
  have HC := Lib.hid hc
  clear hc
  go_wp2_with (refine wpList_load_row rfl 31 (.tmp 2) rfl B rfl _ _ _ _ HL2.out Tryz.underlying31 rfl Tryz.lawInfo ?_)
  refine HC.out.mono ?_
  rintro e w3 ⟨u, v, rfl, hO, hN⟩
  have hE3 := hE2.trans hN
  obtain ⟨uo, uc, xo, xc, rfl, rfl, _⟩ := hO.slices
  have HO := Lib.hid (hO.base (b' := w.heap.size) hE2.size)
  clear hO hN HC
  go_wp2
  exact bodyPost_ret (results_t3 rfl _ _ _) rfl ⟨_, _, rfl, HO.out, hE3⟩
 have h2' : (md == 2) = false := by rw [beq_eq_false_iff_ne]; exact h2
 ·obtain rfl : md = 3 := by omega
  have HA1 := Lib.hid (fun V hE => HL.out V hE rfl)
  clear HA HR HL
  have hc := HA1.out w2 hE2
  have HC := Lib.hid hc
  clear hc
  go_wp2_with (refine wpList_load_row rfl 31 (.tmp 2) rfl B rfl _ _ _ _ HL2.out Tryz.underlying31 rfl Tryz.lawInfo ?_)
  refine HC.out.mono ?_
  rintro e w3 ⟨u, v, rfl, hO, hN⟩
  have hE3 := hE2.trans hN
  obtain ⟨uo, uc, xo, xc, rfl, rfl, _⟩ := hO.slices
  have HO := Lib.hid (hO.base (b' := w.heap.size) hE2.size)
  clear hO hN HC
  go_wp2
  exact bodyPost_ret (results_t3 rfl _ _ _) rfl ⟨_, _, rfl, HO.out, hE3⟩

/-- append(api.Word{}, w...) -/
theorem fresh_row {W : World} {b : Nat} (hb : b ≤ W.heap.size) : (W.alloc (.cells #[] 24)).ownsRow b 24 2 (.slice (some ⟨W.heap.size, 0, none⟩) 0 0) 0 [] := World.ownsRow_made (base := b) (e := 24) (size := 2) W #[] 0 hb (by decide) rfl

theorem rlapply_any {w : World} {l : LawD} {cs : List Value} {vo : Option Addr} {vc : Nat} {ws : Wd} (hl : LawAt w l cs) (hv : WordAt w (.slice vo ws.length vc) ws) (hcap : ws.length ≤ vc) :
  Calls Tryz.prog 29 #[.agg cs.toArray, .slice vo ws.length vc] w fun e w' => ∃ u, e = .returned (.tuple #[u, .int .i64 (trE l ws)]) ∧ OneW w' u (appL l ws) ∧ Ext w w' := by
 have htr := fun (V : World) (hE : Ext w V) => rltrace_any (hl.ext hE) (hv.ext hE) hcap
 have hok := hv.2
 have hsh : trE l ws = 0 → ws.length ≤ 32 := fun h0 => wE_le (lawW_zero (trE_law h0)).2
 have h32 : trE l ws = 0 → ∀ k (hk : k < (trT l ws).length), (trT l ws)[k].2.length ≤ 32 := fun h0 k hk => by
  have e : trT l ws = traceL l ws := by unfold trT; rw [if_pos h0]
  have := longT_get (trE_short h0) (x := (trT l ws)[k]) (by rw [← e]; exact List.getElem_mem _)
  exact this
 have h1 := @appL_nil l ws
 have h2 := @appL_last l ws
 have h3 := @appL_bad l ws
 obtain ⟨wn, hwn⟩ : ∃ n, ws.length = n := ⟨_, rfl⟩
 have HVW := Lib.hid hv
 rw [hwn] at htr hsh HVW ⊢
 obtain ⟨nm, k1, p1, m1, n1, a1, b1, o1, N1, c1, k2, p2, m2, n2, a2, b2, o2, N2, c2, io, N3, ic, oo, N4, oc, md, rfl, HLA, HPL, HPR, HIF, HOU, HNM, HN1, HN2, HN3, HN4, HMD, q0, q1, q2, q3, q4⟩ := law_gen hl
 obtain ⟨E, hE⟩ : ∃ R, trE l ws = R := ⟨_, rfl⟩
 obtain ⟨U, hU⟩ : ∃ R, trT l ws = R := ⟨_, rfl⟩
 obtain ⟨A, hA⟩ : ∃ R, appL l ws = R := ⟨_, rfl⟩
 rw [hE] at htr hsh h1 h2 h3 h32 ⊢
 rw [hU] at htr h1 h2 h32
 rw [hA] at h1 h2 h3 ⊢
 have HTR := Lib.hid htr; have HSH := Lib.hid hsh; have HOK := Lib.hid hok; have H1 := Lib.hid h1; have H2 := Lib.hid h2; have H3 := Lib.hid h3; have HWN := Lib.hid hwn; have H32 := Lib.hid h32
 clear hl hv htr hsh hok h1 h2 h3 h32 hE hU hA hwn
 go_enter Tryz.func29, Tryz.ntmps29
 go_upto_region 1 with (fail)
 obtain ⟨w1, hw1⟩ : ∃ D, w.alloc (.cells #[.string nm, .int .i64 k1, .int .u32 (p1 : Int), .int .u32 (m1 : Int), .bool n1, .int .i64 a1, .int .i64 b1, .slice o1 N1 c1, .int .i64 k2, .int .u32 (p2 : Int), .int .u32 (m2 : Int), .bool n2, .int .i64 a2, .int .i64 b2, .slice o2 N2 c2, .slice io N3 ic, .slice oo N4 oc, .int .i64 md] 31) = D := ⟨_, rfl⟩
 have hE1 : Ext w w1 := by rw [← hw1]; exact (Turn.refl _ w).alloc _
 have hl1 : w1.heap[w.heap.size]? = some (.cells #[.string nm, .int .i64 k1, .int .u32 (p1 : Int), .int .u32 (m1 : Int), .bool n1, .int .i64 a1, .int .i64 b1, .slice o1 N1 c1, .int .i64 k2, .int .u32 (p2 : Int), .int .u32 (m2 : Int), .bool n2, .int .i64 a2, .int .i64 b2, .slice o2 N2 c2, .slice io N3 ic, .slice oo N4 oc, .int .i64 md] 31 (0, 0)) := by rw [← hw1]; exact new_at rfl
 have hs1 : w1.heap.size = w.heap.size + 1 := by rw [← hw1]; simp
 rw [hw1]
 obtain ⟨B, hB⟩ : ∃ b, w.heap.size = b := ⟨_, rfl⟩
 rw [hB] at hl1 hs1 ⊢
 have HL1 := Lib.hid hl1; have HB := Lib.hid hB; have HS1 := Lib.hid hs1
 clear hw1 hl1 hB hs1
 go_wp2_with (refine wpList_load_row rfl 31 (.tmp 2) rfl B rfl _ _ _ _ HL1.out Tryz.underlying31 rfl Tryz.lawInfo ?_)
 refine (HTR.out _ hE1).mono ?_
 rintro e w2 ⟨u, v, rfl, hO, hN⟩
 have hE2 := hE1.trans hN
 obtain ⟨uo, uc, xo, xc, rfl, rfl, htm⟩ := hO.slices
 clear hN hE1 HL1 HTR
 by_cases h0 : E = 0
 case neg =>
  have h9 : (E != 0) = true := by rw [bne_iff_ne]; exact h0
  have HA := H3.out h0
  subst HA
  clear hO
  go_wp2
  go_ret2
  exact ⟨_, rfl, OneW.nil _, hE2⟩
 subst h0
 have hw32 := HSH.out rfl
 obtain ⟨n, hn⟩ : ∃ n, U.length = n := ⟨_, rfl⟩
 rw [hn] at htm ⊢
 unfold maxLen at htm
 have hA2 : Ext w2 (w2.alloc (.cells #[] 24)) := (Turn.refl _ w2).alloc _
 have hF2 := fresh_row (W := w2) (b := w2.heap.size) (Nat.le_refl _)
 have HF2 := Lib.hid hF2; have HA2 := Lib.hid hA2
 clear hF2 hA2
 by_cases hn0 : n = 0
 ·subst hn0
  have HA := H1.out rfl hn
  have hrd := (HVW.out.ext (hE2.trans HA2.out)).1
  rw [HWN.out] at hrd
  have HRD := Lib.hid hrd
  have hnil : ((0 : Nat) : Int) = 0 := rfl
  clear hO hn H1 H2 H3 hrd
  go_wp2_with (at_builtin; refine append_rd rfl (.tmp 22) (.tmp 23) 28 rfl w2.heap.size 24 _ 2 8 Tryz.underlying28 @infoS rfl (by decide) _ 0 [] rfl HF2.out _ _ _ _ rfl HRD.out (one_sndL _) ?c3 ?c4 ?c5 ?_)
  case c3 => unfold maxLen; omega
  case c4 => omega
  case c5 => exact HA2.out.size
  intro ao' c' w3 hO3 hT3 _
  try rw [Nat.zero_add] at hO3
  try rw [List.nil_append] at hO3
  try rw [Nat.zero_add]
  have hE23 : Ext w2 w3 := HA2.out.after hT3 (fun b hb e => by have := (HF2.out.lt b e).1; omega)
  have hE3 := hE2.trans hE23
  have hone : OneW w3 (.slice ao' wn c') A := by
   rw [HA]
   have h5 := hO3
   rw [← HWN.out] at h5 ⊢
   exact OneW.own h5 HOK.out
  have HONE := Lib.hid hone
  clear hO3 hT3 HA hone HRD
  go_wp2
  go_ret2
  exact ⟨_, rfl, HONE.out, hE3⟩
 ·obtain ⟨k, rfl⟩ : ∃ k, n = k + 1 := ⟨n - 1, by omega⟩
  have hk : k < U.length := by omega
  obtain ⟨g, cap, ao, c, hq, hc, hw, hcc⟩ := hO.at hk
  have HA := H2.out rfl hn hk
  have ha32 := H32.out rfl k hk
  rw [HA] at hc hw hcc ha32
  rw [hn] at hq
  cases hq
  have hok2 := hw.2
  obtain ⟨an, han⟩ : ∃ n, A.length = n := ⟨_, rfl⟩
  have hrd := (hw.ext HA2.out).1
  rw [han] at hc hrd ha32
  have hc2 := HA2.out.cell_some hc id
  have hk1 : ((k + 1 : Nat) : Int) - 1 = (k : Int) := by omega
  have hk2 : (((k + 1 : Nat) : Int) == 0) = false := by simp; omega
  have hk3 : (k : Int) < ((k + 1 : Nat) : Int) := by omega
  have HRD := Lib.hid hrd; have HAN := Lib.hid han; have HOK2 := Lib.hid hok2
  clear hO hn H1 H2 H3 hw hcc HA hn0 hrd han hok2 hc hk
  go_wp2_with (at_builtin; refine append_rd rfl (.tmp 25) (.tmp 31) 28 rfl w2.heap.size 24 _ 2 8 Tryz.underlying28 @infoS rfl (by decide) _ 0 [] rfl HF2.out _ _ _ _ rfl HRD.out (one_sndL _) ?d3 ?d4 ?d5 ?_)
  case d3 => unfold maxLen; omega
  case d4 => omega
  case d5 => exact HA2.out.size
  intro ao' c' w3 hO3 hT3 _
  try rw [Nat.zero_add] at hO3
  try rw [List.nil_append] at hO3
  try rw [Nat.zero_add]
  have hE23 : Ext w2 w3 := HA2.out.after hT3 (fun b hb e => by have := (HF2.out.lt b e).1; omega)
  have hE3 := hE2.trans hE23
  have hone : OneW w3 (.slice ao' an c') A := by
   have h5 := hO3
   rw [← HAN.out] at h5 ⊢
   exact OneW.own h5 HOK2.out
  have HONE := Lib.hid hone
  clear hO3 hT3 hone HRD
  go_wp2
  go_ret2
  exact ⟨_, rfl, HONE.out, hE3⟩

theorem rlchanges_any {w : World} {l : LawD} {cs : List Value} {vo : Option Addr} {vc : Nat} {ws : Wd} (hl : LawAt w l cs) (hv : WordAt w (.slice vo ws.length vc) ws) (hcap : ws.length ≤ vc) :
  Calls Tryz.prog 31 #[.agg cs.toArray, .slice vo ws.length vc] w fun e w' => e = .returned (.tuple #[.bool (decide (trE l ws = 0) && !decide (appL l ws = ws)), .int .i64 (trE l ws)]) ∧ Ext w w' := by
 have htr := fun (V : World) (hE : Ext w V) => rlapply_any (hl.ext hE) (hv.ext hE) hcap
 have heq := fun (V : World) (hE : Ext w V) (u : Value) (hu : WordAt V u (appL l ws)) => refeqW hu (hv.ext hE)
 obtain ⟨wn, hwn⟩ : ∃ n, ws.length = n := ⟨_, rfl⟩
 rw [hwn] at htr heq ⊢
 obtain ⟨nm, k1, p1, m1, n1, a1, b1, o1, N1, c1, k2, p2, m2, n2, a2, b2, o2, N2, c2, io, N3, ic, oo, N4, oc, md, rfl, HLA, HPL, HPR, HIF, HOU, HNM, HN1, HN2, HN3, HN4, HMD, q0, q1, q2, q3, q4⟩ := law_gen hl
 obtain ⟨E, hE⟩ : ∃ R, trE l ws = R := ⟨_, rfl⟩
 obtain ⟨A, hA⟩ : ∃ R, appL l ws = R := ⟨_, rfl⟩
 rw [hE] at htr ⊢
 rw [hA] at htr heq ⊢
 obtain ⟨q, hq⟩ : ∃ q, decide (A = ws) = q := ⟨_, rfl⟩
 rw [hq] at heq ⊢
 have HTR := Lib.hid htr; have HEQ := Lib.hid heq
 clear hl hv htr heq hE hA hq hwn
 go_enter Tryz.func31, Tryz.ntmps31
 go_upto_region 1 with (fail)
 obtain ⟨w1, hw1⟩ : ∃ D, w.alloc (.cells #[.string nm, .int .i64 k1, .int .u32 (p1 : Int), .int .u32 (m1 : Int), .bool n1, .int .i64 a1, .int .i64 b1, .slice o1 N1 c1, .int .i64 k2, .int .u32 (p2 : Int), .int .u32 (m2 : Int), .bool n2, .int .i64 a2, .int .i64 b2, .slice o2 N2 c2, .slice io N3 ic, .slice oo N4 oc, .int .i64 md] 31) = D := ⟨_, rfl⟩
 have hE1 : Ext w w1 := by rw [← hw1]; exact (Turn.refl _ w).alloc _
 have hl1 : w1.heap[w.heap.size]? = some (.cells #[.string nm, .int .i64 k1, .int .u32 (p1 : Int), .int .u32 (m1 : Int), .bool n1, .int .i64 a1, .int .i64 b1, .slice o1 N1 c1, .int .i64 k2, .int .u32 (p2 : Int), .int .u32 (m2 : Int), .bool n2, .int .i64 a2, .int .i64 b2, .slice o2 N2 c2, .slice io N3 ic, .slice oo N4 oc, .int .i64 md] 31 (0, 0)) := by rw [← hw1]; exact new_at rfl
 rw [hw1]
 obtain ⟨B, hB⟩ : ∃ b, w.heap.size = b := ⟨_, rfl⟩
 rw [hB] at hl1 ⊢
 have HL1 := Lib.hid hl1; have HB := Lib.hid hB
 clear hw1 hl1 hB
 go_wp2_with (refine wpList_load_row rfl 31 (.tmp 2) rfl B rfl _ _ _ _ HL1.out Tryz.underlying31 rfl Tryz.lawInfo ?_)
 refine (HTR.out _ hE1).mono ?_
 rintro e w2 ⟨u, rfl, ⟨ao, c, rfl, hw, _⟩, hN⟩
 have hE2 := hE1.trans hN
 have HC := Lib.hid (HEQ.out w2 hE2 _ hw)
 clear hN hE1 HL1 HTR hw HEQ
 by_cases h0 : E = 0
 case neg =>
  have h9 : (E != 0) = true := by rw [bne_iff_ne]; exact h0
  have h8 : decide (E = 0) = false := decide_eq_false h0
  have H8 := Lib.hid h8
  clear HC h8
  go_wp2
  go_ret2
  exact ⟨by rw [H8.out]; rfl, hE2⟩
 subst h0
 go_wp2_with fail
 refine HC.out.mono ?_
 rintro e w3 ⟨rfl, hN⟩
 have hE3 := hE2.trans hN
 clear hN HC
 cases q
 ·go_wp2
  go_ret2
  exact ⟨rfl, hE3⟩
 ·go_wp2
  go_ret2
  exact ⟨rfl, hE3⟩
end Go.Proofs.YtedhogbocifipaaGreatDoor
