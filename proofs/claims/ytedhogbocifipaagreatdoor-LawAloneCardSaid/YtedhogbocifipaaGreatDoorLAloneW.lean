/- ablautlaw08.LawAlone: the walk (printed by genlalone.py). -/
import Derived.Test.YtedhogbocifipaaGreatDoorGa31
import Derived.Test.YtedhogbocifipaaGreatDoorRowSet
import Derived.Test.YtedhogbocifipaaGreatDoorGa00
import Derived.Test.YtedhogbocifipaaGreatDoorLawLaw
import Derived.Test.YtedhogbocifipaaGreatDoorLLengthsW
import Derived.Test.YtedhogbocifipaaGreatDoorGa33
import Derived.Test.YtedhogbocifipaaGreatDoorGa12
set_option maxRecDepth 100000
set_option maxHeartbeats 16000000
namespace Go.Proofs.YtedhogbocifipaaGreatDoor
open Go.RowKit Go.Ab
attribute [local go_sem] Oper.semAt_some wide_fn wide_depth

abbrev aloneL (l : LawD) : LawD := ⟨l.name, emptyPat, emptyPat, l.ifs.take 1, l.outs, 1⟩
theorem alone_at {w D : World} {l : LawD} {nm : ByteArray} {oo : Option Addr} {N4 oc : Nat} {io : Option Addr} {ic : Nat} (hE : Ext w D) (hn : l.name = nm) (hs : nm.size ≤ maxLen) (hi : WordAt w (.slice io 1 ic) (l.ifs.take 1)) (ho : OutsAt w (.slice oo N4 oc) l.outs) :
  LawAt D (aloneL l) [.string nm, .int .i64 0, .int .u32 0, .int .u32 0, .bool false, .int .i64 0, .int .i64 0, .slice none 0 0, .int .i64 0, .int .u32 0, .int .u32 0, .bool false, .int .i64 0, .int .i64 0, .slice none 0 0, .slice io 1 ic, .slice oo N4 oc, .int .i64 1] := by
 subst hn
 exact ⟨[.int .i64 0, .int .u32 0, .int .u32 0, .bool false, .int .i64 0, .int .i64 0, .slice none 0 0], [.int .i64 0, .int .u32 0, .int .u32 0, .bool false, .int .i64 0, .int .i64 0, .slice none 0 0], _, _, rfl, hs, pat_leaf _ _ 0 (pl := 0) (mi := 0) false 0 0 (by decide) (by decide), pat_leaf _ _ 0 (pl := 0) (mi := 0) false 0 0 (by decide) (by decide), hi.ext hE, ho.ext hE⟩
theorem load_rowG {P : Program} {ops : Array Oper} {rest : List Oper} {o : Oper} {a : Act} {w : World} {Q : Exit → Act → World → Prop} (hgd : Region.wanted o (yielded ops a.tmps) = true) (ty : TypeId) (x : Operand) (ho : o.op = .load ty x)
  (g : Nat) (hx : a.eval x = .pointer (some ⟨g, 0, none⟩)) (t : TypeId) (cs : Array Value) (fr : Nat × Nat) (d : TypeDesc) (hg : w.heap[g]? = some (.cells cs t fr))
  (hu : P.underlying ty = some d) (hd : (match d with | .struct _ | .array _ _ => true | _ => false) = true) (hi : (P.info? ty).map (·.size) = some cs.size)
  (h : wpList P ops Q rest (a.put o.dst (.agg cs)) w) : wpList P ops Q (o :: rest) a w :=
 wpList_step fun K hK => by
  rw [if_pos hgd]
  exact wp_load_row ty x ho g hx t cs fr d hg hu hd hi (hK _ _ h)
theorem append_rdG {P : Program} {w : World} {ops : Array Oper} {rest : List Oper} {o : Oper} {a : Act} {Q : Exit → Act → World → Prop} (hgd : Region.wanted o (yielded ops a.tmps) = true) (s x : Operand) (t : TypeId)
  (ho : o.op = .call { callee := .builtin .append, args := #[s, x], argTypes := #[t, t] })
  (base : Nat) (e : TypeId) (z : Value) (size bytes : Nat) (ht : P.underlying t = some (.slice e)) (hinfo : (P.info? e).map (fun i => (i.zero, i.size, i.bytes)) = some (some z, size, bytes))
  (hzs : z.cells.size = size) (hsz : 0 < size)
  (v : Value) (n : Nat) (xs : List Value) (hs : a.eval s = v) (hown : w.ownsRow base e size v n xs)
  (A : Option Addr) (m c : Nat) (news : List Value) (hx : a.eval x = .slice A m c) (hr : Rd w (.slice A m c) m size news) (h1 : ∀ u ∈ news, u.oneCell' = true)
  (h63 : n + m ≤ maxLen) (hbytes : (n + m) * bytes ≤ 140737488355328) (hbase : base ≤ w.heap.size)
  (h : ∀ ao c' w', w'.ownsRow base e size (.slice ao (n + m) c') (n + m) (xs ++ news) → Turn (fun b => v.ownBlock = some b) w w' → ((Value.slice ao (n + m) c').ownBlock = v.ownBlock ∨ (Value.slice ao (n + m) c').ownBlock = some w.heap.size) → wpList P ops Q rest (a.put o.dst (.slice ao (n + m) c')) w') : wpList P ops Q (o :: rest) a w :=
 wpList_step fun K hK => by
  rw [if_pos hgd]
  exact append_rdO s x t ho base e z size bytes ht hinfo hzs hsz v n xs hs hown A m c news hx hr h1 h63 hbytes hbase (fun ao c' w' q1 q2 q3 => hK _ _ (h ao c' w' q1 q2 q3))
theorem appL_short {l : LawD} {ws : Wd} (h : trE l ws = 0) : (appL l ws).length ≤ 32 := by
 have key : ∀ (t : List Wd) (d : Wd), d.length ≤ 32 → (∀ x ∈ t, x.length ≤ 32) → (t.getLastD d).length ≤ 32 := by
  intro t
  induction t with
  | nil => intro d hd _; exact hd
  | cons a t ih => intro d _ ht; rw [List.getLastD_cons]; exact ih a (ht a (by simp)) (fun x hx => ht x (by simp [hx]))
 unfold appL lastT
 rw [if_pos h]
 refine key _ _ (wE_le (lawW_zero (trE_law h)).2) (fun x hx => ?_)
 obtain ⟨y, hy, rfl⟩ := List.mem_map.1 hx
 exact longT_get (trE_short h) hy
theorem lawE_ok {l : LawD} (h : lawE l = 0) : lawB l = true := by
 unfold lawE at h
 split at h
 ·assumption
 ·cases h

theorem alone_law_walk {w : World} {l : LawD} {cs : List Value} {vo : Option Addr} {vc : Nat} {vs : Wd} {uo : Option Addr} {uc : Nat} {us : Wd} (hl : LawAt w l cs) (hic : IfCap l cs) (hv : WordAt w (.slice vo vs.length vc) vs) (hvc : vs.length ≤ vc) (hu : WordAt w (.slice uo us.length uc) us) (huc : us.length ≤ uc) (hT : Tab w) (hb1 : vs.length ≤ 17592186044416) (hb2 : us.length ≤ 17592186044416) :
  Calls Tryz.prog 7 #[.agg cs.toArray, .slice vo vs.length vc, .slice uo us.length uc] w fun e w' => e = .returned (.bool true) ∧ Ext w w' := by
 obtain ⟨nm, k1, p1, m1, n1, a1, b1, o1, N1, c1, k2, p2, m2, n2, a2, b2, o2, N2, c2, io, N3, ic, oo, N4, oc, md, rfl, HLA, HPL, HPR, HIF, HOU, HNM, HN1, HN2, HN3, HN4, HMD, q0, q1, q2, q3, q4⟩ := law_gen hl
 obtain ⟨jo, jc, hq, hcap⟩ := hic
 simp only [List.getElem?_cons_succ, List.getElem?_cons_zero, Option.some.injEq, Value.slice.injEq] at hq
 obtain ⟨rfl, hz, rfl⟩ := hq
 clear hz
 rw [HN3.out] at hcap
 have HLW : Hid (∀ (io' : Option Addr) (ic' : Nat), WordAt w (.slice io' 1 ic') (l.ifs.take 1) → ∀ D, Ext w D → LawAt D (aloneL l) [.string nm, .int .i64 0, .int .u32 0, .int .u32 0, .bool false, .int .i64 0, .int .i64 0, .slice none 0 0, .int .i64 0, .int .u32 0, .int .u32 0, .bool false, .int .i64 0, .int .i64 0, .slice none 0 0, .slice io' 1 ic', .slice oo N4 oc, .int .i64 1]) := Lib.hid fun io' ic' hi D hE => alone_at hE HNM.out q0 hi HOU.out
 have hif : WordAt w (.slice io l.ifs.length ic) l.ifs := by rw [HN3.out]; exact HIF.out
 have hci := fun (h : 1 ≤ N3) => WordAt.cut hif (a := 0) (b := 1) (by omega) (by rw [HN3.out]; exact h) (by rw [HN3.out]; exact hcap)
 clear hif
 have hlaw := fun (h : 1 ≤ N3) (hb : lawB (aloneL l) = true) (hs : vs.length + us.length ≤ 32) => alone_law (l := aloneL l) hb rfl rfl rfl (by show (l.ifs.take 1).length = 1; rw [List.length_take, HN3.out]; omega) hs
 have hap := fun (io' : Option Addr) (ic' : Nat) (hi : WordAt w (.slice io' 1 ic') (l.ifs.take 1)) (D : World) (hE : Ext w D) (xo : Option Addr) (xc : Nat) (x : Wd) (hx : WordAt D (.slice xo x.length xc) x) (hc : x.length ≤ xc) => word_one (HLW.out io' ic' hi D hE) hx hc (hT.keep hE id)
 have hck := fun (io' : Option Addr) (ic' : Nat) (hi : WordAt w (.slice io' 1 ic') (l.ifs.take 1)) (D : World) (hE : Ext w D) => lcheck_any (HLW.out io' ic' hi D hE) (hT.keep hE id)
 have hwo := fun (V : World) (hE : Ext w V) => lworks_any V (hT.keep hE id)
 have hi1 : N3 = 1 → WordAt w (.slice io N3 ic) (l.ifs.take 1) := fun h => by rw [List.take_of_length_le (by rw [HN3.out]; omega)]; exact HIF.out
 have hrv := fun (D : World) (hE : Ext w D) => hv.ext hE
 have hru := fun (D : World) (hE : Ext w D) => hu.ext hE
 obtain ⟨l', hq⟩ : ∃ R, aloneL l = R := ⟨_, rfl⟩
 simp only [hq] at hlaw hap hck
 clear hq
 obtain ⟨E, hE⟩ : ∃ R, lawE l' = R := ⟨_, rfl⟩
 simp only [hE] at hck
 have hlaw2 := fun (h : 1 ≤ N3) (he : E = 0) => hlaw h (lawE_ok (hE.trans he))
 have HAP := Lib.hid hap; have HCK := Lib.hid hck; have HWO := Lib.hid hwo; have HLAW := Lib.hid hlaw2; have HI1 := Lib.hid hi1; have HCI := Lib.hid hci; have HV := Lib.hid hrv; have HU := Lib.hid hru
 clear hl hv hu hT hap hck hwo hlaw hlaw2 hi1 hci hrv hru hE HLA HPL HPR HIF HOU HLW
 obtain ⟨nv, hnv⟩ : ∃ n, vs.length = n := ⟨_, rfl⟩
 obtain ⟨nu, hnu⟩ : ∃ n, us.length = n := ⟨_, rfl⟩
 have HNV := Lib.hid hnv; have HNU := Lib.hid hnu
 rw [hnv] at hvc hb1
 rw [hnu] at huc hb2
 simp only [hnv] at HV HLAW ⊢
 simp only [hnu] at HU HLAW ⊢
 clear hnv hnu
 go_enter Tryz.func7, Tryz.ntmps7
 go_upto_region 1 with (fail)
 obtain ⟨w1, hw1⟩ : ∃ D, w.alloc (.cells #[.string nm, .int .i64 k1, .int .u32 (p1 : Int), .int .u32 (m1 : Int), .bool n1, .int .i64 a1, .int .i64 b1, .slice o1 N1 c1, .int .i64 k2, .int .u32 (p2 : Int), .int .u32 (m2 : Int), .bool n2, .int .i64 a2, .int .i64 b2, .slice o2 N2 c2, .slice io N3 ic, .slice oo N4 oc, .int .i64 md] 31) = D := ⟨_, rfl⟩
 have hE1 : Ext w w1 := by rw [← hw1]; exact (Turn.refl _ w).alloc _
 have hl1 : w1.heap[w.heap.size]? = some (.cells #[.string nm, .int .i64 k1, .int .u32 (p1 : Int), .int .u32 (m1 : Int), .bool n1, .int .i64 a1, .int .i64 b1, .slice o1 N1 c1, .int .i64 k2, .int .u32 (p2 : Int), .int .u32 (m2 : Int), .bool n2, .int .i64 a2, .int .i64 b2, .slice o2 N2 c2, .slice io N3 ic, .slice oo N4 oc, .int .i64 md] 31 (0, 0)) := by rw [← hw1]; exact new_at rfl
 rw [hw1]
 obtain ⟨B, hB⟩ : ∃ b, w.heap.size = b := ⟨_, rfl⟩
 rw [hB] at hl1 ⊢
 have HL1 := Lib.hid hl1; have HB := Lib.hid hB
 clear hw1 hl1 hB
 obtain ⟨w2, hw2⟩ : ∃ D, w1.setCells B 1 (#[.int .i64 0, .int .u32 0, .int .u32 0, .bool false, .int .i64 0, .int .i64 0, .slice none 0 0] : Array Value).toList = D := ⟨_, rfl⟩
 have hl2 : w2.heap[B]? = some (.cells #[.string nm, .int .i64 0, .int .u32 0, .int .u32 0, .bool false, .int .i64 0, .int .i64 0, .slice none 0 0, .int .i64 k2, .int .u32 (p2 : Int), .int .u32 (m2 : Int), .bool n2, .int .i64 a2, .int .i64 b2, .slice o2 N2 c2, .slice io N3 ic, .slice oo N4 oc, .int .i64 md] 31 (0, 0)) := by rw [← hw2]; exact left_set HL1.out
 have hE2 : Ext w w2 := by rw [← hw2]; exact hE1.after (Turn.setCells _ _ _ _) (fun b hb e => by have := HB.out; omega)
 have HL2 := Lib.hid hl2; have HW2 := Lib.hid hw2
 clear hl2 hw2
 go_upto_region 2 with (refine wpList_store_mid rfl 27 (.tmp 14) (.tmp 13) rfl B 1 #[.int .i64 0, .int .u32 0, .int .u32 0, .bool false, .int .i64 0, .int .i64 0, .slice none 0 0] rfl rfl (there_row HL1.out (by simp)) (by kernel_rfl) (by kernel_rfl) ?_; rw [HW2.out])
 clear HW2 HL1 hE1
 obtain ⟨w3, hw3⟩ : ∃ D, w2.setCells B 8 (#[.int .i64 0, .int .u32 0, .int .u32 0, .bool false, .int .i64 0, .int .i64 0, .slice none 0 0] : Array Value).toList = D := ⟨_, rfl⟩
 have hl3 : w3.heap[B]? = some (.cells #[.string nm, .int .i64 0, .int .u32 0, .int .u32 0, .bool false, .int .i64 0, .int .i64 0, .slice none 0 0, .int .i64 0, .int .u32 0, .int .u32 0, .bool false, .int .i64 0, .int .i64 0, .slice none 0 0, .slice io N3 ic, .slice oo N4 oc, .int .i64 md] 31 (0, 0)) := by rw [← hw3]; exact right_set HL2.out
 have hE3 : Ext w w3 := by rw [← hw3]; exact hE2.after (Turn.setCells _ _ _ _) (fun b hb e => by have := HB.out; omega)
 have HL3 := Lib.hid hl3; have HW3 := Lib.hid hw3
 clear hl3 hw3
 go_upto_region 3 with (refine wpList_store_mid rfl 27 (.tmp 16) (.tmp 15) rfl B 8 #[.int .i64 0, .int .u32 0, .int .u32 0, .bool false, .int .i64 0, .int .i64 0, .slice none 0 0] rfl rfl (there_row HL2.out (by simp)) (by kernel_rfl) (by kernel_rfl) ?_; rw [HW3.out])
 clear HW3 HL2 hE2
 obtain ⟨w4, hw4⟩ : ∃ D, w3.setCell ⟨B, 17, none⟩ (.int .i64 1) = D := ⟨_, rfl⟩
 have hl4 : w4.heap[B]? = some (.cells #[.string nm, .int .i64 0, .int .u32 0, .int .u32 0, .bool false, .int .i64 0, .int .i64 0, .slice none 0 0, .int .i64 0, .int .u32 0, .int .u32 0, .bool false, .int .i64 0, .int .i64 0, .slice none 0 0, .slice io N3 ic, .slice oo N4 oc, .int .i64 1] 31 (0, 0)) := by rw [← hw4]; exact mode_set HL3.out
 have hE4 : Ext w w4 := by rw [← hw4]; exact hE3.after (Turn.set1 _ _ _ _) (fun b hb e => by have := HB.out; omega)
 have c17 := cell_of_row _ _ 17 _ _ _ HL3.out
 have f17 : w3.frozen? ⟨B, 17, none⟩ = false := (there_row HL3.out (o := 17) (n := 1) (by simp) 0 (by omega)).2
 go_upto_region 4 with (fail)
 try rw [hw4]
 have HL4 := Lib.hid hl4
 clear hl4 hw4 HL3 hE3 c17 f17
 have cX := cell_of_row _ _ 15 _ _ _ HL4.out
 by_cases h3 : N3 = 0
 case pos =>
  subst h3
  clear HAP HCK HLAW HI1 HCI HV HU
  go_wp2_with fail
  refine (HWO.out _ hE4).mono ?_
  rintro e w5 ⟨rfl, hN⟩
  have hN4 : Ext w4 w5 := hN
  have hE5 : Ext w w5 := hE4.trans hN
  clear hN
  have HEND := Lib.hid hE5
  clear hE4 hE5
  go_wp2
  go_ret
  exact ⟨rfl, HEND.out⟩
 have h31 : 1 ≤ N3 := by omega
 by_cases h3 : N3 = 1
 case pos =>
  subst h3
  have HI := Lib.hid (HI1.out rfl)
  clear HI1
  have HAP2 := Lib.hid (HAP.out io ic HI.out)
  have HCK2 := Lib.hid (HCK.out io ic HI.out)
  clear HAP HCK HI HCI
  have cX := cell_of_row _ _ 15 _ _ _ HL4.out
  go_wp2_with (refine load_rowG (by rfl) 31 (.tmp 3) rfl B rfl _ _ _ _ HL4.out Tryz.underlying31 rfl Tryz.lawInfo ?_)
  refine (HCK2.out _ hE4).mono ?_
  rintro e w5 ⟨rfl, hN⟩
  have hN4 : Ext w4 w5 := hN
  have hE5 : Ext w w5 := hE4.trans hN
  have HL5 := Lib.hid (Ext.keep hN HL4.out)
  clear hN HL4
  clear HCK2 cX hN4
  by_cases hE0 : E = 0
  case neg =>
   have h9 : (E != 0) = true := by rw [bne_iff_ne]; exact hE0
   clear HAP2 HLAW HV HU
   go_wp2_with fail
   refine (HWO.out _ hE5).mono ?_
   rintro e w6 ⟨rfl, hN⟩
   have hN5 : Ext w5 w6 := hN
   have hE6 : Ext w w6 := hE5.trans hN
   clear hN
   have HEND := Lib.hid hE6
   clear hE4 hE5 hE6
   go_wp2
   go_ret
   exact ⟨rfl, HEND.out⟩
  subst hE0
  have HLAW2 := Lib.hid (HLAW.out h31 rfl)
  clear HLAW
  have hsum : IntKind.i64.wrap ((nv : Int) + (nu : Int)) = (nv : Int) + (nu : Int) := IntWalk.i64_in _ (by omega)
  by_cases hs : nv + nu ≤ 32
  case neg =>
   have h9 : (nv : Int) + (nu : Int) > 32 := by omega
   clear HAP2 HLAW2 HV HU
   go_wp2_with fail
   refine (HWO.out _ hE5).mono ?_
   rintro e w6 ⟨rfl, hN⟩
   have hN5 : Ext w5 w6 := hN
   have hE6 : Ext w w6 := hE5.trans hN
   clear hN
   have HEND := Lib.hid hE6
   clear hE5 hE6
   go_wp2
   go_ret
   exact ⟨rfl, HEND.out⟩
  have h9 : ¬ (nv : Int) + (nu : Int) > 32 := by omega
  have HLAW3 := Lib.hid (HLAW2.out hs)
  clear HLAW2
  have hx := HAP2.out w5 hE5 vo vc vs (by rw [HNV.out]; exact HV.out _ hE5) (by rw [HNV.out]; exact hvc)
  rw [HNV.out] at hx
  have hxl := @appL_short l' vs
  obtain ⟨Ev, hq⟩ : ∃ R, trE l' vs = R := ⟨_, rfl⟩
  rw [hq] at hx HLAW3 hxl
  clear hq
  obtain ⟨X, hq⟩ : ∃ R, appL l' vs = R := ⟨_, rfl⟩
  rw [hq] at hx HLAW3 hxl
  clear hq
  obtain ⟨nx, hnx⟩ : ∃ n, X.length = n := ⟨_, rfl⟩
  rw [hnx] at hx HLAW3 hxl
  have HXL := Lib.hid hxl
  clear hxl
  have HNX := Lib.hid hnx
  have HX := Lib.hid hx
  clear hx hnx
  go_wp2_with (refine wpList_load_row rfl 31 (.tmp 3) rfl B rfl _ _ _ _ HL5.out Tryz.underlying31 rfl Tryz.lawInfo ?_)
  refine (HX.out).mono ?_
  rintro e w6 ⟨xo, xc, rfl, hO, hN⟩
  have hN5 : Ext w5 w6 := hN
  have hE6 : Ext w w6 := hE5.trans hN
  have HL6 := Lib.hid (Ext.keep hN HL5.out)
  clear hN HL5
  have HXW : Hid (∀ D, Ext w6 D → WordAt D (.slice xo nx xc) X) := Lib.hid (fun D hD => hO.ext hD)
  clear hO HX
  have hx := HAP2.out w6 hE6 uo uc us (by rw [HNU.out]; exact HU.out _ hE6) (by rw [HNU.out]; exact huc)
  rw [HNU.out] at hx
  have hxl := @appL_short l' us
  obtain ⟨Eu, hq⟩ : ∃ R, trE l' us = R := ⟨_, rfl⟩
  rw [hq] at hx HLAW3 hxl
  clear hq
  obtain ⟨Y, hq⟩ : ∃ R, appL l' us = R := ⟨_, rfl⟩
  rw [hq] at hx HLAW3 hxl
  clear hq
  obtain ⟨ny, hny⟩ : ∃ n, Y.length = n := ⟨_, rfl⟩
  rw [hny] at hx HLAW3 hxl
  have HYL := Lib.hid hxl
  clear hxl
  have HNY := Lib.hid hny
  have HX := Lib.hid hx
  clear hx hny
  go_wp2_with (refine wpList_load_row rfl 31 (.tmp 3) rfl B rfl _ _ _ _ HL6.out Tryz.underlying31 rfl Tryz.lawInfo ?_)
  refine (HX.out).mono ?_
  rintro e w7 ⟨yo, yc, rfl, hO, hN⟩
  have hN6 : Ext w6 w7 := hN
  have hE7 : Ext w w7 := hE6.trans hN
  have HL7 := Lib.hid (Ext.keep hN HL6.out)
  clear hN HL6
  have HYW : Hid (∀ D, Ext w7 D → WordAt D (.slice yo ny yc) Y) := Lib.hid (fun D hD => hO.ext hD)
  clear hO HX
  obtain ⟨zs, hzs⟩ : ∃ zs, vs ++ us = zs := ⟨_, rfl⟩
  rw [hzs] at HLAW3
  have hzl : zs.length = nv + nu := by rw [← hzs, List.length_append, HNV.out, HNU.out]
  have hzd : sndL vs ++ sndL us = sndL zs := by rw [← hzs, sndL_append]
  have hzk : WdOk zs := by rw [← hzs]; intro x hx; exact (List.mem_append.1 hx).elim ((HV.out w7 hE7).2 x) ((HU.out w7 hE7).2 x)
  obtain ⟨Ez, hq⟩ : ∃ R, trE l' zs = R := ⟨_, rfl⟩
  have HEZ := Lib.hid hq
  rw [hq] at HLAW3
  clear hq
  obtain ⟨Z, hq⟩ : ∃ R, appL l' zs = R := ⟨_, rfl⟩
  have HZA := Lib.hid hq
  rw [hq] at HLAW3
  clear hq
  have HZL := Lib.hid hzl; have HZD := Lib.hid hzd; have HZK := Lib.hid hzk
  clear hzs hzl hzd hzk
  go_upto_region 10 with (fail)
  obtain ⟨V0, hV0⟩ : ∃ D, w7.drew = D := ⟨_, rfl⟩
  have e0 : Ext w7 V0 := by rw [← hV0]; exact (Turn.refl _ w7).drew
  have hL0 := e0.keep HL7.out
  refine wp_region_late (S := fun D => D.heap[B]? = some (.cells #[.string nm, .int .i64 0, .int .u32 0, .int .u32 0, .bool false, .int .i64 0, .int .i64 0, .slice none 0 0, .int .i64 0, .int .u32 0, .int .u32 0, .bool false, .int .i64 0, .int .i64 0, .slice none 0 0, .slice io 1 ic, .slice oo N4 oc, .int .i64 1] 31 (0, 0))) [] (by kernel_rfl) (by rw [hV0]; exact hL0) ?_
  intro _
  have hS0 := hL0
  rw [hV0]
  clear hV0
  refine tkE (i := 0) (d := 57) (v := ?_) rfl (Or.inl ⟨by rfl, ?_⟩) hS0 ?_
  rotate_left
  ·intro w hSw; (try dsimp only at hSw); have hrow := hSw; refine exec_load_row (x := .tmp 3) ?_ B ?_ _ _ _ hrow Tryz.underlying31 Tryz.lawInfo <;> rfl
  try simp only [Act.put, pq]
  refine tkE (i := 2) (d := 59) (v := ?_) rfl (Or.inl ⟨by rfl, ?_⟩) hS0 ?_
  rotate_left
  ·intro w hSw; (try dsimp only at hSw); go_simp; try with_reducible rfl
  try simp only [Act.put, pq]
  refine tkE (i := 4) (d := 61) (v := ?_) rfl (Or.inl ⟨by rfl, ?_⟩) hS0 ?_
  rotate_left
  ·intro w hSw; (try dsimp only at hSw); go_simp; try with_reducible rfl
  try simp only [Act.put, pq]
  refine wpAnyE_ready (rs := [1]) (by kernel_rfl) (by simp) ?_
  refine AllReadyE.cons rfl (fun K hK => ?_) AllReadyE.nil
  (try rw [if_pos (show Region.wanted _ _ = true from rfl)])
  go_simp
  obtain ⟨V1, hV1⟩ : ∃ D, V0.alloc (.cells #[] 24) = D := ⟨_, rfl⟩
  have e1 : Ext w7 V1 := by rw [← hV1]; exact e0.alloc _
  have hL1 := e1.keep HL7.out
  have hO1 : V1.ownsRow w7.heap.size 24 2 (.slice (some ⟨V0.heap.size, 0, none⟩) 0 0) 0 [] := by rw [← hV1]; exact World.ownsRow_made (base := w7.heap.size) (e := 24) (size := 2) V0 #[] 0 e0.size (by decide) rfl
  rw [hV1]
  have HRV := Lib.hid ((word_rd (HV.out V1 (hE7.trans e1)) HNV.out).2)
  have z1 := e1.size
  clear hV1
  refine hK.out _ _ hL1 (fun hS1 => ?_)
  clear hK K
  try simp only [Act.put, pq]
  refine wpAnyE_ready (rs := [3]) (by kernel_rfl) (by simp) ?_
  refine AllReadyE.cons rfl (fun K hK => ?_) AllReadyE.nil
  (try rw [if_pos (show Region.wanted _ _ = true from rfl)])
  refine append_rdO (.tmp 58) (.tmp 59) 28 rfl w7.heap.size 24 _ 2 8 Tryz.underlying28 @infoS rfl (by decide) _ 0 [] rfl hO1 _ _ _ _ rfl HRV.out (one_sndL _) (by unfold maxLen; omega) (by omega) z1 ?_
  intro no1 nc1 V2 hO2 hT2 hB2
  try rw [Nat.zero_add] at hO2
  try rw [List.nil_append] at hO2
  try rw [Nat.zero_add]
  have e2 : Ext w7 V2 := e1.after hT2 (fun b hb e => by have := (hO1.lt _ e).1; omega)
  have hL2 := e2.keep HL7.out
  have z2 := e2.size
  have HRU := Lib.hid ((word_rd (HU.out V2 (hE7.trans e2)) HNU.out).2)
  clear hB2 hT2
  refine hK.out _ _ hL2 (fun hS2 => ?_)
  clear hK K
  try simp only [Act.put, List.setIfInBounds_toArray]
  refine wpAnyE_ready (rs := [5]) (by kernel_rfl) (by simp) ?_
  refine AllReadyE.cons rfl (fun K hK => ?_) AllReadyE.nil
  (try rw [if_pos (show Region.wanted _ _ = true from rfl)])
  refine append_rdO (.tmp 60) (.tmp 61) 28 rfl w7.heap.size 24 _ 2 8 Tryz.underlying28 @infoS rfl (by decide) _ _ _ rfl hO2 _ _ _ _ rfl HRU.out (one_sndL _) (by unfold maxLen; omega) (by omega) z2 ?_
  intro no nc V3 hO3 hT3 hB3
  rw [HZD.out] at hO3
  have e3 : Ext w7 V3 := e2.after hT3 (fun b hb e => by have := (hO2.lt _ e).1; omega)
  have hL3 := e3.keep HL7.out
  obtain ⟨zo, zc, hq, hzw, hzc⟩ := OneW.of_own (u := zs) (by rw [HZL.out]; exact hO3) HZK.out
  simp only [Value.slice.injEq] at hq
  rw [HZL.out] at hq hzw hzc
  obtain ⟨rfl, _, rfl⟩ := hq
  have hx := HAP2.out V3 (hE7.trans e3) no nc zs (by rw [HZL.out]; exact hzw) (by rw [HZL.out]; exact hzc)
  rw [HZL.out, HEZ.out, HZA.out] at hx
  have HX := Lib.hid hx
  clear hx hB3 hT3 hzw hzc
  refine hK.out _ _ hL3 (fun hS3 => ?_)
  clear hK K
  try simp only [Act.put]
  refine wpAnyE_ready (rs := [6]) (by kernel_rfl) (by simp) ?_
  refine AllReadyE.cons rfl (fun K hK => ?_) AllReadyE.nil
  (try rw [if_pos (show Region.wanted _ _ = true from rfl)])
  go_simp
  refine HX.out.mono ?_
  rintro e V4 ⟨zo2, zc2, rfl, hO4, hN⟩
  have e4 : Ext w7 V4 := e3.trans hN
  have hL4 := e4.keep HL7.out
  refine hK.out _ _ hL4 (fun hS4 => ?_)
  clear hK K hN
  try simp only [Act.put, pq]
  refine tkE (i := 7) (d := 56) (v := ?_) rfl (Or.inl ⟨by rfl, ?_⟩) hS4 ?_
  rotate_left
  ·intro w hSw; (try dsimp only at hSw); go_simp; try with_reducible rfl
  try simp only [Act.put, pq]
  refine tkE (i := 8) (d := 64) (v := ?_) rfl (Or.inl ⟨by rfl, ?_⟩) hS4 ?_
  rotate_left
  ·intro w hSw; (try dsimp only at hSw); go_simp; try with_reducible rfl
  try simp only [Act.put, pq]
  refine tkE (i := 9) (d := 65) (v := ?_) rfl (Or.inl ⟨by rfl, ?_⟩) hS4 ?_
  rotate_left
  ·intro w hSw; (try dsimp only at hSw); go_simp; try with_reducible rfl
  try simp only [Act.put, pq]
  refine tkE (i := 10) (d := 11) (v := ?_) rfl (Or.inl ⟨by rfl, ?_⟩) hS4 ?_
  rotate_left
  ·intro w hSw; (try dsimp only at hSw); go_simp; try with_reducible rfl
  try simp only [Act.put, pq]
  refine tkE (i := 11) (d := 12) (v := ?_) rfl (Or.inl ⟨by rfl, ?_⟩) hS4 ?_
  rotate_left
  ·intro w hSw; (try dsimp only at hSw); go_simp; try with_reducible rfl
  try simp only [Act.put, pq]
  refine wpAnyE_done (by kernel_rfl) ?_ _
  obtain ⟨w8, hq⟩ : ∃ D, V4 = D := ⟨_, rfl⟩
  rw [hq] at hO4 e4 ⊢
  have hE8 : Ext w w8 := hE7.trans e4
  have hN7 : Ext w7 w8 := e4
  clear hq hL4 hS4 e4 hL3 hS3 e3 hO3 hL2 hS2 e2 hO2 hL1 hS1 e1 hO1 hL0 hS0 e0 z1 z2 HX HRV HRU
  have HZW : Hid (∀ D, Ext w8 D → WordAt D (.slice zo2 Z.length zc2) Z) := Lib.hid (fun D hD => hO4.ext hD)
  clear hO4
  obtain ⟨hl1, hl2, hl3⟩ := HLAW3.out
  have HL1' := Lib.hid hl1; have HL2' := Lib.hid hl2; have HL3' := Lib.hid hl3
  clear hl1 hl2 hl3 HLAW3
  by_cases hbad : Ev ≠ 0 ∨ Eu ≠ 0
  case pos =>
   have hz0 := HL1'.out hbad
   have hz9 : (Ez != 0) = true := by rw [bne_iff_ne]; exact hz0
   clear HL1' HL2' HL3' HZW HXW HYW HV HU
   by_cases hv0 : Ev = 0
   ·obtain hu0 : Eu ≠ 0 := hbad.resolve_left (fun h => h hv0)
    have hu9 : (Eu != 0) = true := by rw [bne_iff_ne]; exact hu0
    subst hv0
    clear hbad
    go_wp2_with fail
    refine (HWO.out _ hE8).mono ?_
    rintro e w9 ⟨rfl, hN⟩
    have hN8 : Ext w8 w9 := hN
    have hE9 : Ext w w9 := hE8.trans hN
    clear hN
    have HEND := Lib.hid hE9
    clear hE8 hE9
    go_wp2
    go_ret
    exact ⟨rfl, HEND.out⟩
   ·have hv9 : (Ev != 0) = true := by rw [bne_iff_ne]; exact hv0
    clear hbad
    go_wp2_with fail
    refine (HWO.out _ hE8).mono ?_
    rintro e w9 ⟨rfl, hN⟩
    have hN8 : Ext w8 w9 := hN
    have hE9 : Ext w w9 := hE8.trans hN
    clear hN
    have HEND := Lib.hid hE9
    clear hE8 hE9
    go_wp2
    go_ret
    exact ⟨rfl, HEND.out⟩
  obtain ⟨rfl, rfl⟩ : Ev = 0 ∧ Eu = 0 := ⟨Decidable.byContradiction fun h => hbad (.inl h), Decidable.byContradiction fun h => hbad (.inr h)⟩
  clear hbad HL1'
  have hnx9 : nx ≤ 32 := (HXL.out rfl)
  have hny9 : ny ≤ 32 := (HYL.out rfl)
  have hsm : IntKind.i64.wrap ((nx : Int) + (ny : Int)) = (nx : Int) + (ny : Int) := IntWalk.i64_in _ (by omega)
  by_cases hs2 : 32 < nx + ny
  case pos =>
   have hz0 := HL2'.out rfl rfl hs2
   have h10 : (nx : Int) + (ny : Int) > 32 := by omega
   subst hz0
   clear HL2' HL3' HZW HXW HYW HV HU
   go_wp2_with fail
   refine (HWO.out _ hE8).mono ?_
   rintro e w9 ⟨rfl, hN⟩
   have hN8 : Ext w8 w9 := hN
   have hE9 : Ext w w9 := hE8.trans hN
   clear hN
   have HEND := Lib.hid hE9
   clear hE8 hE9
   go_wp2
   go_ret
   exact ⟨rfl, HEND.out⟩
  obtain ⟨hz0, hz1⟩ := HL3'.out rfl rfl (by omega)
  have h10 : ¬ (nx : Int) + (ny : Int) > 32 := by omega
  subst hz0
  have HZ1 := Lib.hid hz1
  clear hz1
  clear HL2' HL3'
  have HRX := Lib.hid (fun (D : World) (hD : Ext w8 D) => (word_rd (HXW.out D (hN6.trans (hN7.trans hD))) HNX.out).2)
  have HRY := Lib.hid (fun (D : World) (hD : Ext w8 D) => (word_rd (HYW.out D (hN7.trans hD)) HNY.out).2)
  have hXY : (X ++ Y).length = nx + ny := by rw [List.length_append, HNX.out, HNY.out]
  have hok : WdOk (X ++ Y) := by intro x hx; exact (List.mem_append.1 hx).elim ((HXW.out w8 (hN6.trans hN7)).2 x) ((HYW.out w8 hN7).2 x)
  have HXY := Lib.hid hXY; have HOK := Lib.hid hok
  clear hXY hok
  have e1 : Ext w8 (w8.alloc (.cells #[] 24)) := (Turn.refl _ w8).alloc _
  have hO1 := World.ownsRow_made (base := w8.heap.size) (e := 24) (size := 2) w8 #[] 0 (Nat.le_refl _) (by decide) rfl
  have HO1 := Lib.hid hO1; have He1 := Lib.hid e1
  have HO1 := Lib.hid (World.ownsRow_made (base := w8.heap.size) (e := 24) (size := 2) w8 #[] 0 (Nat.le_refl _) (by decide) rfl)
  go_wp2_with (at_builtin; refine append_rdG (by rfl) (.tmp 92) (.tmp 93) 28 rfl w8.heap.size 24 _ 2 8 Tryz.underlying28 @infoS rfl (by decide) _ 0 [] rfl HO1.out _ _ _ _ rfl (HRX.out _ ((Turn.refl _ w8).alloc _)) (one_sndL _) (by unfold maxLen; omega) (by omega) (by simp) ?_)
  intro ao2 x2 V2 hO2 hT2 _
  have e2 : Ext w8 V2 := Turn.after ((Turn.refl _ w8).alloc _) hT2 (fun b hb e => by have := (HO1.out.lt _ e).1; omega)
  have HO2 := Lib.hid hO2
  clear hO2 hT2 HO1
  go_wp2_with (at_builtin; refine append_rdG (by rfl) (.tmp 94) (.tmp 95) 28 rfl w8.heap.size 24 _ 2 8 Tryz.underlying28 @infoS rfl (by decide) _ _ _ rfl HO2.out _ _ _ _ rfl (HRY.out _ e2) (one_sndL _) (by unfold maxLen; omega) (by omega) e2.size ?_)
  intro ao3 x3 V3 hO3 hT3 _
  have e3 : Ext w8 V3 := e2.after hT3 (fun b hb e => by have := (HO2.out.lt _ e).1; omega)
  have hw3 : OneW V3 (.slice ao3 (0 + nx + ny) x3) (X ++ Y) := OneW.of_own (by rw [HXY.out, sndL_append]; simpa using hO3) HOK.out
  obtain ⟨zo, zc, hq, hzw, hzc⟩ := hw3
  simp only [Value.slice.injEq] at hq
  obtain ⟨rfl, hq2, rfl⟩ := hq
  rw [← hq2, Nat.zero_add, ← HZ1.out] at hzw
  have HZZ := Lib.hid hzw
  clear hzw hzc hO3 hT3 HO2 hq2
  go_wp2_with fail
  refine (same_self (HZW.out _ e3) HZZ.out).mono ?_
  rintro e w9 ⟨rfl, hN⟩
  have hE9 : Ext w w9 := hE8.trans (e3.trans hN)
  clear hN e3 e2
  go_wp2_with fail
  refine (HWO.out _ hE9).mono ?_
  rintro e w10 ⟨rfl, hN⟩
  have hN9 : Ext w9 w10 := hN
  have hE10 : Ext w w10 := hE9.trans hN
  clear hN
  have HEND := Lib.hid hE10
  clear hE9 hE10
  go_wp2
  go_ret
  exact ⟨rfl, HEND.out⟩
 have h32 : (N3 : Int) > 1 := by omega
 have hw9 := HCI.out h31
 have s1 := fun D => slice_h (A := io) (n := N3) (c := ic) under_snd size_snd 1 (by omega) D
 have hx1 : sliced io 0 1 ic 2 = .slice io 1 ic := by unfold sliced; cases io <;> simp [Addr.add]
 rw [hx1] at hw9 s1
 rw [List.drop_zero] at hw9
 clear hx1 HI1
 have HI := Lib.hid (show WordAt w (.slice io 1 ic) (l.ifs.take 1) from hw9)
 clear hw9
 have hc1 : (1 : Int) ≤ (ic : Int) := by omega
 obtain ⟨w5, hw5⟩ : ∃ D, w4.setCell ⟨B, 15, none⟩ (.slice io 1 ic) = D := ⟨_, rfl⟩
 have hl5 : w5.heap[B]? = some (.cells #[.string nm, .int .i64 0, .int .u32 0, .int .u32 0, .bool false, .int .i64 0, .int .i64 0, .slice none 0 0, .int .i64 0, .int .u32 0, .int .u32 0, .bool false, .int .i64 0, .int .i64 0, .slice none 0 0, .slice io 1 ic, .slice oo N4 oc, .int .i64 1] 31 (0, 0)) := by rw [← hw5]; exact ifs_set HL4.out
 have hE5 : Ext w w5 := by rw [← hw5]; exact hE4.after (Turn.set1 _ _ _ _) (fun b hb e => by have := HB.out; omega)
 have c15 := cell_of_row _ _ 15 _ _ _ HL4.out
 have f15 : w4.frozen? ⟨B, 15, none⟩ = false := (there_row HL4.out (o := 15) (n := 1) (by simp) 0 (by omega)).2
 clear cX
 go_upto_region 6 with (fail)
 try rw [hw5]
 have HL5 := Lib.hid hl5
 clear hl5 hw5 HL4 hE4 c15 f15 s1 hc1
 clear hcap
 have HAP2 := Lib.hid (HAP.out io ic HI.out)
 have HCK2 := Lib.hid (HCK.out io ic HI.out)
 clear HAP HCK HI HCI
 have cX := cell_of_row _ _ 15 _ _ _ HL5.out
 go_wp2_with (refine load_rowG (by rfl) 31 (.tmp 3) rfl B rfl _ _ _ _ HL5.out Tryz.underlying31 rfl Tryz.lawInfo ?_)
 refine (HCK2.out _ hE5).mono ?_
 rintro e w6 ⟨rfl, hN⟩
 have hN5 : Ext w5 w6 := hN
 have hE6 : Ext w w6 := hE5.trans hN
 have HL6 := Lib.hid (Ext.keep hN HL5.out)
 clear hN HL5
 clear HCK2 cX hN5
 by_cases hE0 : E = 0
 case neg =>
  have h9 : (E != 0) = true := by rw [bne_iff_ne]; exact hE0
  clear HAP2 HLAW HV HU
  go_wp2_with fail
  refine (HWO.out _ hE6).mono ?_
  rintro e w7 ⟨rfl, hN⟩
  have hN6 : Ext w6 w7 := hN
  have hE7 : Ext w w7 := hE6.trans hN
  clear hN
  have HEND := Lib.hid hE7
  clear hE5 hE6 hE7
  go_wp2
  go_ret
  exact ⟨rfl, HEND.out⟩
 subst hE0
 have HLAW2 := Lib.hid (HLAW.out h31 rfl)
 clear HLAW
 have hsum : IntKind.i64.wrap ((nv : Int) + (nu : Int)) = (nv : Int) + (nu : Int) := IntWalk.i64_in _ (by omega)
 by_cases hs : nv + nu ≤ 32
 case neg =>
  have h9 : (nv : Int) + (nu : Int) > 32 := by omega
  clear HAP2 HLAW2 HV HU
  go_wp2_with fail
  refine (HWO.out _ hE6).mono ?_
  rintro e w7 ⟨rfl, hN⟩
  have hN6 : Ext w6 w7 := hN
  have hE7 : Ext w w7 := hE6.trans hN
  clear hN
  have HEND := Lib.hid hE7
  clear hE6 hE7
  go_wp2
  go_ret
  exact ⟨rfl, HEND.out⟩
 have h9 : ¬ (nv : Int) + (nu : Int) > 32 := by omega
 have HLAW3 := Lib.hid (HLAW2.out hs)
 clear HLAW2
 have hx := HAP2.out w6 hE6 vo vc vs (by rw [HNV.out]; exact HV.out _ hE6) (by rw [HNV.out]; exact hvc)
 rw [HNV.out] at hx
 have hxl := @appL_short l' vs
 obtain ⟨Ev, hq⟩ : ∃ R, trE l' vs = R := ⟨_, rfl⟩
 rw [hq] at hx HLAW3 hxl
 clear hq
 obtain ⟨X, hq⟩ : ∃ R, appL l' vs = R := ⟨_, rfl⟩
 rw [hq] at hx HLAW3 hxl
 clear hq
 obtain ⟨nx, hnx⟩ : ∃ n, X.length = n := ⟨_, rfl⟩
 rw [hnx] at hx HLAW3 hxl
 have HXL := Lib.hid hxl
 clear hxl
 have HNX := Lib.hid hnx
 have HX := Lib.hid hx
 clear hx hnx
 go_wp2_with (refine wpList_load_row rfl 31 (.tmp 3) rfl B rfl _ _ _ _ HL6.out Tryz.underlying31 rfl Tryz.lawInfo ?_)
 refine (HX.out).mono ?_
 rintro e w7 ⟨xo, xc, rfl, hO, hN⟩
 have hN6 : Ext w6 w7 := hN
 have hE7 : Ext w w7 := hE6.trans hN
 have HL7 := Lib.hid (Ext.keep hN HL6.out)
 clear hN HL6
 have HXW : Hid (∀ D, Ext w7 D → WordAt D (.slice xo nx xc) X) := Lib.hid (fun D hD => hO.ext hD)
 clear hO HX
 have hx := HAP2.out w7 hE7 uo uc us (by rw [HNU.out]; exact HU.out _ hE7) (by rw [HNU.out]; exact huc)
 rw [HNU.out] at hx
 have hxl := @appL_short l' us
 obtain ⟨Eu, hq⟩ : ∃ R, trE l' us = R := ⟨_, rfl⟩
 rw [hq] at hx HLAW3 hxl
 clear hq
 obtain ⟨Y, hq⟩ : ∃ R, appL l' us = R := ⟨_, rfl⟩
 rw [hq] at hx HLAW3 hxl
 clear hq
 obtain ⟨ny, hny⟩ : ∃ n, Y.length = n := ⟨_, rfl⟩
 rw [hny] at hx HLAW3 hxl
 have HYL := Lib.hid hxl
 clear hxl
 have HNY := Lib.hid hny
 have HX := Lib.hid hx
 clear hx hny
 go_wp2_with (refine wpList_load_row rfl 31 (.tmp 3) rfl B rfl _ _ _ _ HL7.out Tryz.underlying31 rfl Tryz.lawInfo ?_)
 refine (HX.out).mono ?_
 rintro e w8 ⟨yo, yc, rfl, hO, hN⟩
 have hN7 : Ext w7 w8 := hN
 have hE8 : Ext w w8 := hE7.trans hN
 have HL8 := Lib.hid (Ext.keep hN HL7.out)
 clear hN HL7
 have HYW : Hid (∀ D, Ext w8 D → WordAt D (.slice yo ny yc) Y) := Lib.hid (fun D hD => hO.ext hD)
 clear hO HX
 obtain ⟨zs, hzs⟩ : ∃ zs, vs ++ us = zs := ⟨_, rfl⟩
 rw [hzs] at HLAW3
 have hzl : zs.length = nv + nu := by rw [← hzs, List.length_append, HNV.out, HNU.out]
 have hzd : sndL vs ++ sndL us = sndL zs := by rw [← hzs, sndL_append]
 have hzk : WdOk zs := by rw [← hzs]; intro x hx; exact (List.mem_append.1 hx).elim ((HV.out w8 hE8).2 x) ((HU.out w8 hE8).2 x)
 obtain ⟨Ez, hq⟩ : ∃ R, trE l' zs = R := ⟨_, rfl⟩
 have HEZ := Lib.hid hq
 rw [hq] at HLAW3
 clear hq
 obtain ⟨Z, hq⟩ : ∃ R, appL l' zs = R := ⟨_, rfl⟩
 have HZA := Lib.hid hq
 rw [hq] at HLAW3
 clear hq
 have HZL := Lib.hid hzl; have HZD := Lib.hid hzd; have HZK := Lib.hid hzk
 clear hzs hzl hzd hzk
 go_upto_region 10 with (fail)
 obtain ⟨V0, hV0⟩ : ∃ D, w8.drew = D := ⟨_, rfl⟩
 have e0 : Ext w8 V0 := by rw [← hV0]; exact (Turn.refl _ w8).drew
 have hL0 := e0.keep HL8.out
 refine wp_region_late (S := fun D => D.heap[B]? = some (.cells #[.string nm, .int .i64 0, .int .u32 0, .int .u32 0, .bool false, .int .i64 0, .int .i64 0, .slice none 0 0, .int .i64 0, .int .u32 0, .int .u32 0, .bool false, .int .i64 0, .int .i64 0, .slice none 0 0, .slice io 1 ic, .slice oo N4 oc, .int .i64 1] 31 (0, 0))) [] (by kernel_rfl) (by rw [hV0]; exact hL0) ?_
 intro _
 have hS0 := hL0
 rw [hV0]
 clear hV0
 refine tkE (i := 0) (d := 57) (v := ?_) rfl (Or.inl ⟨by rfl, ?_⟩) hS0 ?_
 rotate_left
 ·intro w hSw; (try dsimp only at hSw); have hrow := hSw; refine exec_load_row (x := .tmp 3) ?_ B ?_ _ _ _ hrow Tryz.underlying31 Tryz.lawInfo <;> rfl
 try simp only [Act.put, pq]
 refine tkE (i := 2) (d := 59) (v := ?_) rfl (Or.inl ⟨by rfl, ?_⟩) hS0 ?_
 rotate_left
 ·intro w hSw; (try dsimp only at hSw); go_simp; try with_reducible rfl
 try simp only [Act.put, pq]
 refine tkE (i := 4) (d := 61) (v := ?_) rfl (Or.inl ⟨by rfl, ?_⟩) hS0 ?_
 rotate_left
 ·intro w hSw; (try dsimp only at hSw); go_simp; try with_reducible rfl
 try simp only [Act.put, pq]
 refine wpAnyE_ready (rs := [1]) (by kernel_rfl) (by simp) ?_
 refine AllReadyE.cons rfl (fun K hK => ?_) AllReadyE.nil
 (try rw [if_pos (show Region.wanted _ _ = true from rfl)])
 go_simp
 obtain ⟨V1, hV1⟩ : ∃ D, V0.alloc (.cells #[] 24) = D := ⟨_, rfl⟩
 have e1 : Ext w8 V1 := by rw [← hV1]; exact e0.alloc _
 have hL1 := e1.keep HL8.out
 have hO1 : V1.ownsRow w8.heap.size 24 2 (.slice (some ⟨V0.heap.size, 0, none⟩) 0 0) 0 [] := by rw [← hV1]; exact World.ownsRow_made (base := w8.heap.size) (e := 24) (size := 2) V0 #[] 0 e0.size (by decide) rfl
 rw [hV1]
 have HRV := Lib.hid ((word_rd (HV.out V1 (hE8.trans e1)) HNV.out).2)
 have z1 := e1.size
 clear hV1
 refine hK.out _ _ hL1 (fun hS1 => ?_)
 clear hK K
 try simp only [Act.put, pq]
 refine wpAnyE_ready (rs := [3]) (by kernel_rfl) (by simp) ?_
 refine AllReadyE.cons rfl (fun K hK => ?_) AllReadyE.nil
 (try rw [if_pos (show Region.wanted _ _ = true from rfl)])
 refine append_rdO (.tmp 58) (.tmp 59) 28 rfl w8.heap.size 24 _ 2 8 Tryz.underlying28 @infoS rfl (by decide) _ 0 [] rfl hO1 _ _ _ _ rfl HRV.out (one_sndL _) (by unfold maxLen; omega) (by omega) z1 ?_
 intro no1 nc1 V2 hO2 hT2 hB2
 try rw [Nat.zero_add] at hO2
 try rw [List.nil_append] at hO2
 try rw [Nat.zero_add]
 have e2 : Ext w8 V2 := e1.after hT2 (fun b hb e => by have := (hO1.lt _ e).1; omega)
 have hL2 := e2.keep HL8.out
 have z2 := e2.size
 have HRU := Lib.hid ((word_rd (HU.out V2 (hE8.trans e2)) HNU.out).2)
 clear hB2 hT2
 refine hK.out _ _ hL2 (fun hS2 => ?_)
 clear hK K
 try simp only [Act.put, List.setIfInBounds_toArray]
 refine wpAnyE_ready (rs := [5]) (by kernel_rfl) (by simp) ?_
 refine AllReadyE.cons rfl (fun K hK => ?_) AllReadyE.nil
 (try rw [if_pos (show Region.wanted _ _ = true from rfl)])
 refine append_rdO (.tmp 60) (.tmp 61) 28 rfl w8.heap.size 24 _ 2 8 Tryz.underlying28 @infoS rfl (by decide) _ _ _ rfl hO2 _ _ _ _ rfl HRU.out (one_sndL _) (by unfold maxLen; omega) (by omega) z2 ?_
 intro no nc V3 hO3 hT3 hB3
 rw [HZD.out] at hO3
 have e3 : Ext w8 V3 := e2.after hT3 (fun b hb e => by have := (hO2.lt _ e).1; omega)
 have hL3 := e3.keep HL8.out
 obtain ⟨zo, zc, hq, hzw, hzc⟩ := OneW.of_own (u := zs) (by rw [HZL.out]; exact hO3) HZK.out
 simp only [Value.slice.injEq] at hq
 rw [HZL.out] at hq hzw hzc
 obtain ⟨rfl, _, rfl⟩ := hq
 have hx := HAP2.out V3 (hE8.trans e3) no nc zs (by rw [HZL.out]; exact hzw) (by rw [HZL.out]; exact hzc)
 rw [HZL.out, HEZ.out, HZA.out] at hx
 have HX := Lib.hid hx
 clear hx hB3 hT3 hzw hzc
 refine hK.out _ _ hL3 (fun hS3 => ?_)
 clear hK K
 try simp only [Act.put]
 refine wpAnyE_ready (rs := [6]) (by kernel_rfl) (by simp) ?_
 refine AllReadyE.cons rfl (fun K hK => ?_) AllReadyE.nil
 (try rw [if_pos (show Region.wanted _ _ = true from rfl)])
 go_simp
 refine HX.out.mono ?_
 rintro e V4 ⟨zo2, zc2, rfl, hO4, hN⟩
 have e4 : Ext w8 V4 := e3.trans hN
 have hL4 := e4.keep HL8.out
 refine hK.out _ _ hL4 (fun hS4 => ?_)
 clear hK K hN
 try simp only [Act.put, pq]
 refine tkE (i := 7) (d := 56) (v := ?_) rfl (Or.inl ⟨by rfl, ?_⟩) hS4 ?_
 rotate_left
 ·intro w hSw; (try dsimp only at hSw); go_simp; try with_reducible rfl
 try simp only [Act.put, pq]
 refine tkE (i := 8) (d := 64) (v := ?_) rfl (Or.inl ⟨by rfl, ?_⟩) hS4 ?_
 rotate_left
 ·intro w hSw; (try dsimp only at hSw); go_simp; try with_reducible rfl
 try simp only [Act.put, pq]
 refine tkE (i := 9) (d := 65) (v := ?_) rfl (Or.inl ⟨by rfl, ?_⟩) hS4 ?_
 rotate_left
 ·intro w hSw; (try dsimp only at hSw); go_simp; try with_reducible rfl
 try simp only [Act.put, pq]
 refine tkE (i := 10) (d := 11) (v := ?_) rfl (Or.inl ⟨by rfl, ?_⟩) hS4 ?_
 rotate_left
 ·intro w hSw; (try dsimp only at hSw); go_simp; try with_reducible rfl
 try simp only [Act.put, pq]
 refine tkE (i := 11) (d := 12) (v := ?_) rfl (Or.inl ⟨by rfl, ?_⟩) hS4 ?_
 rotate_left
 ·intro w hSw; (try dsimp only at hSw); go_simp; try with_reducible rfl
 try simp only [Act.put, pq]
 refine wpAnyE_done (by kernel_rfl) ?_ _
 obtain ⟨w9, hq⟩ : ∃ D, V4 = D := ⟨_, rfl⟩
 rw [hq] at hO4 e4 ⊢
 have hE9 : Ext w w9 := hE8.trans e4
 have hN8 : Ext w8 w9 := e4
 clear hq hL4 hS4 e4 hL3 hS3 e3 hO3 hL2 hS2 e2 hO2 hL1 hS1 e1 hO1 hL0 hS0 e0 z1 z2 HX HRV HRU
 have HZW : Hid (∀ D, Ext w9 D → WordAt D (.slice zo2 Z.length zc2) Z) := Lib.hid (fun D hD => hO4.ext hD)
 clear hO4
 obtain ⟨hl1, hl2, hl3⟩ := HLAW3.out
 have HL1' := Lib.hid hl1; have HL2' := Lib.hid hl2; have HL3' := Lib.hid hl3
 clear hl1 hl2 hl3 HLAW3
 by_cases hbad : Ev ≠ 0 ∨ Eu ≠ 0
 case pos =>
  have hz0 := HL1'.out hbad
  have hz9 : (Ez != 0) = true := by rw [bne_iff_ne]; exact hz0
  clear HL1' HL2' HL3' HZW HXW HYW HV HU
  by_cases hv0 : Ev = 0
  ·obtain hu0 : Eu ≠ 0 := hbad.resolve_left (fun h => h hv0)
   have hu9 : (Eu != 0) = true := by rw [bne_iff_ne]; exact hu0
   subst hv0
   clear hbad
   go_wp2_with fail
   refine (HWO.out _ hE9).mono ?_
   rintro e w10 ⟨rfl, hN⟩
   have hN9 : Ext w9 w10 := hN
   have hE10 : Ext w w10 := hE9.trans hN
   clear hN
   have HEND := Lib.hid hE10
   clear hE9 hE10
   go_wp2
   go_ret
   exact ⟨rfl, HEND.out⟩
  ·have hv9 : (Ev != 0) = true := by rw [bne_iff_ne]; exact hv0
   clear hbad
   go_wp2_with fail
   refine (HWO.out _ hE9).mono ?_
   rintro e w10 ⟨rfl, hN⟩
   have hN9 : Ext w9 w10 := hN
   have hE10 : Ext w w10 := hE9.trans hN
   clear hN
   have HEND := Lib.hid hE10
   clear hE9 hE10
   go_wp2
   go_ret
   exact ⟨rfl, HEND.out⟩
 obtain ⟨rfl, rfl⟩ : Ev = 0 ∧ Eu = 0 := ⟨Decidable.byContradiction fun h => hbad (.inl h), Decidable.byContradiction fun h => hbad (.inr h)⟩
 clear hbad HL1'
 have hnx9 : nx ≤ 32 := (HXL.out rfl)
 have hny9 : ny ≤ 32 := (HYL.out rfl)
 have hsm : IntKind.i64.wrap ((nx : Int) + (ny : Int)) = (nx : Int) + (ny : Int) := IntWalk.i64_in _ (by omega)
 by_cases hs2 : 32 < nx + ny
 case pos =>
  have hz0 := HL2'.out rfl rfl hs2
  have h10 : (nx : Int) + (ny : Int) > 32 := by omega
  subst hz0
  clear HL2' HL3' HZW HXW HYW HV HU
  go_wp2_with fail
  refine (HWO.out _ hE9).mono ?_
  rintro e w10 ⟨rfl, hN⟩
  have hN9 : Ext w9 w10 := hN
  have hE10 : Ext w w10 := hE9.trans hN
  clear hN
  have HEND := Lib.hid hE10
  clear hE9 hE10
  go_wp2
  go_ret
  exact ⟨rfl, HEND.out⟩
 obtain ⟨hz0, hz1⟩ := HL3'.out rfl rfl (by omega)
 have h10 : ¬ (nx : Int) + (ny : Int) > 32 := by omega
 subst hz0
 have HZ1 := Lib.hid hz1
 clear hz1
 clear HL2' HL3'
 have HRX := Lib.hid (fun (D : World) (hD : Ext w9 D) => (word_rd (HXW.out D (hN7.trans (hN8.trans hD))) HNX.out).2)
 have HRY := Lib.hid (fun (D : World) (hD : Ext w9 D) => (word_rd (HYW.out D (hN8.trans hD)) HNY.out).2)
 have hXY : (X ++ Y).length = nx + ny := by rw [List.length_append, HNX.out, HNY.out]
 have hok : WdOk (X ++ Y) := by intro x hx; exact (List.mem_append.1 hx).elim ((HXW.out w9 (hN7.trans hN8)).2 x) ((HYW.out w9 hN8).2 x)
 have HXY := Lib.hid hXY; have HOK := Lib.hid hok
 clear hXY hok
 have e1 : Ext w9 (w9.alloc (.cells #[] 24)) := (Turn.refl _ w9).alloc _
 have hO1 := World.ownsRow_made (base := w9.heap.size) (e := 24) (size := 2) w9 #[] 0 (Nat.le_refl _) (by decide) rfl
 have HO1 := Lib.hid hO1; have He1 := Lib.hid e1
 have HO1 := Lib.hid (World.ownsRow_made (base := w9.heap.size) (e := 24) (size := 2) w9 #[] 0 (Nat.le_refl _) (by decide) rfl)
 go_wp2_with (at_builtin; refine append_rdG (by rfl) (.tmp 92) (.tmp 93) 28 rfl w9.heap.size 24 _ 2 8 Tryz.underlying28 @infoS rfl (by decide) _ 0 [] rfl HO1.out _ _ _ _ rfl (HRX.out _ ((Turn.refl _ w9).alloc _)) (one_sndL _) (by unfold maxLen; omega) (by omega) (by simp) ?_)
 intro ao2 x2 V2 hO2 hT2 _
 have e2 : Ext w9 V2 := Turn.after ((Turn.refl _ w9).alloc _) hT2 (fun b hb e => by have := (HO1.out.lt _ e).1; omega)
 have HO2 := Lib.hid hO2
 clear hO2 hT2 HO1
 go_wp2_with (at_builtin; refine append_rdG (by rfl) (.tmp 94) (.tmp 95) 28 rfl w9.heap.size 24 _ 2 8 Tryz.underlying28 @infoS rfl (by decide) _ _ _ rfl HO2.out _ _ _ _ rfl (HRY.out _ e2) (one_sndL _) (by unfold maxLen; omega) (by omega) e2.size ?_)
 intro ao3 x3 V3 hO3 hT3 _
 have e3 : Ext w9 V3 := e2.after hT3 (fun b hb e => by have := (HO2.out.lt _ e).1; omega)
 have hw3 : OneW V3 (.slice ao3 (0 + nx + ny) x3) (X ++ Y) := OneW.of_own (by rw [HXY.out, sndL_append]; simpa using hO3) HOK.out
 obtain ⟨zo, zc, hq, hzw, hzc⟩ := hw3
 simp only [Value.slice.injEq] at hq
 obtain ⟨rfl, hq2, rfl⟩ := hq
 rw [← hq2, Nat.zero_add, ← HZ1.out] at hzw
 have HZZ := Lib.hid hzw
 clear hzw hzc hO3 hT3 HO2 hq2
 go_wp2_with fail
 refine (same_self (HZW.out _ e3) HZZ.out).mono ?_
 rintro e w10 ⟨rfl, hN⟩
 have hE10 : Ext w w10 := hE9.trans (e3.trans hN)
 clear hN e3 e2
 go_wp2_with fail
 refine (HWO.out _ hE10).mono ?_
 rintro e w11 ⟨rfl, hN⟩
 have hN10 : Ext w10 w11 := hN
 have hE11 : Ext w w11 := hE10.trans hN
 clear hN
 have HEND := Lib.hid hE11
 clear hE10 hE11
 go_wp2
 go_ret
 exact ⟨rfl, HEND.out⟩
end Go.Proofs.YtedhogbocifipaaGreatDoor
