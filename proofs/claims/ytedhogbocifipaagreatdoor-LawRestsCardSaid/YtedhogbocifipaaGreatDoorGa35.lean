/- Rows of places and words as they grow in a loop. PLAIN: a law that is applied again and again. law.Settle (printed by genlsettle.py). ablautref08.right (printed by genrefrun.py). PLAIN: where the reference stands in ModeAll. -/
import Derived.Test.YtedhogbocifipaaGreatDoorGa17
import Derived.Test.YtedhogbocifipaaGreatDoorGa08
import Derived.Test.YtedhogbocifipaaGreatDoorGa20
import Derived.Test.YtedhogbocifipaaGreatDoorGa34
import Derived.Test.YtedhogbocifipaaGreatDoorGa30
import Derived.Test.YtedhogbocifipaaGreatDoorRefChk
set_option maxRecDepth 100000
set_option maxHeartbeats 16000000
namespace Go.Proofs.YtedhogbocifipaaGreatDoor
open Go.RowKit Go.Ab

/-- The words lie apart from the two rows. -/
def Apart (W : World) (u v x : Value) : Prop := KeptIn (fun g => g < W.heap.size ∧ u.ownBlock ≠ some g ∧ v.ownBlock ≠ some g) x
structure TrP (b : Nat) (W : World) (u v : Value) (vals : List Value) (tr : List (Nat × Wd)) : Prop where
 ou : W.ownsRow b 3 1 u tr.length (natV (tr.map (·.1)))
 ov : W.ownsRow b 28 1 v tr.length vals
 wd : WordsAt W vals (tr.map (·.2))
 wk : ∀ x ∈ vals, Apart W u v x
theorem TrP.nil (b : Nat) (W : World) : TrP b W (.slice none 0 0) (.slice none 0 0) [] [] := ⟨World.ownsRow_nil _ _ _ _, World.ownsRow_nil _ _ _ _, trivial, fun x hx => by cases hx⟩
theorem TrP.ext {b : Nat} {A B : World} {u v : Value} {vals : List Value} {tr : List (Nat × Wd)} (h : TrP b A u v vals tr) (ht : Ext A B) : TrP b B u v vals tr :=
 ⟨own_ext h.ou ht, own_ext h.ov ht, h.wd.ext ht, fun x hx => (h.wk x hx).mono fun _g hg => ⟨Nat.lt_of_lt_of_le hg.1 ht.size, hg.2⟩⟩
theorem TrP.out {b : Nat} {A : World} {u v : Value} {vals : List Value} {tr : List (Nat × Wd)} (h : TrP b A u v vals tr) : TrOut b A u v tr := ⟨h.ou, vals, h.ov, h.wd⟩
theorem Apart.ext {A B : World} {u v x : Value} (h : Apart A u v x) (ht : Ext A B) : Apart B u v x := h.mono fun _g hg => ⟨Nat.lt_of_lt_of_le hg.1 ht.size, hg.2⟩
theorem Apart.low {W : World} {b : Nat} {e1 e2 : TypeId} {s1 s2 n1 n2 : Nat} {u v x : Value} {x1 x2 : List Value} (hu : W.ownsRow b e1 s1 u n1 x1) (hv : W.ownsRow b e2 s2 v n2 x2) (hx : KeptIn (fun g => g < b ∧ g < W.heap.size) x) : Apart W u v x :=
 hx.mono fun g hg => ⟨hg.2, fun e => by have := (hu.lt g e).1; omega, fun e => by have := (hv.lt g e).1; omega⟩
/-- A row of one's own, of another type. -/
theorem Apart.own {W : World} {b b3 : Nat} {e1 e2 e3 : TypeId} {s1 s2 s3 n1 n2 n3 : Nat} {u v x : Value} {x1 x2 x3 : List Value} (hu : W.ownsRow b e1 s1 u n1 x1) (hv : W.ownsRow b e2 s2 v n2 x2) (hx : W.ownsRow b3 e3 s3 x n3 x3) (h1 : e1 ≠ e3) (h2 : e2 ≠ e3) : Apart W u v x := by
 intro g o n c e h0
 have hb : x.ownBlock = some g := by
  rcases hx.2 with ⟨q, _⟩ | ⟨g', c', cur, q, _⟩
  ·rw [q] at e; cases e
  ·rw [q] at e; cases e; rw [q]; rfl
 exact ⟨(hx.lt g hb).2, fun hu' => own_ne hu hx h1 g hu' hb, fun hv' => own_ne hv hx h2 g hv' hb⟩
/-- A place and a word more. -/
theorem TrP.push {b : Nat} {V W : World} {u v u' v' : Value} {vals : List Value} {tr : List (Nat × Wd)} (h : TrP b V u v vals tr) {i : Nat} {r : Wd} {x : Value} (hw : OneW V x r) (hk : Apart V u v x)
  (fu : W.ownsRow b 3 1 u' (tr.length + 1) (natV (tr.map (·.1)) ++ [.int .i64 (i : Int)])) (fv : W.ownsRow b 28 1 v' (tr.length + 1) (vals ++ [x]))
  (ht : Turn (fun b => u.ownBlock = some b ∨ v.ownBlock = some b) V W) (hu : u'.ownBlock = u.ownBlock ∨ ∃ k, V.heap.size ≤ k ∧ u'.ownBlock = some k) (hv : v'.ownBlock = v.ownBlock ∨ ∃ k, V.heap.size ≤ k ∧ v'.ownBlock = some k) :
  TrP b W u' v' (vals ++ [x]) (tr ++ [(i, r)]) ∧ OneW W x r ∧ Apart W u' v' x := by
 have off : ∀ {y y' : Value} (g : Nat), y.ownBlock ≠ some g → g < V.heap.size → (y'.ownBlock = y.ownBlock ∨ ∃ k, V.heap.size ≤ k ∧ y'.ownBlock = some k) → y'.ownBlock ≠ some g := fun g h1 h2 h3 => by
  rcases h3 with h3 | ⟨k, h3, h4⟩
  ·rw [h3]; exact h1
  ·rw [h4]; intro e; cases e; omega
 have all : ∀ y ∈ vals ++ [x], Apart V u v y := fun y hy => by
  rcases List.mem_append.1 hy with hy | hy
  ·exact h.wk y hy
  ·simp only [List.mem_singleton] at hy; subst hy; exact hk
 have keep : ∀ y, Apart V u v y → Apart W u' v' y := fun y hy => hy.mono fun g hg => ⟨Nat.lt_of_lt_of_le hg.1 ht.size, off g hg.2.1 hg.1 hu, off g hg.2.2 hg.1 hv⟩
 have htS : Turn (fun b => ¬ (b < V.heap.size ∧ u.ownBlock ≠ some b ∧ v.ownBlock ≠ some b)) V W := ht.mono fun b _ e hn => e.elim hn.2.1 hn.2.2
 refine ⟨⟨?_, ?_, ?_, fun y hy => keep y (all y hy)⟩, hw.keepS htS hk, keep x hk⟩
 ·rw [List.length_append, List.map_append]
  show W.ownsRow _ _ _ _ _ (natV (tr.map (·.1) ++ [i]))
  rw [natV_append]
  exact fu
 ·rw [List.length_append]; exact fv
 ·rw [List.map_append]
  exact (h.wd.snoc hw).keepS htS all
theorem TrP.push2 {b : Nat} {V W : World} {u v u' v' : Value} {vals : List Value} {tr : List (Nat × Wd)} (h : TrP b V u v vals tr) {i : Nat} {r : Wd} {x : Value} (hw : OneW W x r) (hk : Apart W u' v' x)
  (fu : W.ownsRow b 3 1 u' (tr.length + 1) (natV (tr.map (·.1)) ++ [.int .i64 (i : Int)])) (fv : W.ownsRow b 28 1 v' (tr.length + 1) (vals ++ [x]))
  (ht : Turn (fun b => u.ownBlock = some b ∨ v.ownBlock = some b) V W) (hu : u'.ownBlock = u.ownBlock ∨ ∃ k, V.heap.size ≤ k ∧ u'.ownBlock = some k) (hv : v'.ownBlock = v.ownBlock ∨ ∃ k, V.heap.size ≤ k ∧ v'.ownBlock = some k) :
  TrP b W u' v' (vals ++ [x]) (tr ++ [(i, r)]) := by
 have off : ∀ {y y' : Value} (g : Nat), y.ownBlock ≠ some g → g < V.heap.size → (y'.ownBlock = y.ownBlock ∨ ∃ k, V.heap.size ≤ k ∧ y'.ownBlock = some k) → y'.ownBlock ≠ some g := fun g h1 h2 h3 => by
  rcases h3 with h3 | ⟨k, h3, h4⟩
  ·rw [h3]; exact h1
  ·rw [h4]; intro e; cases e; omega
 have keep : ∀ y, Apart V u v y → Apart W u' v' y := fun y hy => hy.mono fun g hg => ⟨Nat.lt_of_lt_of_le hg.1 ht.size, off g hg.2.1 hg.1 hu, off g hg.2.2 hg.1 hv⟩
 have htS : Turn (fun b => ¬ (b < V.heap.size ∧ u.ownBlock ≠ some b ∧ v.ownBlock ≠ some b)) V W := ht.mono fun b _ e hn => e.elim hn.2.1 hn.2.2
 refine ⟨?_, ?_, ?_, fun y hy => ?_⟩
 ·rw [List.length_append, List.map_append]
  show W.ownsRow _ _ _ _ _ (natV (tr.map (·.1) ++ [i]))
  rw [natV_append]
  exact fu
 ·rw [List.length_append]; exact fv
 ·rw [List.map_append]
  exact (h.wd.keepS htS h.wk).snoc hw
 ·rcases List.mem_append.1 hy with hy | hy
  ·exact keep y (h.wk y hy)
  ·simp only [List.mem_singleton] at hy; subst hy; exact hk
end Go.Proofs.YtedhogbocifipaaGreatDoor

namespace Go.Proofs.YtedhogbocifipaaGreatDoor
open Go.RowKit Go.Ab

/-- At most f steps more; n: those that were taken; u: the word now. -/
def setR (l : LawD) : Nat → Nat → Wd → Wd × Nat × Int
 | 0, n, u => (u, n, 0)
 | f + 1, n, u => if trE l u = 0 then (if appL l u = u then (u, n, 0) else setR l f (n + 1) (appL l u)) else ([], 0, trE l u)
/-- What Settle returns. -/
def setV (l : LawD) (ws : Wd) (z : Int) : Wd × Nat × Int :=
 if lawW l ws = 0 then (if z < 0 ∨ 100 < z then ([], 0, 3) else setR l z.toNat 0 ws) else ([], 0, lawW l ws)
theorem setR_bad (l : LawD) : ∀ (f n : Nat) (u : Wd), (setR l f n u).2.2 ≠ 0 → (setR l f n u).1 = [] ∧ (setR l f n u).2.1 = 0
 | 0, n, u, h => absurd rfl h
 | f + 1, n, u, h => by
  unfold setR at h ⊢
  by_cases h1 : trE l u = 0
  ·rw [if_pos h1] at h ⊢
   by_cases h2 : appL l u = u
   ·rw [if_pos h2] at h; exact absurd rfl h
   ·rw [if_neg h2] at h ⊢
    exact setR_bad l f (n + 1) _ h
  ·rw [if_neg h1]; exact ⟨rfl, rfl⟩
theorem setR_good (l : LawD) : ∀ (f n : Nat) (u : Wd), (setR l f n u).2.2 = 0 → (setR l f n u).2.1 ≤ n + f ∧ ((setR l f n u).2.1 < n + f → trE l (setR l f n u).1 = 0 ∧ appL l (setR l f n u).1 = (setR l f n u).1)
 | 0, n, u, h => ⟨by simp [setR], fun h => by simp [setR] at h⟩
 | f + 1, n, u, h => by
  unfold setR at h ⊢
  by_cases h1 : trE l u = 0
  ·rw [if_pos h1] at h ⊢
   by_cases h2 : appL l u = u
   ·rw [if_pos h2]; exact ⟨by show n ≤ n + (f + 1); omega, fun _ => ⟨h1, h2⟩⟩
   ·rw [if_neg h2] at h ⊢
    have := setR_good l f (n + 1) _ h
    rw [show n + (f + 1) = n + 1 + f by omega]
    exact this
  ·rw [if_neg h1] at h; exact absurd h h1
theorem setV_bad {l : LawD} {ws : Wd} {z : Int} (h : (setV l ws z).2.2 ≠ 0) : (setV l ws z).1 = [] ∧ (setV l ws z).2.1 = 0 := by
 unfold setV at h ⊢
 split at h
 ·rename_i h0
  rw [if_pos h0]
  split at h
  ·rename_i h1; rw [if_pos h1]; exact ⟨rfl, rfl⟩
  ·rename_i h1; rw [if_neg h1]; exact setR_bad l _ _ _ h
 ·rename_i h0; rw [if_neg h0]; exact ⟨rfl, rfl⟩
theorem setV_good {l : LawD} {ws : Wd} {z : Int} (h : (setV l ws z).2.2 = 0) : ((setV l ws z).2.1 : Int) ≤ z ∧ (((setV l ws z).2.1 : Int) < z → trE l (setV l ws z).1 = 0 ∧ appL l (setV l ws z).1 = (setV l ws z).1) := by
 unfold setV at h ⊢
 split at h
 ·rename_i h0
  rw [if_pos h0]
  split at h
  ·exact absurd h (by decide)
  ·rename_i h1
   rw [if_neg h1]
   have := setR_good l z.toNat 0 ws h
   exact ⟨by omega, fun h3 => this.2 (by omega)⟩
 ·rename_i h0; exact absurd h h0
end Go.Proofs.YtedhogbocifipaaGreatDoor

namespace Go.Proofs.YtedhogbocifipaaGreatDoor
open Go.RowKit Go.Ab
attribute [local go_sem] Oper.semAt_some wide_fn wide_depth

theorem results_t3 {fn : Func} {t u v : Tmp} (h : fn.results = #[.tmp t, .tmp u, .tmp v]) (tmps : Array Value) (P : Program) (w : World) :
  (results fn tmps).run P w = .ok (.tuple #[tmps.getD t undef, tmps.getD u undef, tmps.getD v undef]) w := by
 simp [results, h]
theorem setV_parts (l : LawD) (ws : Wd) (z : Int) : setV l ws z = if lawW l ws = 0 then (if z < 0 ∨ 100 < z then ([], 0, 3) else setR l z.toNat 0 ws) else ([], 0, lawW l ws) := rfl
theorem setR_step (l : LawD) (f n : Nat) (u : Wd) : setR l (f + 1) n u = if trE l u = 0 then (if appL l u = u then (u, n, 0) else setR l f (n + 1) (appL l u)) else ([], 0, trE l u) := rfl

theorem lsettle_any {w : World} {l : LawD} {cs : List Value} {vo : Option Addr} {vc : Nat} {ws : Wd} (hl : LawAt w l cs) (hv : WordAt w (.slice vo ws.length vc) ws) (hT : Tab w) (z : Int) :
  Calls Tryz.prog 37 #[.agg cs.toArray, .slice vo ws.length vc, .int .i64 z] w fun e w' => ∃ u, e = .returned (.tuple #[u, .int .i64 ((setV l ws z).2.1 : Int), .int .i64 (setV l ws z).2.2]) ∧ OneW w' u (setV l ws z).1 ∧ Ext w w' := by
 have hck := fun (V : World) (hE : Ext w V) => lwcheck_any (hl.ext hE) (hv.ext hE) (hT.keep hE id)
 have hcl := fun (V : World) (hE : Ext w V) (hn : ws.length ≤ 32) => clone_snd (hv.ext hE) (Nat.le_trans hn (by decide))
 have hap := fun (V : World) (hE : Ext w V) (u : Wd) (ao : Option Addr) (c : Nat) (hu : WordAt V (.slice ao u.length c) u) (hc : u.length ≤ c) => lapply_any (hl.ext hE) hu hc (hT.keep hE id)
 have hok := hv.2
 have hsh : lawW l ws = 0 → ws.length ≤ 32 := fun h0 => wE_le (lawW_zero h0).2
 have hset := setV_parts l ws z
 obtain ⟨wn, hwn⟩ : ∃ n, ws.length = n := ⟨_, rfl⟩
 rw [hwn] at hck hcl hsh ⊢
 obtain ⟨nm, k1, p1, m1, n1, a1, b1, o1, N1, c1, k2, p2, m2, n2, a2, b2, o2, N2, c2, io, N3, ic, oo, N4, oc, md, rfl, HLA, HPL, HPR, HIF, HOU, HNM, HN1, HN2, HN3, HN4, HMD, q0, q1, q2, q3, q4⟩ := law_gen hl
 obtain ⟨R, hR⟩ : ∃ R, lawW l ws = R := ⟨_, rfl⟩
 obtain ⟨S, hS⟩ : ∃ R, setV l ws z = R := ⟨_, rfl⟩
 rw [hR] at hck hsh hset
 rw [hS] at hset ⊢
 have HCK := Lib.hid hck; have HCL := Lib.hid hcl; have HAP := Lib.hid hap; have HSH := Lib.hid hsh; have HOK := Lib.hid hok; have HSET := Lib.hid hset; have HWN := Lib.hid hwn
 clear hl hv hT hck hcl hap hsh hok hset hR hS hwn
 go_enter Tryz.func37, Tryz.ntmps37
 go_upto_region 1 with (fail)
 obtain ⟨w1, hw1⟩ : ∃ D, w.alloc (.cells #[.string nm, .int .i64 k1, .int .u32 (p1 : Int), .int .u32 (m1 : Int), .bool n1, .int .i64 a1, .int .i64 b1, .slice o1 N1 c1, .int .i64 k2, .int .u32 (p2 : Int), .int .u32 (m2 : Int), .bool n2, .int .i64 a2, .int .i64 b2, .slice o2 N2 c2, .slice io N3 ic, .slice oo N4 oc, .int .i64 md] 31) = D := ⟨_, rfl⟩
 have hE1 : Ext w w1 := by rw [← hw1]; exact (Turn.refl _ w).alloc _
 have hl1 : w1.heap[w.heap.size]? = some (.cells #[.string nm, .int .i64 k1, .int .u32 (p1 : Int), .int .u32 (m1 : Int), .bool n1, .int .i64 a1, .int .i64 b1, .slice o1 N1 c1, .int .i64 k2, .int .u32 (p2 : Int), .int .u32 (m2 : Int), .bool n2, .int .i64 a2, .int .i64 b2, .slice o2 N2 c2, .slice io N3 ic, .slice oo N4 oc, .int .i64 md] 31 (0, 0)) := by rw [← hw1]; exact new_at rfl
 rw [hw1]
 obtain ⟨B, hB⟩ : ∃ b, w.heap.size = b := ⟨_, rfl⟩
 rw [hB] at hl1 ⊢
 have HL1 := Lib.hid hl1; have HB := Lib.hid hB
 clear hw1 hl1 hB
 go_wp2_with (refine wpList_load_row rfl 31 (.tmp 3) rfl B rfl _ _ _ _ HL1.out Tryz.underlying31 rfl Tryz.lawInfo ?_)
 refine (HCK.out _ hE1).mono ?_
 rintro e w2 ⟨rfl, hN⟩
 have hE2 := hE1.trans hN
 have HL2 := Lib.hid (hN.keep HL1.out)
 clear hN hE1 HL1 HCK
 by_cases h0 : R = 0
 case neg =>
  have h9 : (R != 0) = true := by rw [bne_iff_ne]; exact h0
  have hs := HSET.out
  rw [if_neg h0] at hs
  subst hs
  go_wp2
  exact bodyPost_ret (results_t3 rfl _ _ _) rfl ⟨_, rfl, OneW.nil _, hE2⟩
 subst h0
 have hw32 := HSH.out rfl
 have HSET1 : Hid (S = if z < 0 ∨ 100 < z then ([], 0, 3) else setR l z.toNat 0 ws) := Lib.hid (by rw [HSET.out, if_pos rfl])
 clear HSET HSH
 by_cases hz0 : z < 0
 ·have hs := HSET1.out
  rw [if_pos (.inl hz0)] at hs
  subst hs
  go_wp2
  exact bodyPost_ret (results_t3 rfl _ _ _) rfl ⟨_, rfl, OneW.nil _, hE2⟩
 by_cases hz1 : 100 < z
 ·have hs := HSET1.out
  rw [if_pos (.inr hz1)] at hs
  subst hs
  go_wp2
  exact bodyPost_ret (results_t3 rfl _ _ _) rfl ⟨_, rfl, OneW.nil _, hE2⟩
 obtain ⟨M, rfl⟩ := Int.eq_ofNat_of_zero_le (show 0 ≤ z by omega)
 have HSET2 : Hid (S = setR l M 0 ws) := Lib.hid (by rw [HSET1.out, if_neg (by omega)]; rfl)
 have hM : M ≤ 100 := by omega
 have HC := Lib.hid (HCL.out w2 hE2 hw32)
 clear HSET1 HCL hz0 hz1
 have hz0 : ¬ ((M : Int) < 0) := by omega
 have hz1 : ¬ ((100 : Int) < (M : Int)) := by omega
 go_wp2_with fail
 refine HC.out.mono ?_
 rintro e w3 ⟨ao, cap, rfl, hO3, hN⟩
 have hE3 := hE2.trans hN
 have HL3 := Lib.hid (hN.keep HL2.out)
 have hW3 : WordAt w3 (.slice ao ws.length cap) ws := by
  have h3 := hO3
  rw [← HWN.out] at h3
  exact own_word h3 HOK.out
 have hc3 := (own_len hO3).1
 rw [← HWN.out] at hc3
 have HW3 := Lib.hid hW3
 rw [show wn = ws.length from HWN.out.symm] at *
 clear hO3 hN hE2 HL2 HC hz0 hz1 hW3
 go_wp2
 refine wp_loop (fun a W => ∃ (k : Nat) (u : Wd) (un : Nat) (ao : Option Addr) (c : Nat), k ≤ M ∧ a.defers = [] ∧ (a.tmps.size = 50 ∧ a.tmps.getD 2 undef = .int .i64 M ∧ a.tmps.getD 3 undef = .pointer (some ⟨B, 0, none⟩) ∧ a.tmps.getD 10 undef = .slice ao un c ∧ a.tmps.getD 28 undef = .int .i64 M ∧ a.tmps.getD 29 undef = .int .i64 k) ∧ u.length = un ∧ WordAt W (.slice ao un c) u ∧ un ≤ c ∧ setR l (M - k) k u = S ∧ Ext w3 W)
  (fun a _ => M - (intOf (a.tmps.getD 29 undef)).toNat) ?_ ?_
 ·exact ⟨0, ws, _, ao, cap, by omega, rfl, ⟨rfl, rfl, rfl, rfl, rfl, rfl⟩, rfl, HW3.out, hc3, by rw [HSET2.out]; rfl, Turn.refl _ _⟩
 clear HW3 HSET2 hc3 ao cap
 rintro ⟨t, _⟩ W ⟨k, xw, un, ao, c, hk, hds, ⟨hsz, f2, f3, f10, f28, f29⟩, hun, hw, hc, hset, hE⟩
 subst hds
 obtain ⟨u', hu⟩ := frame_fun hsz
 obtain ⟨u, rfl⟩ : ∃ x, x = u' := ⟨_, rfl⟩
 have hu' : t = #[u 0, u 1, u 2, u 3, u 4, u 5, u 6, u 7, u 8, u 9, u 10, u 11, u 12, u 13, u 14, u 15, u 16, u 17, u 18, u 19, u 20, u 21, u 22, u 23, u 24, u 25, u 26, u 27, u 28, u 29, u 30, u 31, u 32, u 33, u 34, u 35, u 36, u 37, u 38, u 39, u 40, u 41, u 42, u 43, u 44, u 45, u 46, u 47, u 48, u 49] := hu
 clear hu
 subst hu'
 change u 2 = _ at f2
 change u 3 = _ at f3
 change u 10 = _ at f10
 change u 28 = _ at f28
 change u 29 = _ at f29
 rw [f2, f3, f10, f28, f29]
 clear f2 f3 f10 f28 f29 hsz
 have hLW := hE.keep HL3.out
 have hE4 := hE3.trans hE
 have HLW := Lib.hid hLW; have HSET := Lib.hid hset; have HUN := Lib.hid hun; have HW := Lib.hid hw
 clear hLW hset hun hw
 by_cases hkM : k < M
 case neg =>
  obtain rfl : k = M := by omega
  have h1 : ¬ ((k : Int) < (k : Int)) := by omega
  have hs := HSET.out
  rw [Nat.sub_self] at hs
  have hs : (xw, k, (0 : Int)) = S := hs
  subst hs
  have HONE : Hid (OneW W (.slice ao un c) xw) := Lib.hid (by subst un; exact ⟨ao, c, rfl, HW.out, hc⟩) 
  clear HW HSET HUN
  go_wp2
  exact bodyPost_ret (results_t3 rfl _ _ _) rfl ⟨_, rfl, HONE.out, hE4⟩
 have h1 : (k : Int) < (M : Int) := by omega
 have hstep := setR_step l (M - (k + 1)) k xw
 rw [show M - (k + 1) + 1 = M - k by omega, HSET.out] at hstep
 have hac := HAP.out W hE4 xw ao c (by rw [HUN.out]; exact HW.out) (by rw [HUN.out]; exact hc)
 rw [HUN.out] at hac
 obtain ⟨E, hEE⟩ : ∃ R, trE l xw = R := ⟨_, rfl⟩
 obtain ⟨A, hA⟩ : ∃ R, appL l xw = R := ⟨_, rfl⟩
 rw [hEE, hA] at hstep hac
 have HST := Lib.hid hstep; have HAC := Lib.hid hac
 clear hstep hac hEE hA HSET
 go_wp2_with (refine wpList_load_row rfl 31 (.tmp 3) rfl B rfl _ _ _ _ HLW.out Tryz.underlying31 rfl Tryz.lawInfo ?_)
 refine HAC.out.mono ?_
 rintro e w4 ⟨u4, rfl, ⟨bo, bc, rfl, hw4, hbc⟩, hN⟩
 have hE5 := hE4.trans hN
 have hE35 := hE.trans hN
 have HLW4 := Lib.hid (hN.keep HLW.out)
 have HW4 := Lib.hid hw4
 have heq := eqW hw4 (HW.out.ext hN)
 have HONE : Hid (OneW w4 (.slice ao un c) xw) := Lib.hid (by rw [← HUN.out] at hc ⊢; exact ⟨ao, c, rfl, by rw [HUN.out]; exact HW.out.ext hN, hc⟩)
 obtain ⟨an, han⟩ : ∃ n, A.length = n := ⟨_, rfl⟩
 rw [han] at heq hbc HW4 ⊢
 obtain ⟨q, hq⟩ : ∃ q, decide (A = xw) = q := ⟨_, rfl⟩
 rw [hq] at heq
 have HEQ := Lib.hid heq; have HAN := Lib.hid han; have HQ := Lib.hid hq
 clear hN hw4 heq han hq hE4 HAC HLW HW
 by_cases h0 : E = 0
 case neg =>
  have h9 : (E != 0) = true := by rw [bne_iff_ne]; exact h0
  have hs := HST.out
  rw [if_neg h0] at hs
  subst hs
  go_wp2
  exact bodyPost_ret (results_t3 rfl _ _ _) rfl ⟨_, rfl, OneW.nil _, hE5⟩
 subst h0
 go_wp2_with fail
 refine HEQ.out.mono ?_
 rintro e w5 ⟨rfl, hN⟩
 have hE6 := hE5.trans hN
 have hE36 := hE35.trans hN
 cases q
 ·have hs := HST.out
  rw [if_pos (by first | rfl | trivial), if_neg (of_decide_eq_false HQ.out)] at hs
  have HS := Lib.hid hs
  have HW5 := Lib.hid (HW4.out.ext hN)
  clear hs hN HEQ HST HQ
  go_wp2
  exact ⟨⟨k + 1, A, an, bo, bc, by omega, by first | rfl | trivial, ⟨rfl, rfl, rfl, rfl, rfl, rfl⟩, HAN.out, HW5.out, hbc, HS.out.symm, hE36⟩, by simp [intOf]; omega⟩
 ·have hs := HST.out
  rw [if_pos (by first | rfl | trivial), if_pos (of_decide_eq_true HQ.out)] at hs
  subst hs
  have HO5 : Hid (OneW w5 (.slice ao un c) xw) := Lib.hid (HONE.out.ext hN)
  clear hN HEQ HST HQ
  go_wp2
  exact bodyPost_ret (results_t3 rfl _ _ _) rfl ⟨_, rfl, HO5.out, hE6⟩


/-- What Trace returns, by the trace. -/
def runE (t : List (Nat × Wd)) : Int := if longT t = true then 11 else 0
def runT (t : List (Nat × Wd)) : List (Nat × Wd) := if longT t = true then [] else t
theorem run_end {tr : List (Nat × Wd)} (h : longT tr = false) : runE tr = 0 ∧ runT tr = tr := by unfold runE runT; rw [h]; exact ⟨rfl, rfl⟩
theorem run_long {t tr rest : List (Nat × Wd)} {x : Nat × Wd} (h : t = tr ++ x :: rest) (hx : 32 < x.2.length) : runE t = 11 ∧ runT t = [] := by
 have : longT t = true := by
  rw [h]; unfold longT
  rw [List.any_append, List.any_cons, decide_eq_true hx]; simp
 unfold runE runT; rw [this]; exact ⟨rfl, rfl⟩
theorem longT_snoc {tr : List (Nat × Wd)} {x : Nat × Wd} (h : longT tr = false) (hx : x.2.length ≤ 32) : longT (tr ++ [x]) = false := by
 unfold longT at h ⊢
 rw [List.any_append, h]; simp; omega
theorem Tryz.infoW2 : (Tryz.prog.info? 28).map (fun i => (i.zero, i.size, i.bytes)) = some (some (.slice none 0 0), 1, 24) := by kernel_rfl
theorem fits_in {w : World} {vo : Option Addr} {vc : Nat} {ws : Wd} (hv : WordAt w (.slice vo ws.length vc) ws) : KeptIn (fun g => g < w.heap.size) (.slice vo ws.length vc) := fun g o n c e h0 => by
 obtain ⟨_, _, ao, cap, q, h3⟩ := hv.1
 rw [q] at e
 cases e
 cases q
 obtain ⟨g', o', q1, q2, _⟩ := h3 h0
 cases q1; exact q2

/-- The length of a slice. -/
def lenS (v : Value) : Nat := match v with | .slice _ n _ => n | _ => 0

theorem rright_any {w : World} {l : LawD} {cs : List Value} {vo : Option Addr} {vc : Nat} {ws : Wd} (hl : LawAt w l cs) (hv : WordAt w (.slice vo ws.length vc) ws) (hcap : ws.length ≤ vc) (hlaw : lawB l = true) (hmode : l.mode = 2) (hwl : ws.length ≤ 32) :
  Calls Tryz.prog 62 #[.agg cs.toArray, .slice vo ws.length vc] w fun e w' => ∃ u v, e = .returned (.tuple #[u, v, .int .i64 (runE (traceL l ws))]) ∧ TrOut w.heap.size w' u v (runT (traceL l ws)) ∧ Ext w w' := by
 obtain ⟨hk4, hm6, hkm, _, hfits, _, _, _⟩ := lawB_parts hlaw
 have hhit := fun (V : World) (hE : Ext w V) (cur : Wd) (ao : Option Addr) (un c : Nat) (hu : cur.length = un) (hc : WordAt V (.slice ao un c) cur) (h32 : un ≤ 32) (i : Nat) (hi : i ≤ un) => rhit_any (hl.ext hE) hc hu i (by omega) (by omega)
 have hrep := fun (V : World) (hE : Ext w V) (cur : Wd) (ao : Option Addr) (un c : Nat) (hu : cur.length = un) (hc : WordAt V (.slice ao un c) cur) (hcap : un ≤ c) (h32 : un ≤ 32) (i : Nat) (hi : hitL l cur i = true) => rreplace_any (hl.ext hE) hc hu hcap i (by rw [← hu]; exact hit_le hi) hfits (by omega) (by omega)
 have hin := fits_in hv
 have hok : ∀ (cur : Wd) (i : Nat), WdOk cur → WdOk (replL l cur i) := fun cur i hc => by
  obtain ⟨_, _, _, _, _, _, _, _, _, ho⟩ := hl
  unfold replL repl
  intro s hs
  rw [List.mem_append, List.mem_append] at hs
  rcases hs with (hs | hs) | hs
  ·exact hc s (List.mem_of_mem_take hs)
  ·exact putL_ok (fun s hs => hc s (List.mem_of_mem_drop (List.mem_of_mem_take hs))) ho.2 s hs
  ·exact hc s (List.mem_of_mem_drop hs)
 obtain ⟨nm, k1, p1, m1, n1, a1, b1, o1, N1, c1, k2, p2, m2, n2, a2, b2, o2, N2, c2, io, N3, ic, oo, N4, oc, md, rfl, HLA, HPL, HPR, HIF, HOU, HNM, HN1, HN2, HN3, HN4, HMD, q0, q1, q2, q3, q4⟩ := law_gen hl
 obtain ⟨T, hT⟩ : ∃ R, traceL l ws = R := ⟨_, rfl⟩
 rw [hT]
 have hst : RightAt l ws [] ws 0 := RightAt.start hmode
 rw [HN3.out] at hk4 hkm
 rw [HN4.out] at hm6 hkm
 obtain ⟨wn, hwn⟩ : ∃ n, ws.length = n := ⟨_, rfl⟩
 rw [hwn] at hv hcap hin hwl ⊢
 have hwn32 := hwl
 have HHIT := Lib.hid hhit; have HREP := Lib.hid hrep; have HIN := Lib.hid hin; have HOK := Lib.hid hok; have HT := Lib.hid hT; have HST := Lib.hid hst; have HV := Lib.hid hv; have HWN := Lib.hid hwn
 clear hl hv hhit hrep hin hok hT hst hfits hlaw hmode HIF HOU HPL HPR HLA hwn
 go_enter Tryz.func62, Tryz.ntmps62
 go_upto_region 1 with (fail)
 obtain ⟨w1, hw1⟩ : ∃ D, w.alloc (.cells #[.string nm, .int .i64 k1, .int .u32 (p1 : Int), .int .u32 (m1 : Int), .bool n1, .int .i64 a1, .int .i64 b1, .slice o1 N1 c1, .int .i64 k2, .int .u32 (p2 : Int), .int .u32 (m2 : Int), .bool n2, .int .i64 a2, .int .i64 b2, .slice o2 N2 c2, .slice io N3 ic, .slice oo N4 oc, .int .i64 md] 31) = D := ⟨_, rfl⟩
 have hE1 : Ext w w1 := by rw [← hw1]; exact (Turn.refl _ w).alloc _
 have hl1 : w1.heap[w.heap.size]? = some (.cells #[.string nm, .int .i64 k1, .int .u32 (p1 : Int), .int .u32 (m1 : Int), .bool n1, .int .i64 a1, .int .i64 b1, .slice o1 N1 c1, .int .i64 k2, .int .u32 (p2 : Int), .int .u32 (m2 : Int), .bool n2, .int .i64 a2, .int .i64 b2, .slice o2 N2 c2, .slice io N3 ic, .slice oo N4 oc, .int .i64 md] 31 (0, 0)) := by rw [← hw1]; exact new_at rfl
 have hs1 : w1.heap.size = w.heap.size + 1 := by rw [← hw1]; simp
 rw [hw1]
 obtain ⟨B, hB⟩ : ∃ b, w.heap.size = b := ⟨_, rfl⟩
 rw [hB] at hl1 hs1 ⊢
 have HL1 := Lib.hid hl1; have HB := Lib.hid hB; have HS1 := Lib.hid hs1
 have hV1 := HV.out.ext hE1
 have HV1 := Lib.hid hV1
 have cK := cell_of_row _ _ 15 _ _ _ hl1
 clear hw1 hB hl1 hs1 hV1 HV
 go_wp2
 refine wp_loop (fun a W => ∃ (i : Nat) (tr : List (Nat × Wd)) (cur : Wd) (un : Nat) (ao : Option Addr) (c : Nat) (tn : Nat) (po qo : Option Addr) (pc qc : Nat) (vals : List Value), a.defers = [] ∧ (a.tmps.size = 53 ∧ a.tmps.getD 1 undef = .slice ao un c ∧ a.tmps.getD 2 undef = .pointer (some ⟨B, 0, none⟩) ∧ a.tmps.getD 7 undef = .slice po tn pc ∧ a.tmps.getD 8 undef = .slice qo tn qc ∧ a.tmps.getD 9 undef = .int .i64 N3 ∧ a.tmps.getD 10 undef = .int .i64 i) ∧
   (RightAt l ws tr cur i) ∧ longT tr = false ∧ cur.length = un ∧ un ≤ 32 ∧ tr.length = tn ∧ WordAt W (.slice ao un c) cur ∧ un ≤ c ∧ Apart W (.slice po tn pc) (.slice qo tn qc) (.slice ao un c) ∧ TrP (B + 1) W (.slice po tn pc) (.slice qo tn qc) vals tr ∧ Ext w1 W)
  (fun a _ => lenS (a.tmps.getD 1 undef) + 2 - (intOf (a.tmps.getD 10 undef)).toNat) ?_ ?_
 ·exact ⟨0, [], ws, wn, vo, vc, 0, none, none, 0, 0, [], rfl, ⟨rfl, rfl, rfl, rfl, rfl, rfl, rfl⟩, HST.out, rfl, HWN.out, hwl, rfl, HV1.out, hcap, HIN.out.mono fun g hg => ⟨by have := HS1.out; have := HB.out; omega, (fun e => by cases e), (fun e => by cases e)⟩, TrP.nil _ _, Turn.refl _ _⟩
 clear HST HV1 HIN cK hcap hwl
 rintro ⟨t, _⟩ V ⟨i, tr, cur, un, ao, c, tn, po, qo, pc, qc, vals, hds, ⟨hsz, f1, f2, f7, f8, f9, f10⟩, hat, hlong, hun, h32, htn, hw, hc, hap, hP, hE⟩
 subst hds
 obtain ⟨u', hu⟩ := frame_fun hsz
 obtain ⟨u, rfl⟩ : ∃ x, x = u' := ⟨_, rfl⟩
 have hu' : t = #[u 0, u 1, u 2, u 3, u 4, u 5, u 6, u 7, u 8, u 9, u 10, u 11, u 12, u 13, u 14, u 15, u 16, u 17, u 18, u 19, u 20, u 21, u 22, u 23, u 24, u 25, u 26, u 27, u 28, u 29, u 30, u 31, u 32, u 33, u 34, u 35, u 36, u 37, u 38, u 39, u 40, u 41, u 42, u 43, u 44, u 45, u 46, u 47, u 48, u 49, u 50, u 51, u 52] := hu
 clear hu
 subst hu'
 change u 1 = _ at f1
 change u 2 = _ at f2
 change u 7 = _ at f7
 change u 8 = _ at f8
 change u 9 = _ at f9
 change u 10 = _ at f10
 rw [f1, f2, f7, f8, f9, f10]
 clear f1 f2 f7 f8 f9 f10 hsz
 have HLV := Lib.hid (hE.keep HL1.out)
 have hE2 := hE1.trans hE
 have hcnt : tn ≤ 33 := by obtain ⟨_, h2, _, _⟩ := hat; have := HWN.out; have := hwn32; omega
 have hi33 : i ≤ 33 := by obtain ⟨_, _, _, h4⟩ := hat; omega
 have HAT := Lib.hid hat; have HLG := Lib.hid hlong; have HUN := Lib.hid hun; have HTN := Lib.hid htn; have HW := Lib.hid hw; have HAP := Lib.hid hap; have HP := Lib.hid hP
 clear hat hlong hun htn hw hap hP
 by_cases hend : i + N3 ≤ un
 case neg =>
  have h1 : ¬ ((i : Int) + (N3 : Int) ≤ (un : Int)) := by omega
  have hd := HAT.out.done (by rw [HUN.out, HN3.out]; omega)
  rw [HT.out] at hd
  subst hd
  obtain ⟨g1, g2⟩ := run_end HLG.out
  have hO := HP.out.out
  rw [← g2] at hO
  have G1 := Lib.hid g1; have HO := Lib.hid hO
  clear g1 g2 hO hend
  go_wp2
  exact bodyPost_ret (results_t3 rfl _ _ _) rfl ⟨_, _, by rw [G1.out]; rfl, HO.out.base (by have := HB.out; omega), hE2⟩
 have h1 : (i : Int) + (N3 : Int) ≤ (un : Int) := by omega
 have hhc := HHIT.out V hE2 cur ao un c HUN.out HW.out h32 i (by omega)
 obtain ⟨q, hq⟩ : ∃ q, hitL l cur i = q := ⟨_, rfl⟩
 rw [hq] at hhc
 have HHC := Lib.hid hhc; have HQ := Lib.hid hq
 clear hhc hq
 go_wp2_with (refine wpList_load_row rfl 31 (.tmp 2) rfl B rfl _ _ _ _ HLV.out Tryz.underlying31 rfl Tryz.lawInfo ?_)
 refine HHC.out.mono ?_
 rintro e W ⟨rfl, hN⟩
 have hE3 := hE2.trans hN
 have hE13 := hE.trans hN
 have HLW := Lib.hid (hN.keep HLV.out)
 have HW3 := Lib.hid (HW.out.ext hN); have HAP3 := Lib.hid (HAP.out.ext hN); have HP3 := Lib.hid (HP.out.ext hN)
 clear hN HLV HW HAP HP HHC
 cases q
 ·have hm := HAT.out.miss (by rw [HUN.out, HN3.out]; exact hend) HQ.out
  have HM := Lib.hid hm
  clear hm HAT
  go_wp2
  exact ⟨⟨i + 1, tr, cur, un, ao, c, tn, po, qo, pc, qc, vals, by first | rfl | trivial, ⟨rfl, rfl, rfl, rfl, rfl, rfl, rfl⟩, HM.out, HLG.out, HUN.out, h32, HTN.out, HW3.out, hc, HAP3.out, HP3.out, hE13⟩, by simp [intOf, lenS]; omega⟩
 obtain ⟨hnext, rest, hspl⟩ := HAT.out.hit HQ.out
 have hrl := replL_length (hit_le HQ.out)
 have hrc := HREP.out W hE3 cur ao un c HUN.out HW3.out hc h32 i HQ.out
 have hrok := HOK.out cur i HW3.out.2
 rw [HUN.out, HN3.out, HN4.out] at hrl
 rw [HN3.out, HN4.out] at hnext
 obtain ⟨r, hr⟩ : ∃ r, replL l cur i = r := ⟨_, rfl⟩
 rw [hr] at hnext hspl hrl hrc hrok
 obtain ⟨rn, hrn⟩ : ∃ n, r.length = n := ⟨_, rfl⟩
 rw [hrn] at hrl hrc
 rw [HT.out] at hspl
 have HNX := Lib.hid hnext; have HSPL := Lib.hid hspl; have HRC := Lib.hid hrc; have HROK := Lib.hid hrok; have HRN := Lib.hid hrn
 clear hnext hspl hrc hrok hr hrn HAT
 go_wp2_with (refine wpList_load_row rfl 31 (.tmp 2) rfl B rfl _ _ _ _ HLW.out Tryz.underlying31 rfl Tryz.lawInfo ?_)
 refine HRC.out.mono ?_
 rintro e W2 ⟨x, rfl, hO, hN⟩
 have hE4 := hE3.trans hN
 have hE14 := hE13.trans hN
 have HLW2 := Lib.hid (hN.keep HLW.out)
 have HP4 := Lib.hid (HP3.out.ext hN)
 obtain ⟨ro, rc, rfl⟩ := own_slice hO
 have hrcap := (own_len hO).1
 have hone : OneW W2 (.slice ro rn rc) r := by
  have h3 := hO
  rw [← HRN.out] at h3 ⊢
  exact OneW.own h3 HROK.out
 have hap2 : Apart W2 (.slice po tn pc) (.slice qo tn qc) (.slice ro rn rc) := Apart.own HP4.out.ou HP4.out.ov hO (by decide) (by decide)
 have HONE := Lib.hid hone; have HAP2 := Lib.hid hap2
 clear hone hap2 hO hN HLW HP3 HAP3 HW3 HRC hE3 hE13
 by_cases h33 : 32 < rn
 ·have h1 : (32 : Int) < (rn : Int) := by omega
  obtain ⟨g1, g2⟩ := run_long HSPL.out (show 32 < r.length by rw [HRN.out]; exact h33)
  have G1 := Lib.hid g1; have G2 := Lib.hid g2
  clear g1 g2
  go_wp2
  exact bodyPost_ret (results_t3 rfl _ _ _) rfl ⟨_, _, by rw [G1.out]; rfl, by rw [G2.out]; exact TrOut.nil _ _, hE4⟩
 have h1' : ¬ ((32 : Int) < (rn : Int)) := by omega
 have hlg := longT_snoc HLG.out (x := (i, r)) (by show r.length ≤ 32; rw [HRN.out]; omega)
 have HLG2 := Lib.hid hlg
 have hou := HP4.out.ou
 have hov := HP4.out.ov
 rw [HTN.out] at hou hov
 have HOU := Lib.hid hou; have HOV := Lib.hid hov
 have hz2' : B + 1 ≤ W2.heap.size := by have := hE14.size; have := HS1.out; omega
 clear hlg hou hov HLG HSPL
 go_wp2_with (at_builtin; refine append_row rfl (.tmp 34) (.tmp 36) 38 rfl (B + 1) 3 _ 1 8 Tryz.underlying38 Tryz.infoI rfl (by decide) _ _ _ rfl (own_ext HOU.out ((Turn.refl _ W2).alloc _)) ⟨W2.heap.size, 0, none⟩ 1 1 [.int .i64 i] rfl rfl (new_cells' rfl) ?c2 ?c3 ?c4 ?c5 ?_)
 case c2 => first | rfl | (intro u hu; simp at hu; rcases hu with rfl; rfl)
 case c3 => unfold maxLen; omega
 case c4 => omega
 case c5 => first | omega | (simp; omega)
 intro ao1 x1 W3 hU1 hT1 hB1
 have t3 : Turn (fun b => (Value.slice po tn pc).ownBlock = some b) W2 W3 := Turn.trans ((Turn.refl _ W2).alloc _) hT1
 have hv3 := own_keep HOV.out t3 (fun g hg e => own_ne HOU.out HOV.out (by decide) g e hg)
 have hbu : (Value.slice ao1 (tn + 1) x1).ownBlock = (Value.slice po tn pc).ownBlock ∨ ∃ k, W2.heap.size ≤ k ∧ (Value.slice ao1 (tn + 1) x1).ownBlock = some k := hB1.imp id fun e => ⟨_, by first | omega | simp | (simp; omega), e⟩
 have HU1 := Lib.hid hU1; have HV3 := Lib.hid hv3; have HT3 := Lib.hid t3; have HBU := Lib.hid hbu
 have hz3 := t3.size
 clear hU1 hT1 hB1 t3 hv3 hbu
 go_wp2_with (at_builtin; refine append_row rfl (.tmp 38) (.tmp 40) 43 rfl (B + 1) 28 _ 1 24 Tryz.underlying43 Tryz.infoW2 rfl (by decide) _ _ _ rfl (own_ext HV3.out ((Turn.refl _ W3).alloc _)) ⟨W3.heap.size, 0, none⟩ 1 1 [.slice ro rn rc] rfl rfl (new_cells' rfl) ?d2 ?d3 ?d4 ?d5 ?_)
 case d2 => first | rfl | (intro u hu; simp at hu; rcases hu with rfl; rfl)
 case d3 => unfold maxLen; omega
 case d4 => omega
 case d5 => first | omega | (simp; omega)
 intro ao2 x2 W4 hU2 hT2 hB2
 have t4 : Turn (fun b => (Value.slice qo tn qc).ownBlock = some b) W3 W4 := Turn.trans ((Turn.refl _ W3).alloc _) hT2
 have t24 : Turn (fun b => (Value.slice po tn pc).ownBlock = some b ∨ (Value.slice qo tn qc).ownBlock = some b) W2 W4 := (HT3.out.mono fun b _ e => .inl e).trans (t4.mono fun b _ e => .inr e)
 have hbv : (Value.slice ao2 (tn + 1) x2).ownBlock = (Value.slice qo tn qc).ownBlock ∨ ∃ k, W2.heap.size ≤ k ∧ (Value.slice ao2 (tn + 1) x2).ownBlock = some k := hB2.imp id fun e => ⟨_, by first | omega | (simp; omega), e⟩
 have hu4 := own_keep HU1.out t4 (fun g hg e => own_ne HU1.out HV3.out (by decide) g hg e)
 obtain ⟨hP5, hone5, hap5⟩ := HP4.out.push (i := i) HONE.out HAP2.out (by rw [HTN.out]; exact hu4) (by rw [HTN.out]; exact hU2) t24 HBU.out hbv
 have hlow : ∀ b, b < B + 1 → ¬ ((Value.slice po tn pc).ownBlock = some b ∨ (Value.slice qo tn qc).ownBlock = some b) := fun b hb e => by
  rcases e with e | e
  ·have := (HOU.out.lt _ e).1; omega
  ·have := (HOV.out.lt _ e).1; omega
 have hE15 : Ext w1 W4 := hE14.after t24 (fun b hb e => hlow b (by have := HS1.out; omega) e)
 have hl5 := t24.heap HLW2.out (hlow B (by omega))
 have c16 := cell_of_row _ _ 16 _ _ _ hl5
 obtain ⟨ao5, c5, hq5, hw5, hc5⟩ := hone5
 rw [HRN.out] at hq5 hw5 hc5
 cases hq5
 have HP5 := Lib.hid hP5; have HW5 := Lib.hid hw5; have HAP5 := Lib.hid hap5; have HTN5 : Hid ((tr ++ [(i, r)]).length = tn + 1) := Lib.hid (by rw [List.length_append, HTN.out]; rfl)
 clear hP5 hw5 hap5 hl5 hU2 hT2 hB2 t4 t24 hbv hu4 hlow HU1 HV3 HT3 HBU HP4 HAP2 HONE HOU HOV hE14 hE4
 by_cases hk0 : N3 = 0
 ·have hn5 := HNX.out
  rw [if_pos hk0] at hn5
  have HN5 := Lib.hid hn5
  have hk9 : ((N3 : Int) == 0) = true := by simp; omega
  have HK0 := Lib.hid hk0
  clear hn5 hk0
  go_wp2
  exact ⟨⟨i + N4 + 1, tr ++ [(i, r)], r, rn, ro, rc, tn + 1, ao1, ao2, x1, x2, _, by first | rfl | trivial, ⟨rfl, rfl, rfl, rfl, rfl, rfl, by first | rfl | (simp; done) | (push_cast; rfl)⟩, HN5.out, HLG2.out, HRN.out, by omega, HTN5.out, HW5.out, hc5, HAP5.out, HP5.out, hE15⟩, by have := HK0.out; simp [intOf, lenS]; omega⟩
 ·have hn5 := HNX.out
  rw [if_neg hk0, Nat.add_zero] at hn5
  have HN5 := Lib.hid hn5
  have hk9 : ((N3 : Int) == 0) = false := by simp; omega
  have HK0 := Lib.hid hk0
  clear hn5 hk0
  go_wp2
  exact ⟨⟨i + N4, tr ++ [(i, r)], r, rn, ro, rc, tn + 1, ao1, ao2, x1, x2, _, by first | rfl | trivial, ⟨rfl, rfl, rfl, rfl, rfl, rfl, by first | rfl | (simp; done) | (push_cast; rfl)⟩, HN5.out, HLG2.out, HRN.out, by omega, HTN5.out, HW5.out, hc5, HAP5.out, HP5.out, hE15⟩, by have := HK0.out; simp [intOf, lenS]; omega⟩
end Go.Proofs.YtedhogbocifipaaGreatDoor

namespace Go.Proofs.YtedhogbocifipaaGreatDoor
open Go.RowKit Go.Ab

def AllR (l : LawD) (ws : Wd) (tr : List (Nat × Wd)) (d : Wd) (i : Nat) : Prop :=
 (∃ n, ws.length + 1 - i ≤ n ∧ traceL l ws = tr ++ allT (hitL l) (putL l) l.ifs.length ws n i d) ∧ (i ≤ ws.length → d.length + tr.length * l.ifs.length = i + tr.length * l.outs.length) ∧ tr.length + (ws.length + 1 - i) ≤ ws.length + 1 ∧ i ≤ ws.length + 1
theorem AllR.start {l : LawD} {ws : Wd} (h : l.mode = 1) : AllR l ws [] [] 0 :=
 ⟨⟨ws.length + 1, by omega, by unfold traceL; rw [if_pos h]; rfl⟩, fun _ => by simp, by simp, by omega⟩
theorem AllR.miss {l : LawD} {ws : Wd} {tr : List (Nat × Wd)} {d : Wd} {i : Nat} (h : AllR l ws tr d i) (hi : i ≤ ws.length) (hh : hitL l ws i = false) : AllR l ws tr (d ++ (ws.drop i).take 1) (i + 1) := by
 obtain ⟨⟨n, hn, ht⟩, h2, h3, h4⟩ := h
 obtain ⟨n', rfl⟩ : ∃ n', n = n' + 1 := ⟨n - 1, by omega⟩
 unfold allT at ht
 rw [if_neg (by rw [hh]; decide)] at ht
 refine ⟨⟨n', by omega, ht⟩, fun h5 => ?_, by omega, by omega⟩
 have := h2 hi
 rw [List.length_append, List.length_take, List.length_drop]; omega
/-- What has become of the beginning, and the word. -/
def allD (l : LawD) (ws d : Wd) (i : Nat) : Wd := d ++ putL l ((ws.drop i).take l.ifs.length)
def allNowW (l : LawD) (ws d : Wd) (i : Nat) : Wd := allD l ws d i ++ ws.drop (i + l.ifs.length)
theorem AllR.hit {l : LawD} {ws : Wd} {tr : List (Nat × Wd)} {d : Wd} {i : Nat} (h : AllR l ws tr d i) (hh : hitL l ws i = true) :
  (l.ifs.length = 0 → AllR l ws (tr ++ [(i, allNowW l ws d i)]) (allD l ws d i ++ (ws.drop i).take 1) (i + 1)) ∧ (l.ifs.length ≠ 0 → AllR l ws (tr ++ [(i, allNowW l ws d i)]) (allD l ws d i) (i + l.ifs.length)) ∧
  (∃ rest, traceL l ws = tr ++ (i, allNowW l ws d i) :: rest) ∧ d.length + tr.length * l.ifs.length = i + tr.length * l.outs.length ∧ i + l.ifs.length ≤ ws.length := by
 have hi := hit_le hh
 obtain ⟨⟨n, hn, ht⟩, h2, h3, h4⟩ := h
 obtain ⟨n', rfl⟩ : ∃ n', n = n' + 1 := ⟨n - 1, by omega⟩
 have hd := h2 (by omega)
 unfold allT at ht
 rw [if_pos hh] at ht
 refine ⟨fun hk => ?_, fun hk => ?_, ⟨_, ht⟩, hd, hi⟩
 ·rw [if_pos hk] at ht
  refine ⟨⟨n', by omega, by rw [ht]; simp [allNowW, allD]⟩, fun h5 => ?_, by rw [List.length_append, List.length_singleton]; omega, by omega⟩
  unfold allD
  rw [List.length_append, List.length_append, putL_length, List.length_append, List.length_singleton, List.length_take, List.length_drop, Nat.add_mul, Nat.add_mul, hk]
  rw [hk] at hd
  omega
 ·rw [if_neg hk] at ht
  refine ⟨⟨n', by omega, by rw [ht]; simp [allNowW, allD]⟩, fun h5 => ?_, by rw [List.length_append, List.length_singleton]; omega, by omega⟩
  unfold allD
  rw [List.length_append, putL_length, List.length_append, List.length_singleton, Nat.add_mul, Nat.add_mul]
  omega
theorem AllR.done {l : LawD} {ws : Wd} {tr : List (Nat × Wd)} {d : Wd} {i : Nat} (h : AllR l ws tr d i) (hi : ws.length < i) : traceL l ws = tr := by
 obtain ⟨⟨n, hn, ht⟩, _⟩ := h
 rw [ht, allT_none, List.append_nil]
 intro j hj
 cases hh : hitL l ws j with
 | false => rfl
 | true => have := hit_le hh; omega
end Go.Proofs.YtedhogbocifipaaGreatDoor
