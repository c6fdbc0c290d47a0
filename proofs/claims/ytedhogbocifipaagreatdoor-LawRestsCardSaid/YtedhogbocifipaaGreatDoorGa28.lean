/- ablautref06: same, join, follow, equal, satisfies. ablautref06.Table, patterns without parts (printed by gentable.py). -/
import Derived.Test.YtedhogbocifipaaGreatDoorRefNode
import Derived.Test.YtedhogbocifipaaGreatDoorGa08
set_option maxRecDepth 100000
set_option maxHeartbeats 8000000
namespace Go.Proofs.YtedhogbocifipaaGreatDoor
open Go.RowKit Go.Ab
attribute [local go_sem] Oper.semAt_some wide_fn wide_depth

theorem Tryz.infoU : (Tryz.prog.info? 118).map (fun i => (i.zero, i.size, i.bytes)) = some (some (.int .u64 0), 1, 8) := by kernel_rfl

/-- n rows of bits. -/
def u64V (n : Nat) (f : Nat → Nat) : List Value := (List.range n).map fun a => Value.int .u64 (f a : Int)
theorem u64V_length (n : Nat) (f : Nat → Nat) : (u64V n f).length = n := by simp [u64V]
theorem u64V_get {n a : Nat} (f : Nat → Nat) (h : a < n) : (u64V n f)[a]? = some (.int .u64 (f a : Int)) := by simp [u64V, h]
theorem u64V_congr {n : Nat} {f g : Nat → Nat} (h : ∀ a, a < n → f a = g a) : u64V n f = u64V n g := List.map_congr_left fun a ha => by rw [h a (List.mem_range.1 ha)]
def updN (f : Nat → Nat) (k v : Nat) : Nat → Nat := fun i => if i = k then v else f i
theorem u64V_set (n : Nat) (f : Nat → Nat) (k v : Nat) : (u64V n f).set k (.int .u64 (v : Int)) = u64V n (updN f k v) := by
 apply List.ext_getElem?
 intro j
 rw [List.getElem?_set]
 by_cases hj : j < n
 ·rw [u64V_get _ hj, u64V_get _ hj]
  unfold updN
  by_cases e : k = j
  ·subst e; rw [if_pos rfl, if_pos (by rw [u64V_length]; exact hj), if_pos rfl]
  ·rw [if_neg e, if_neg (fun h => e h.symm)]
 ·have h1 : ∀ f : Nat → Nat, (u64V n f)[j]? = none := fun f => List.getElem?_eq_none (by rw [u64V_length]; omega)
  rw [h1, h1]
  split
  ·rename_i e; subst e; rw [if_neg (by rw [u64V_length]; exact hj)]
  ·rfl
theorem u64V_zero (n : Nat) : List.replicate n (Value.int .u64 0) = u64V n (fun _ => 0) := by
 apply List.ext_getElem?
 intro j
 by_cases hj : j < n
 ·rw [u64V_get _ hj]; simp [hj]
 ·rw [List.getElem?_eq_none (by simpa using Nat.le_of_not_lt hj), List.getElem?_eq_none (by rw [u64V_length]; omega)]

/-- Rows that may be read. -/
def RowsR (w : World) (u : Value) (n : Nat) (f : Nat → Nat) : Prop := ∃ g cap, u = .slice (some ⟨g, 0, none⟩) n cap ∧ g < w.heap.size ∧ ∀ a, a < n → w.cell? ⟨g, a, none⟩ = some (.int .u64 (f a : Int))
theorem RowsR.keep {S : Nat → Prop} {A B : World} {u : Value} {n : Nat} {f : Nat → Nat} (h : RowsR A u n f) (ht : Turn S A B) (hS : ∀ g, u.ownBlock = some g → ¬ S g) : RowsR B u n f := by
 obtain ⟨g, cap, rfl, hg, hc⟩ := h
 exact ⟨g, cap, rfl, Nat.lt_of_lt_of_le hg ht.size, fun a ha => ht.cell_some (hc a ha) (hS g rfl)⟩
theorem RowsR.ext {A B : World} {u : Value} {n : Nat} {f : Nat → Nat} (h : RowsR A u n f) (ht : Ext A B) : RowsR B u n f := h.keep ht fun _ _ h => h
theorem RowsR.own {w : World} {base : Nat} {t : TypeId} {u : Value} {n : Nat} {f : Nat → Nat} (h : w.ownsRow base t 1 u (n + 1) (u64V (n + 1) f)) : RowsR w u (n + 1) f := by
 rcases h.2 with ⟨_, q⟩ | ⟨g, cap, cur, rfl, _, hg, _⟩
 ·simp at q
 ·exact ⟨g, cap, rfl, (Array.getElem?_eq_some_iff.1 hg).1, fun a ha => by rw [h.cellAt a (by omega), u64V_get _ ha]⟩

theorem same_tab (n : Nat) (hn : n ≤ 32) (w : World) :
  Calls Tryz.prog 151 #[.int .i64 n] w fun e w' => ∃ u, e = .returned u ∧ w'.ownsRow w.heap.size 118 1 u (n + 1) (u64V (n + 1) (rowM (idB n))) ∧ Ext w w' := by
 go_enter Tryz.func151, Tryz.ntmps151
 go_wp2_with (at_make; refine make_row1 rfl (.tmp 6) (.tmp 6) 129 rfl w.heap.size 118 _ 8 Tryz.underlying129 Tryz.infoU rfl .i64 .i64 ((n : Int) + 1) ((n : Int) + 1) (n + 1) rfl rfl (by omega) (by omega) ?c1 ?c2 (Nat.le_refl _) ?_)
 case c1 => omega
 case c2 => unfold maxLen; omega
 intro w1 hO hE1
 obtain ⟨r, hr⟩ : ∃ r, w.heap.size = r := ⟨_, rfl⟩
 rw [hr] at hO ⊢
 rw [u64V_zero, show u64V (n + 1) (fun _ => 0) = u64V (n + 1) (fun a => if a < 0 then 2 ^ a else 0) from u64V_congr fun a _ => by simp] at hO
 have HR := Lib.hid hr
 clear hr
 go_wp2
 refine wp_loop (fun a W => ∃ (k : Nat), k ≤ n + 1 ∧ a.defers = [] ∧ (a.tmps.size = 19 ∧ a.tmps.getD 0 undef = .int .i64 n ∧ a.tmps.getD 3 undef = .slice (some ⟨r, 0, none⟩) (n + 1) (n + 1) ∧ a.tmps.getD 4 undef = .int .i64 k) ∧ W.ownsRow r 118 1 (.slice (some ⟨r, 0, none⟩) (n + 1) (n + 1)) (n + 1) (u64V (n + 1) (fun a => if a < k then 2 ^ a else 0)) ∧ Ext w W)
  (fun a _ => n + 1 - (intOf (a.tmps.getD 4 undef)).toNat) ?_ ?_
 ·exact ⟨0, by omega, rfl, ⟨rfl, rfl, rfl, rfl⟩, hO, hE1⟩
 clear hO hE1
 rintro ⟨t, _⟩ W ⟨k, hk, hds, ⟨hsz, f0, f3, f4⟩, hO, hE⟩
 subst hds
 obtain ⟨u', hu⟩ := frame_fun hsz
 obtain ⟨u, rfl⟩ : ∃ x, x = u' := ⟨_, rfl⟩
 have hu' : t = #[u 0, u 1, u 2, u 3, u 4, u 5, u 6, u 7, u 8, u 9, u 10, u 11, u 12, u 13, u 14, u 15, u 16, u 17, u 18] := hu
 clear hu
 subst hu'
 change u 0 = _ at f0
 change u 3 = _ at f3
 change u 4 = _ at f4
 rw [f0, f3, f4]
 clear f0 f3 f4 hsz
 by_cases hkn : k < n + 1
 ·have h1 : (k : Int) ≤ (n : Int) := by omega
  have h2 : (k : Int) < (n : Int) + 1 := by omega
  have h3 : (k : Int) < 64 := by omega
  have hw := pow_u64 (k := k) (by omega)
  have c1 : W.cell? ⟨r, k, none⟩ = some (.int .u64 ((if k < k then 2 ^ k else 0 : Nat) : Int)) := by rw [hO.cellAt k (by omega), u64V_get _ hkn]
  rw [if_neg (Nat.lt_irrefl k)] at c1
  have c2 : W.frozen? ⟨r, k, none⟩ = false := hO.frozenAt k
  have hs := own_store hO k (.int .u64 ((2 ^ k : Nat) : Int))
  rw [u64V_set, u64V_congr (g := fun a => if a < k + 1 then 2 ^ a else 0) (fun i _ => by
   unfold updN
   by_cases e : i = k
   ·subst e; simp
   ·rw [if_neg e]
    show (if i < k then 2 ^ i else 0) = _
    by_cases h : i < k
    ·rw [if_pos h, if_pos (by omega)]
    ·rw [if_neg h, if_neg (by omega)])] at hs
  have hE2 : Ext w (W.setCell ⟨r, k, none⟩ (.int .u64 ((2 ^ k : Nat) : Int))) := hE.setCell (p := ⟨r, k, none⟩) (.inl (by rw [HR.out]; exact Nat.le_refl r)) _
  have HS := Lib.hid hs; have HE := Lib.hid hE2
  clear hs hE2 hO hE
  go_wp2
  exact ⟨⟨k + 1, by omega, by first | rfl | trivial, ⟨rfl, rfl, rfl, rfl⟩, HS.out, HE.out⟩, by simp [intOf]; omega⟩
 ·obtain rfl : k = n + 1 := by omega
  have h1 : ¬ (((n + 1 : Nat) : Int) ≤ (n : Int)) := by omega
  rw [u64V_congr (g := rowM (idB n)) (fun a ha => by rw [if_pos ha, rowM_id hn (by omega)])] at hO
  rw [← HR.out] at hO
  have HO := Lib.hid hO
  clear hO
  go_wp2
  go_ret
  rw [HR.out] at HO
  exact ⟨_, rfl, by rw [HR.out]; exact HO.out, hE⟩

theorem join_tab {n : Nat} {w : World} {x y : Value} {f g : Nat → Nat} (hn : n ≤ 32) (hx : RowsR w x (n + 1) f) (hy : RowsR w y (n + 1) g) (hf : ∀ a, f a < 8589934592) (hg : ∀ a, g a < 8589934592) :
  Calls Tryz.prog 153 #[x, y] w fun e w' => ∃ u, e = .returned u ∧ w'.ownsRow w.heap.size 118 1 u (n + 1) (u64V (n + 1) (fun a => f a ||| g a)) ∧ Ext w w' := by
 obtain ⟨gx, cx, rfl, _, hcx⟩ := hx
 obtain ⟨gy, cy, rfl, _, hcy⟩ := hy
 have HX := Lib.hid hcx; have HY := Lib.hid hcy; have HF := Lib.hid hf; have HG := Lib.hid hg
 clear hcx hcy hf hg
 go_enter Tryz.func153, Tryz.ntmps153
 go_wp2_with (at_make; refine make_row1 rfl (.tmp 8) (.tmp 8) 129 rfl w.heap.size 118 _ 8 Tryz.underlying129 Tryz.infoU rfl .i64 .i64 _ _ (n + 1) rfl rfl (by first | rfl | omega | simp) (by first | rfl | omega | simp) ?c1 ?c2 (Nat.le_refl _) ?_)
 case c1 => omega
 case c2 => unfold maxLen; omega
 intro w1 hO hE1
 obtain ⟨r, hr⟩ : ∃ r, w.heap.size = r := ⟨_, rfl⟩
 rw [hr] at hO ⊢
 rw [u64V_zero, show u64V (n + 1) (fun _ => 0) = u64V (n + 1) (fun a => if a < 0 then f a ||| g a else 0) from u64V_congr fun a _ => by simp] at hO
 have HR := Lib.hid hr
 clear hr
 go_wp2
 refine wp_loop (fun a W => ∃ (k : Nat), k ≤ n + 1 ∧ a.defers = [] ∧ (a.tmps.size = 29 ∧ a.tmps.getD 0 undef = .slice (some ⟨gx, 0, none⟩) (n + 1) cx ∧ a.tmps.getD 1 undef = .slice (some ⟨gy, 0, none⟩) (n + 1) cy ∧ a.tmps.getD 5 undef = .slice (some ⟨r, 0, none⟩) (n + 1) (n + 1) ∧ a.tmps.getD 6 undef = .int .i64 k) ∧ W.ownsRow r 118 1 (.slice (some ⟨r, 0, none⟩) (n + 1) (n + 1)) (n + 1) (u64V (n + 1) (fun a => if a < k then f a ||| g a else 0)) ∧ Ext w W)
  (fun a _ => n + 1 - (intOf (a.tmps.getD 6 undef)).toNat) ?_ ?_
 ·exact ⟨0, by omega, rfl, ⟨rfl, rfl, rfl, rfl, rfl⟩, hO, hE1⟩
 clear hO hE1
 rintro ⟨t, _⟩ W ⟨k, hk, hds, ⟨hsz, f0, f1, f5, f6⟩, hO, hE⟩
 subst hds
 obtain ⟨u', hu⟩ := frame_fun hsz
 obtain ⟨u, rfl⟩ : ∃ x, x = u' := ⟨_, rfl⟩
 have hu' : t = #[u 0, u 1, u 2, u 3, u 4, u 5, u 6, u 7, u 8, u 9, u 10, u 11, u 12, u 13, u 14, u 15, u 16, u 17, u 18, u 19, u 20, u 21, u 22, u 23, u 24, u 25, u 26, u 27, u 28] := hu
 clear hu
 subst hu'
 change u 0 = _ at f0
 change u 1 = _ at f1
 change u 5 = _ at f5
 change u 6 = _ at f6
 rw [f0, f1, f5, f6]
 clear f0 f1 f5 f6 hsz
 by_cases hkn : k < n + 1
 ·have h1 : (k : Int) < (n : Int) + 1 := by omega
  have d1 := hE.cell_some (HX.out k hkn) id
  have d2 := hE.cell_some (HY.out k hkn) id
  have e1 := HF.out k
  have e2 := HG.out k
  have c1 : W.cell? ⟨r, k, none⟩ = some (.int .u64 ((if k < k then f k ||| g k else 0 : Nat) : Int)) := by rw [hO.cellAt k (by omega), u64V_get _ hkn]
  rw [if_neg (Nat.lt_irrefl k)] at c1
  have c2 : W.frozen? ⟨r, k, none⟩ = false := hO.frozenAt k
  have oA := u64_or_nat (f k) (g k) (by omega) (by omega)
  have hs : ∀ m, ((W.drewN m).setCell ⟨r, k, none⟩ (.int .u64 ((f k ||| g k : Nat) : Int))).ownsRow r 118 1 (.slice (some ⟨r, 0, none⟩) (n + 1) (n + 1)) (n + 1) (u64V (n + 1) (fun a => if a < k + 1 then f a ||| g a else 0)) ∧ Ext w ((W.drewN m).setCell ⟨r, k, none⟩ (.int .u64 ((f k ||| g k : Nat) : Int))) := by
   intro m
   have hs := own_store (own_ext hO ((Turn.refl _ W).drewN m)) k (.int .u64 ((f k ||| g k : Nat) : Int))
   rw [u64V_set, u64V_congr (g := fun a => if a < k + 1 then f a ||| g a else 0) (fun i _ => by
    unfold updN
    by_cases e : i = k
    ·subst e; simp
    ·rw [if_neg e]
     show (if i < k then f i ||| g i else 0) = _
     by_cases h : i < k
     ·rw [if_pos h, if_pos (by omega)]
     ·rw [if_neg h, if_neg (by omega)])] at hs
   exact ⟨hs, (hE.drewN m).setCell (p := ⟨r, k, none⟩) (.inl (by rw [HR.out]; exact Nat.le_refl r)) _⟩
  have HS := Lib.hid hs
  obtain ⟨fk, hfk⟩ : ∃ v, f k = v := ⟨_, rfl⟩
  obtain ⟨gk, hgk⟩ : ∃ v, g k = v := ⟨_, rfl⟩
  rw [hfk] at d1 e1 oA HS
  rw [hgk] at d2 e2 oA HS
  clear hs hO hE hfk hgk
  go_wp2
  refine region_still 11 (by kernel_rfl) (by kernel_rfl) ?_
  simp only [List.take_succ_cons, List.take_zero, List.drop_succ_cons, List.drop_zero]
  repeat still_step
  refine wpStill_nil ?_
  go_wp2
  exact ⟨⟨k + 1, by omega, by first | rfl | trivial, ⟨rfl, rfl, rfl, rfl, rfl⟩, (HS.out _).1, (HS.out _).2⟩, by simp [intOf]; omega⟩
 ·obtain rfl : k = n + 1 := by omega
  have h1 : ¬ (((n + 1 : Nat) : Int) < (n : Int) + 1) := by omega
  rw [u64V_congr (g := fun a => f a ||| g a) (fun a ha => by rw [if_pos ha])] at hO
  rw [← HR.out] at hO
  have HO := Lib.hid hO
  clear hO
  go_wp2
  go_ret
  rw [HR.out] at HO
  exact ⟨_, rfl, by rw [HR.out]; exact HO.out, hE⟩

theorem follow_tab {n : Nat} {w : World} {x y : Value} {X Y : Bin2} (hn : n ≤ 32) (hx : RowsR w x (n + 1) (rowM X)) (hy : RowsR w y (n + 1) (rowM Y)) (hX : Mono n X) :
  Calls Tryz.prog 152 #[x, y] w fun e w' => ∃ u, e = .returned u ∧ w'.ownsRow w.heap.size 118 1 u (n + 1) (u64V (n + 1) (rowM (comp X Y))) ∧ Ext w w' := by
 obtain ⟨gx, cx, rfl, _, hcx⟩ := hx
 obtain ⟨gy, cy, rfl, _, hcy⟩ := hy
 have HX := Lib.hid hcx; have HY := Lib.hid hcy; have HM := Lib.hid hX
 clear hcx hcy hX
 go_enter Tryz.func152, Tryz.ntmps152
 go_wp2_with (at_make; refine make_row1 rfl (.tmp 9) (.tmp 9) 129 rfl w.heap.size 118 _ 8 Tryz.underlying129 Tryz.infoU rfl .i64 .i64 _ _ (n + 1) rfl rfl (by first | rfl | omega | simp) (by first | rfl | omega | simp) ?c1 ?c2 (Nat.le_refl _) ?_)
 case c1 => omega
 case c2 => unfold maxLen; omega
 intro w1 hO hE1
 obtain ⟨r, hr⟩ : ∃ r, w.heap.size = r := ⟨_, rfl⟩
 rw [hr] at hO ⊢
 rw [u64V_zero, show u64V (n + 1) (fun _ => 0) = u64V (n + 1) (fun a => if a < 0 then rowM (comp X Y) a else 0) from u64V_congr fun a _ => by simp] at hO
 have HR := Lib.hid hr
 clear hr
 go_wp2
 refine wp_loop (fun a W => ∃ (k : Nat), k ≤ n + 1 ∧ a.defers = [] ∧ (a.tmps.size = 44 ∧ a.tmps.getD 0 undef = .slice (some ⟨gx, 0, none⟩) (n + 1) cx ∧ a.tmps.getD 1 undef = .slice (some ⟨gy, 0, none⟩) (n + 1) cy ∧ a.tmps.getD 5 undef = .slice (some ⟨r, 0, none⟩) (n + 1) (n + 1) ∧ a.tmps.getD 6 undef = .int .i64 k) ∧ W.ownsRow r 118 1 (.slice (some ⟨r, 0, none⟩) (n + 1) (n + 1)) (n + 1) (u64V (n + 1) (fun a => if a < k then rowM (comp X Y) a else 0)) ∧ Ext w W)
  (fun a _ => n + 1 - (intOf (a.tmps.getD 6 undef)).toNat) ?_ ?_
 ·exact ⟨0, by omega, rfl, ⟨rfl, rfl, rfl, rfl, rfl⟩, hO, hE1⟩
 clear hO hE1
 rintro ⟨t, _⟩ W ⟨k, hk, hds, ⟨hsz, f0, f1, f5, f6⟩, hO, hE⟩
 subst hds
 obtain ⟨u', hu⟩ := frame_fun hsz
 obtain ⟨u, rfl⟩ : ∃ x, x = u' := ⟨_, rfl⟩
 have hu' : t = #[u 0, u 1, u 2, u 3, u 4, u 5, u 6, u 7, u 8, u 9, u 10, u 11, u 12, u 13, u 14, u 15, u 16, u 17, u 18, u 19, u 20, u 21, u 22, u 23, u 24, u 25, u 26, u 27, u 28, u 29, u 30, u 31, u 32, u 33, u 34, u 35, u 36, u 37, u 38, u 39, u 40, u 41, u 42, u 43] := hu
 clear hu
 subst hu'
 change u 0 = _ at f0
 change u 1 = _ at f1
 change u 5 = _ at f5
 change u 6 = _ at f6
 rw [f0, f1, f5, f6]
 clear f0 f1 f5 f6 hsz
 by_cases hkn : k < n + 1
 ·have h1 : (k : Int) < (n : Int) + 1 := by omega
  rw [u64V_congr (g := updN (fun a => if a < k then rowM (comp X Y) a else 0) k (partB Y ((List.range 0).filter (X k)))) (fun i _ => by
   unfold updN
   by_cases e : i = k
   ·subst e; rw [if_pos rfl, if_neg (Nat.lt_irrefl i)]; exact (partB_nil Y).symm
   ·rw [if_neg e])] at hO
  have HO := Lib.hid hO
  clear hO
  go_wp2
  refine wp_loop (fun a V => ∃ (b : Nat), b ≤ n + 1 ∧ a.defers = [] ∧ (a.tmps.size = 44 ∧ a.tmps.getD 0 undef = .slice (some ⟨gx, 0, none⟩) (n + 1) cx ∧ a.tmps.getD 1 undef = .slice (some ⟨gy, 0, none⟩) (n + 1) cy ∧ a.tmps.getD 5 undef = .slice (some ⟨r, 0, none⟩) (n + 1) (n + 1) ∧ a.tmps.getD 6 undef = .int .i64 k ∧ a.tmps.getD 7 undef = .int .i64 b) ∧ V.ownsRow r 118 1 (.slice (some ⟨r, 0, none⟩) (n + 1) (n + 1)) (n + 1) (u64V (n + 1) (updN (fun a => if a < k then rowM (comp X Y) a else 0) k (partB Y ((List.range b).filter (X k))))) ∧ Ext w V)
   (fun a _ => n + 1 - (intOf (a.tmps.getD 7 undef)).toNat) ?_ ?_
  ·exact ⟨0, by omega, rfl, ⟨rfl, rfl, rfl, rfl, rfl, rfl⟩, HO.out, hE⟩
  clear HO hE
  rintro ⟨t, _⟩ V ⟨b, hb, hds, ⟨hsz, f0, f1, f5, f6, f7⟩, hO, hE⟩
  subst hds
  obtain ⟨u', hu⟩ := frame_fun hsz
  obtain ⟨u, rfl⟩ : ∃ x, x = u' := ⟨_, rfl⟩
  have hu' : t = #[u 0, u 1, u 2, u 3, u 4, u 5, u 6, u 7, u 8, u 9, u 10, u 11, u 12, u 13, u 14, u 15, u 16, u 17, u 18, u 19, u 20, u 21, u 22, u 23, u 24, u 25, u 26, u 27, u 28, u 29, u 30, u 31, u 32, u 33, u 34, u 35, u 36, u 37, u 38, u 39, u 40, u 41, u 42, u 43] := hu
  clear hu
  subst hu'
  change u 0 = _ at f0
  change u 1 = _ at f1
  change u 5 = _ at f5
  change u 6 = _ at f6
  change u 7 = _ at f7
  rw [f0, f1, f5, f6, f7]
  clear f0 f1 f5 f6 f7 hsz
  by_cases hbn : b < n + 1
  ·have h2 : (b : Int) < (n : Int) + 1 := by omega
   have h3 : (b : Int) < 64 := by omega
   have d1 := hE.cell_some (HX.out k hkn) id
   have d2 := hE.cell_some (HY.out b hbn) id
   have e1 := rowM_lt X k
   have hbit := bitR X k b (by omega)
   have hfil := filter_snoc (X k) b
   obtain ⟨q, hq⟩ : ∃ q, X k b = q := ⟨_, rfl⟩
   rw [hq] at hbit hfil
   have HFIL := Lib.hid hfil
   clear hfil hq
   cases q
   ·have hfin := HFIL.out
    rw [if_neg (by decide), List.append_nil] at hfin
    rw [← hfin] at hO
    have HO := Lib.hid hO
    clear hfin hO d2
    go_wp2
    exact ⟨⟨b + 1, by omega, by first | rfl | trivial, ⟨rfl, rfl, rfl, rfl, rfl, rfl⟩, HO.out, hE⟩, by simp [intOf]; omega⟩
   ·have hfin := HFIL.out
    rw [if_pos rfl] at hfin
    have e2 := rowM_lt Y b
    have e3 := partB_lt Y ((List.range b).filter (X k))
    have c1 : V.cell? ⟨r, k, none⟩ = some (.int .u64 (partB Y ((List.range b).filter (X k)) : Int)) := by
     rw [hO.cellAt k (by omega), u64V_get _ hkn]; unfold updN; rw [if_pos rfl]
    have c2 : V.frozen? ⟨r, k, none⟩ = false := hO.frozenAt k
    have oA := u64_or_nat (partB Y ((List.range b).filter (X k))) (rowM Y b) (by omega) (by omega)
    have hs : ∀ m, ((V.drewN m).setCell ⟨r, k, none⟩ (.int .u64 ((partB Y ((List.range b).filter (X k)) ||| rowM Y b : Nat) : Int))).ownsRow r 118 1 (.slice (some ⟨r, 0, none⟩) (n + 1) (n + 1)) (n + 1) (u64V (n + 1) (updN (fun a => if a < k then rowM (comp X Y) a else 0) k (partB Y ((List.range (b + 1)).filter (X k))))) ∧ Ext w ((V.drewN m).setCell ⟨r, k, none⟩ (.int .u64 ((partB Y ((List.range b).filter (X k)) ||| rowM Y b : Nat) : Int))) := by
     intro m
     have hs := own_store (own_ext hO ((Turn.refl _ V).drewN m)) k (.int .u64 ((partB Y ((List.range b).filter (X k)) ||| rowM Y b : Nat) : Int))
     rw [u64V_set, ← partB_snoc, ← hfin, u64V_congr (g := updN (fun a => if a < k then rowM (comp X Y) a else 0) k (partB Y ((List.range (b + 1)).filter (X k)))) (fun i _ => by
      unfold updN
      by_cases e : i = k
      ·rw [if_pos e, if_pos e]
      ·rw [if_neg e, if_neg e, if_neg e])] at hs
     rw [← partB_snoc, ← hfin]
     exact ⟨hs, (hE.drewN m).setCell (p := ⟨r, k, none⟩) (.inl (by rw [HR.out]; exact Nat.le_refl r)) _⟩
    have HS := Lib.hid hs
    obtain ⟨pk, hpk⟩ : ∃ v, partB Y ((List.range b).filter (X k)) = v := ⟨_, rfl⟩
    obtain ⟨yk, hyk⟩ : ∃ v, rowM Y b = v := ⟨_, rfl⟩
    rw [hpk] at e3 c1 oA HS
    rw [hyk] at d2 e2 oA HS
    clear hs hO hE hpk hyk hfin HFIL
    go_wp2
    refine region_still 11 (by kernel_rfl) (by kernel_rfl) ?_
    simp only [List.take_succ_cons, List.take_zero, List.drop_succ_cons, List.drop_zero]
    repeat still_step
    refine wpStill_nil ?_
    go_wp2
    exact ⟨⟨b + 1, by omega, by first | rfl | trivial, ⟨rfl, rfl, rfl, rfl, rfl, rfl⟩, (HS.out _).1, (HS.out _).2⟩, by simp [intOf]; omega⟩
  ·obtain rfl : b = n + 1 := by omega
   have h2 : ¬ (((n + 1 : Nat) : Int) < (n : Int) + 1) := by omega
   rw [u64V_congr (g := fun a => if a < k + 1 then rowM (comp X Y) a else 0) (fun i _ => by
    unfold updN
    by_cases e : i = k
    ·subst e
     rw [if_pos rfl, if_pos (by omega)]
     exact partB_upto hn HM.out Y i
    ·rw [if_neg e]
     show (if i < k then rowM (comp X Y) i else 0) = _
     by_cases h : i < k
     ·rw [if_pos h, if_pos (by omega)]
     ·rw [if_neg h, if_neg (by omega)])] at hO
   have HO := Lib.hid hO
   clear hO
   go_wp2
   first | exact ⟨⟨k + 1, by omega, by first | rfl | trivial, ⟨rfl, rfl, rfl, rfl, rfl⟩, HO.out, hE⟩, by simp [intOf]; omega⟩ | exact ⟨⟨k + 1, by omega, by simp, HO.out, hE⟩, by simp [intOf]; omega⟩ | exact ⟨⟨k + 1, by omega, by simp, HO.out⟩, by simp [intOf]; omega⟩
 ·obtain rfl : k = n + 1 := by omega
  have h1 : ¬ (((n + 1 : Nat) : Int) < (n : Int) + 1) := by omega
  rw [u64V_congr (g := rowM (comp X Y)) (fun a ha => by rw [if_pos ha])] at hO
  rw [← HR.out] at hO
  have HO := Lib.hid hO
  clear hO
  go_wp2
  go_ret
  rw [HR.out] at HO
  exact ⟨_, rfl, by rw [HR.out]; exact HO.out, hE⟩

/-- Whether all rows are the same. -/
def EqPost (n : Nat) (f g : Nat → Nat) (e : Ending) : Prop := ∃ b, e = .returned (.bool b) ∧ (b = true ↔ ∀ a, a < n + 1 → f a = g a)
theorem equal_tab {n : Nat} {w : World} {x y : Value} {f g : Nat → Nat} (hn : n ≤ 32) (hx : RowsR w x (n + 1) f) (hy : RowsR w y (n + 1) g) (hf : ∀ a, f a < 8589934592) (hg : ∀ a, g a < 8589934592) :
  Calls Tryz.prog 154 #[x, y] w fun e w' => EqPost n f g e ∧ Ext w w' := by
 obtain ⟨gx, cx, rfl, _, hcx⟩ := hx
 obtain ⟨gy, cy, rfl, _, hcy⟩ := hy
 have HX := Lib.hid hcx; have HY := Lib.hid hcy; have HF := Lib.hid hf; have HG := Lib.hid hg
 clear hcx hcy hf hg
 go_enter Tryz.func154, Tryz.ntmps154
 go_wp2
 refine wp_loop (fun a W => ∃ (k : Nat), k ≤ n + 1 ∧ a.defers = [] ∧ (a.tmps.size = 21 ∧ a.tmps.getD 0 undef = .slice (some ⟨gx, 0, none⟩) (n + 1) cx ∧ a.tmps.getD 1 undef = .slice (some ⟨gy, 0, none⟩) (n + 1) cy ∧ a.tmps.getD 5 undef = .int .i64 k) ∧ (∀ a, a < k → f a = g a) ∧ Ext w W)
  (fun a _ => n + 1 - (intOf (a.tmps.getD 5 undef)).toNat) ?_ ?_
 ·exact ⟨0, by omega, rfl, ⟨rfl, rfl, rfl, rfl⟩, fun a ha => by omega, Turn.refl _ _⟩
 rintro ⟨t, _⟩ W ⟨k, hk, hds, ⟨hsz, f0, f1, f5⟩, hall, hE⟩
 subst hds
 obtain ⟨u', hu⟩ := frame_fun hsz
 obtain ⟨u, rfl⟩ : ∃ x, x = u' := ⟨_, rfl⟩
 have hu' : t = #[u 0, u 1, u 2, u 3, u 4, u 5, u 6, u 7, u 8, u 9, u 10, u 11, u 12, u 13, u 14, u 15, u 16, u 17, u 18, u 19, u 20] := hu
 clear hu
 subst hu'
 change u 0 = _ at f0
 change u 1 = _ at f1
 change u 5 = _ at f5
 rw [f0, f1, f5]
 clear f0 f1 f5 hsz
 have HALL := Lib.hid hall
 clear hall
 by_cases hkn : k < n + 1
 ·have h1 : (k : Int) < (n : Int) + 1 := by omega
  have d1 := hE.cell_some (HX.out k hkn) id
  have d2 := hE.cell_some (HY.out k hkn) id
  have e1 := HF.out k
  have e2 := HG.out k
  by_cases hfg : f k = g k
  ·have hnew : ∀ a, a < k + 1 → f a = g a := fun a ha => by
    by_cases e : a = k
    ·rw [e]; exact hfg
    ·exact HALL.out a (by omega)
   have HN := Lib.hid hnew
   rw [← hfg] at d2
   obtain ⟨fk, hfk⟩ : ∃ v, f k = v := ⟨_, rfl⟩
   rw [hfk] at d1 d2 e1
   clear hnew hfg hfk e2
   go_wp2
   go_quiet (fail)
   go_wp2
   exact ⟨⟨k + 1, by omega, by first | rfl | trivial, ⟨rfl, rfl, rfl, rfl⟩, HN.out, hE.drewN _⟩, by simp [intOf]; omega⟩
  ·have hno : ¬ ∀ a, a < n + 1 → f a = g a := fun h => hfg (h k hkn)
   have HN := Lib.hid hno
   have q1 : ((f k : Int) == (g k : Int)) = false := by rw [beq_eq_false_iff_ne]; omega
   have q2 : ((f k : Int) != (g k : Int)) = true := by rw [bne_iff_ne]; omega
   obtain ⟨fk, hfk⟩ : ∃ v, f k = v := ⟨_, rfl⟩
   obtain ⟨gk, hgk⟩ : ∃ v, g k = v := ⟨_, rfl⟩
   rw [hfk] at d1 e1 q1 q2
   rw [hgk] at d2 e2 q1 q2
   clear hno hfg hfk hgk
   go_wp2
   go_quiet (fail)
   go_wp2
   go_ret
   exact ⟨⟨false, rfl, ⟨(fun h => by cases h), fun h => absurd h HN.out⟩⟩, hE.drewN _⟩
 ·obtain rfl : k = n + 1 := by omega
  have h1 : ¬ (((n + 1 : Nat) : Int) < (n : Int) + 1) := by omega
  go_wp2
  go_ret
  exact ⟨⟨true, rfl, ⟨fun _ => HALL.out, fun _ => rfl⟩⟩, hE⟩

theorem sat_any {s c : Nat × Nat} (h1 : s.1 < 4294967296) (h2 : s.2 < 4294967296) (h3 : c.1 < 4294967296) (h4 : c.2 < 4294967296) (w : World) :
  Calls Tryz.prog 150 #[.agg #[.int .u32 (s.1 : Int), .int .u32 (s.2 : Int)], .agg #[.int .u32 (c.1 : Int), .int .u32 (c.2 : Int)]] w fun e w' => e = .returned (.bool (sat s c)) ∧ Ext w w' := by
 have a1 : bits .and .u32 (s.1 : Int) (c.1 : Int) = ((s.1 &&& c.1 : Nat) : Int) := u32_and_nat _ _ h1 h3
 have a2 : bits .and .u32 (s.2 : Int) (c.2 : Int) = ((s.2 &&& c.2 : Nat) : Int) := u32_and_nat _ _ h2 h4
 have HS : Hid (sat s c = ((s.1 &&& c.1 == c.1) && (s.2 &&& c.2 == c.2))) := Lib.hid (by unfold sat; rw [Nat.and_comm c.1, Nat.and_comm c.2])
 have b1 : (((s.1 &&& c.1 : Nat) : Int) == (c.1 : Int)) = (s.1 &&& c.1 == c.1) := by apply Bool.eq_iff_iff.2; rw [beq_iff_eq, beq_iff_eq]; omega
 have b2 : (((s.2 &&& c.2 : Nat) : Int) == (c.2 : Int)) = (s.2 &&& c.2 == c.2) := by apply Bool.eq_iff_iff.2; rw [beq_iff_eq, beq_iff_eq]; omega
 obtain ⟨s1, s2⟩ := s
 obtain ⟨c1, c2⟩ := c
 simp only at *
 obtain ⟨u, hu⟩ : ∃ u, s1 &&& c1 = u := ⟨_, rfl⟩
 obtain ⟨v, hv⟩ : ∃ u, s2 &&& c2 = u := ⟨_, rfl⟩
 rw [hu] at a1 b1 HS
 rw [hv] at a2 b2 HS
 obtain ⟨x, hx⟩ : ∃ x, (u == c1) = x := ⟨_, rfl⟩
 obtain ⟨y, hy⟩ : ∃ x, (v == c2) = x := ⟨_, rfl⟩
 rw [hx] at b1 HS
 rw [hy] at b2 HS
 clear hu hv hx hy
 go_enter Tryz.func150, Tryz.ntmps150
 cases x
 ·go_wp2
  go_ret
  exact ⟨by rw [HS.out]; rfl, ((Turn.refl _ _).alloc _).alloc _⟩
 ·cases y
  all_goals
   go_wp2
   go_ret
   exact ⟨by rw [HS.out]; rfl, ((Turn.refl _ _).alloc _).alloc _⟩


def TableOk (p : Pat) : Prop := ∀ (K : Nat → Prop) (w : World) (cs : List Value) (v : Value) (ws : Wd), PatAt K w p cs → WordAt w v ws → ws.length ≤ 32 → allN p →
 Calls Tryz.prog 129 #[.agg cs.toArray, v] w fun e w' => ∃ u, e = .returned u ∧ w'.ownsRow w.heap.size 118 1 u (ws.length + 1) (u64V (ws.length + 1) (rowM (relP ws p))) ∧ Ext w w'
theorem rowM_one {X : Bin2} {a b : Nat} (hb : b < 33) (h : ∀ c, c < 33 → X a c = (c == b)) : rowM X a = 2 ^ b := by
 rw [two_pow_mask (n := 33) (by omega)]
 exact mask_congr fun i hi => h i hi
theorem rowM_none {X : Bin2} {a : Nat} (h : ∀ c, c < 33 → X a c = false) : rowM X a = 0 := by
 unfold rowM
 rw [← mask_zero 33]
 exact mask_congr fun i hi => h i hi

theorem table_0 (pl mi : Nat) (nt : Bool) (mn mx : Int) (l : List Pat) : TableOk (.node 0 pl mi nt mn mx l) := by
 intro K w cs v ws hp hv hn hall
 have hE1 : ∀ V : World, Ext w V → PatAt K V (.node 0 pl mi nt mn mx l) cs := fun V hE => hp.ext hE
 unfold PatAt at hp
 obtain ⟨ao, cap, rfl, hpl, hmi, hlc, hcm, hl⟩ := hp
 obtain ⟨bo, bcap, rfl, hbm⟩ := hv.slice
 rw [allN_eq] at hall
 obtain ⟨hnode, hkids0⟩ := hall
 have hkids : allNs l := hkids0
 rw [allNs_iff] at hkids
 clear hkids0
 have hrel := relP_node ws 0 pl mi nt mn mx l
 have hl0 : l = [] := (nodeE_kind hnode).2.2.1 (by decide) (by decide) (by decide)
 have e0 : seqB ws l (idB ws.length) = idB ws.length := by rw [hl0, seqB]
 rw [if_neg (by decide), if_neg (by decide), if_neg (by decide), if_neg (by decide), if_neg (by decide), e0] at hrel
 clear e0 hl0
 unfold patCells
 obtain ⟨N, hN⟩ : ∃ N, l.length = N := ⟨_, rfl⟩
 obtain ⟨n, hnn⟩ : ∃ n, ws.length = n := ⟨_, rfl⟩
 have HNN := Lib.hid hnn; have HN := Lib.hid hN; have HV := Lib.hid hv; have HL := Lib.hid hl; have HKID := Lib.hid hkids; have HREL := Lib.hid hrel; have HNODE := Lib.hid hnode
 have hlm : N ≤ maxLen := by rw [← hN]; exact Nat.le_trans hlc hcm
 have hbn : n ≤ 32 := by rw [← hnn]; exact hn
 unfold maxLen at hlm hbm
 show Calls Tryz.prog 129 #[.agg #[.int .i64 0, .int .u32 (pl : Int), .int .u32 (mi : Int), .bool nt, .int .i64 mn, .int .i64 mx, .slice ao l.length cap], .slice bo ws.length bcap] w _
 rw [hN, hnn]
 clear hv hl hkids hrel hnode hlc hcm hN hnn hn hbm hE1
 go_enter Tryz.func129, Tryz.ntmps129
 go_wp2_with (at_make; refine make_row1 rfl (.tmp 17) (.tmp 17) 129 rfl (w.heap.size + 1) 118 _ 8 Tryz.underlying129 Tryz.infoU rfl .i64 .i64 _ _ (n + 1) rfl rfl (by first | rfl | omega | simp) (by first | rfl | omega | simp) ?c1 ?c2 (by simp) ?_)
 case c1 => omega
 case c2 => unfold maxLen; omega
 intro w1 hO hE1
 obtain ⟨B, hB⟩ : ∃ r, w.heap.size = r := ⟨_, rfl⟩
 have hx1 : w1.heap[w.heap.size]? = some (.cells #[.int .i64 0, .int .u32 (pl : Int), .int .u32 (mi : Int), .bool nt, .int .i64 mn, .int .i64 mx, .slice ao N cap] 27 (0, 0)) := hE1.keep (new_at rfl)
 have hE01 : Ext w w1 := Turn.trans ((Turn.refl _ w).alloc _) hE1
 rw [hB] at hO hx1 ⊢
 rw [u64V_zero, show u64V (n + 1) (fun _ => 0) = u64V (n + 1) (fun a => if a < 0 then rowM (idB n) a else 0) from u64V_congr fun a _ => by simp] at hO
 have HB := Lib.hid hB
 have HX := Lib.hid hx1
 clear hB hx1 hE1
 go_wp2
 refine wp_loop (fun a W => ∃ (k : Nat), k ≤ n + 1 ∧ a.defers = [] ∧ (a.tmps.size = 153 ∧ a.tmps.getD 1 undef = .slice bo n bcap ∧ a.tmps.getD 2 undef = .pointer (some ⟨B, 0, none⟩) ∧ a.tmps.getD 5 undef = .int .i64 n ∧ a.tmps.getD 6 undef = .slice (some ⟨B + 1, 0, none⟩) (n + 1) (n + 1) ∧ a.tmps.getD 7 undef = .int .i64 k) ∧ W.ownsRow (B + 1) 118 1 (.slice (some ⟨B + 1, 0, none⟩) (n + 1) (n + 1)) (n + 1) (u64V (n + 1) (fun a => if a < k then rowM (idB n) a else 0)) ∧ W.heap[B]? = some (.cells #[.int .i64 0, .int .u32 (pl : Int), .int .u32 (mi : Int), .bool nt, .int .i64 mn, .int .i64 mx, .slice ao N cap] 27 (0, 0)) ∧ Ext w W)
  (fun a _ => n + 1 - (intOf (a.tmps.getD 7 undef)).toNat) ?_ ?_
 ·exact ⟨0, by omega, rfl, ⟨rfl, rfl, rfl, rfl, rfl, rfl⟩, hO, HX.out, hE01⟩
 clear hO hE01 HX
 rintro ⟨t, _⟩ W ⟨k, hk, hds, ⟨hsz, f1, f2, f5, f6, f7⟩, hO, hx, hE⟩
 subst hds
 obtain ⟨u', hu⟩ := frame_fun hsz
 obtain ⟨u, rfl⟩ : ∃ x, x = u' := ⟨_, rfl⟩
 have hu' : t = #[u 0, u 1, u 2, u 3, u 4, u 5, u 6, u 7, u 8, u 9, u 10, u 11, u 12, u 13, u 14, u 15, u 16, u 17, u 18, u 19, u 20, u 21, u 22, u 23, u 24, u 25, u 26, u 27, u 28, u 29, u 30, u 31, u 32, u 33, u 34, u 35, u 36, u 37, u 38, u 39, u 40, u 41, u 42, u 43, u 44, u 45, u 46, u 47, u 48, u 49, u 50, u 51, u 52, u 53, u 54, u 55, u 56, u 57, u 58, u 59, u 60, u 61, u 62, u 63, u 64, u 65, u 66, u 67, u 68, u 69, u 70, u 71, u 72, u 73, u 74, u 75, u 76, u 77, u 78, u 79, u 80, u 81, u 82, u 83, u 84, u 85, u 86, u 87, u 88, u 89, u 90, u 91, u 92, u 93, u 94, u 95, u 96, u 97, u 98, u 99, u 100, u 101, u 102, u 103, u 104, u 105, u 106, u 107, u 108, u 109, u 110, u 111, u 112, u 113, u 114, u 115, u 116, u 117, u 118, u 119, u 120, u 121, u 122, u 123, u 124, u 125, u 126, u 127, u 128, u 129, u 130, u 131, u 132, u 133, u 134, u 135, u 136, u 137, u 138, u 139, u 140, u 141, u 142, u 143, u 144, u 145, u 146, u 147, u 148, u 149, u 150, u 151, u 152] := hu
 clear hu
 subst hu'
 change u 1 = _ at f1
 change u 2 = _ at f2
 change u 5 = _ at f5
 change u 6 = _ at f6
 change u 7 = _ at f7
 rw [f1, f2, f5, f6, f7]
 clear f1 f2 f5 f6 f7 hsz
 have cX := fun j => cell_of_row _ _ j _ _ _ hx
 by_cases hkn : k < n + 1
 ·have h1 : (k : Int) ≤ (n : Int) := by omega
  have h2 : (k : Int) < (n : Int) + 1 := by omega
  have h3 : (k : Int) < 64 := by omega
  have hw := pow_u64 (k := k) (by omega)
  have hval : rowM (idB n) k = 2 ^ k := rowM_id hbn (by omega)
  have hs := own_store hO k (.int .u64 ((2 ^ k : Nat) : Int))
  rw [u64V_set, u64V_congr (g := fun a => if a < k + 1 then rowM (idB n) a else 0) (fun i _ => by
   unfold updN
   by_cases e : i = k
   ·rw [if_pos e, if_pos (by omega), e, hval]
   ·rw [if_neg e]
    show (if i < k then rowM (idB n) i else 0) = _
    by_cases h : i < k
    ·rw [if_pos h, if_pos (by omega)]
    ·rw [if_neg h, if_neg (by omega)])] at hs
  have c1 : W.cell? ⟨B + 1, k, none⟩ = some (.int .u64 ((if k < k then rowM (idB n) k else 0 : Nat) : Int)) := by rw [hO.cellAt k (by omega), u64V_get _ hkn]
  rw [if_neg (Nat.lt_irrefl k)] at c1
  have c2 : W.frozen? ⟨B + 1, k, none⟩ = false := hO.frozenAt k
  have hE2 : Ext w (W.setCell ⟨B + 1, k, none⟩ (.int .u64 ((2 ^ k : Nat) : Int))) := hE.setCell (p := ⟨B + 1, k, none⟩) (.inl (show w.heap.size ≤ B + 1 by have := HB.out; omega)) _
  have hx2 : (W.setCell ⟨B + 1, k, none⟩ (.int .u64 ((2 ^ k : Nat) : Int))).heap[B]? = some (.cells #[.int .i64 0, .int .u32 (pl : Int), .int .u32 (mi : Int), .bool nt, .int .i64 mn, .int .i64 mx, .slice ao N cap] 27 (0, 0)) := set_keep hx (by simp)
  have HS := Lib.hid hs; have HE := Lib.hid hE2; have HX2 := Lib.hid hx2
  clear hs hE2 hx2 hO hE hx hval
  go_wp2
  exact ⟨⟨k + 1, by omega, by first | rfl | trivial, ⟨rfl, rfl, rfl, rfl, rfl, rfl⟩, HS.out, HX2.out, HE.out⟩, by first | (simp [intOf]; done) | (simp [intOf]; omega)⟩
 ·obtain rfl : k = n + 1 := by omega
  have h1 : ¬ (((n + 1 : Nat) : Int) ≤ (n : Int)) := by omega
  obtain rfl := HNN.out
  rw [u64V_congr (g := rowM (relP ws (.node 0 pl mi nt mn mx l))) (fun a ha => by rw [if_pos ha, HREL.out])] at hO
  have hO2 := own_base (base' := w.heap.size) hO (by have := HB.out; omega)
  have HO := Lib.hid hO2
  clear hO hO2
  go_wp2
  go_ret
  exact ⟨_, rfl, HO.out, hE⟩

theorem table_2 (pl mi : Nat) (nt : Bool) (mn mx : Int) (l : List Pat) : TableOk (.node 2 pl mi nt mn mx l) := by
 intro K w cs v ws hp hv hn hall
 have hE1 : ∀ V : World, Ext w V → PatAt K V (.node 2 pl mi nt mn mx l) cs := fun V hE => hp.ext hE
 unfold PatAt at hp
 obtain ⟨ao, cap, rfl, hpl, hmi, hlc, hcm, hl⟩ := hp
 obtain ⟨bo, bcap, rfl, hbm⟩ := hv.slice
 rw [allN_eq] at hall
 obtain ⟨hnode, hkids0⟩ := hall
 have hkids : allNs l := hkids0
 rw [allNs_iff] at hkids
 clear hkids0
 have hrel := relP_node ws 2 pl mi nt mn mx l
 rw [if_neg (by decide), if_pos rfl] at hrel
 unfold patCells
 obtain ⟨N, hN⟩ : ∃ N, l.length = N := ⟨_, rfl⟩
 obtain ⟨n, hnn⟩ : ∃ n, ws.length = n := ⟨_, rfl⟩
 have HNN := Lib.hid hnn; have HN := Lib.hid hN; have HV := Lib.hid hv; have HL := Lib.hid hl; have HKID := Lib.hid hkids; have HREL := Lib.hid hrel; have HNODE := Lib.hid hnode
 have hlm : N ≤ maxLen := by rw [← hN]; exact Nat.le_trans hlc hcm
 have hbn : n ≤ 32 := by rw [← hnn]; exact hn
 unfold maxLen at hlm hbm
 show Calls Tryz.prog 129 #[.agg #[.int .i64 2, .int .u32 (pl : Int), .int .u32 (mi : Int), .bool nt, .int .i64 mn, .int .i64 mx, .slice ao l.length cap], .slice bo ws.length bcap] w _
 rw [hN, hnn]
 clear hv hl hkids hrel hnode hlc hcm hN hnn hn hbm hE1
 go_enter Tryz.func129, Tryz.ntmps129
 go_wp2_with (at_make; refine make_row1 rfl (.tmp 17) (.tmp 17) 129 rfl (w.heap.size + 1) 118 _ 8 Tryz.underlying129 Tryz.infoU rfl .i64 .i64 _ _ (n + 1) rfl rfl (by first | rfl | omega | simp) (by first | rfl | omega | simp) ?c1 ?c2 (by simp) ?_)
 case c1 => omega
 case c2 => unfold maxLen; omega
 intro w1 hO hE1
 obtain ⟨B, hB⟩ : ∃ r, w.heap.size = r := ⟨_, rfl⟩
 have hx1 : w1.heap[w.heap.size]? = some (.cells #[.int .i64 2, .int .u32 (pl : Int), .int .u32 (mi : Int), .bool nt, .int .i64 mn, .int .i64 mx, .slice ao N cap] 27 (0, 0)) := hE1.keep (new_at rfl)
 have hE01 : Ext w w1 := Turn.trans ((Turn.refl _ w).alloc _) hE1
 rw [hB] at hO hx1 ⊢
 rw [u64V_zero, show u64V (n + 1) (fun _ => 0) = u64V (n + 1) (fun a => if a < 0 then rowM (edgeB 0) a else 0) from u64V_congr fun a _ => by simp] at hO
 have HB := Lib.hid hB
 have HX := Lib.hid hx1
 clear hB hx1 hE1
 go_wp2
 refine wp_loop (fun a W => ∃ (k : Nat), k ≤ n + 1 ∧ a.defers = [] ∧ (a.tmps.size = 153 ∧ a.tmps.getD 1 undef = .slice bo n bcap ∧ a.tmps.getD 2 undef = .pointer (some ⟨B, 0, none⟩) ∧ a.tmps.getD 5 undef = .int .i64 n ∧ a.tmps.getD 6 undef = .slice (some ⟨B + 1, 0, none⟩) (n + 1) (n + 1) ∧ a.tmps.getD 7 undef = .int .i64 k) ∧ W.ownsRow (B + 1) 118 1 (.slice (some ⟨B + 1, 0, none⟩) (n + 1) (n + 1)) (n + 1) (u64V (n + 1) (fun a => if a < k then rowM (edgeB 0) a else 0)) ∧ W.heap[B]? = some (.cells #[.int .i64 2, .int .u32 (pl : Int), .int .u32 (mi : Int), .bool nt, .int .i64 mn, .int .i64 mx, .slice ao N cap] 27 (0, 0)) ∧ Ext w W)
  (fun a _ => n + 1 - (intOf (a.tmps.getD 7 undef)).toNat) ?_ ?_
 ·exact ⟨0, by omega, rfl, ⟨rfl, rfl, rfl, rfl, rfl, rfl⟩, hO, HX.out, hE01⟩
 clear hO hE01 HX
 rintro ⟨t, _⟩ W ⟨k, hk, hds, ⟨hsz, f1, f2, f5, f6, f7⟩, hO, hx, hE⟩
 subst hds
 obtain ⟨u', hu⟩ := frame_fun hsz
 obtain ⟨u, rfl⟩ : ∃ x, x = u' := ⟨_, rfl⟩
 have hu' : t = #[u 0, u 1, u 2, u 3, u 4, u 5, u 6, u 7, u 8, u 9, u 10, u 11, u 12, u 13, u 14, u 15, u 16, u 17, u 18, u 19, u 20, u 21, u 22, u 23, u 24, u 25, u 26, u 27, u 28, u 29, u 30, u 31, u 32, u 33, u 34, u 35, u 36, u 37, u 38, u 39, u 40, u 41, u 42, u 43, u 44, u 45, u 46, u 47, u 48, u 49, u 50, u 51, u 52, u 53, u 54, u 55, u 56, u 57, u 58, u 59, u 60, u 61, u 62, u 63, u 64, u 65, u 66, u 67, u 68, u 69, u 70, u 71, u 72, u 73, u 74, u 75, u 76, u 77, u 78, u 79, u 80, u 81, u 82, u 83, u 84, u 85, u 86, u 87, u 88, u 89, u 90, u 91, u 92, u 93, u 94, u 95, u 96, u 97, u 98, u 99, u 100, u 101, u 102, u 103, u 104, u 105, u 106, u 107, u 108, u 109, u 110, u 111, u 112, u 113, u 114, u 115, u 116, u 117, u 118, u 119, u 120, u 121, u 122, u 123, u 124, u 125, u 126, u 127, u 128, u 129, u 130, u 131, u 132, u 133, u 134, u 135, u 136, u 137, u 138, u 139, u 140, u 141, u 142, u 143, u 144, u 145, u 146, u 147, u 148, u 149, u 150, u 151, u 152] := hu
 clear hu
 subst hu'
 change u 1 = _ at f1
 change u 2 = _ at f2
 change u 5 = _ at f5
 change u 6 = _ at f6
 change u 7 = _ at f7
 rw [f1, f2, f5, f6, f7]
 clear f1 f2 f5 f6 f7 hsz
 have cX := fun j => cell_of_row _ _ j _ _ _ hx
 by_cases hkn : k < n + 1
 ·have h1 : (k : Int) ≤ (n : Int) := by omega
  have h2 : (k : Int) < (n : Int) + 1 := by omega
  have h3 : (k : Int) < 64 := by omega
  by_cases hk0 : k = 0
  ·have g0 : ((k : Int) == 0) = true := by rw [beq_iff_eq]; omega
   have hval : rowM (edgeB 0) k = 1 := by rw [hk0]; exact rowM_one (b := 0) (by omega) (fun c _ => by simp [edgeB])
   have hs := own_store hO k (.int .u64 ((1 : Nat) : Int))
   rw [u64V_set, u64V_congr (g := fun a => if a < k + 1 then rowM (edgeB 0) a else 0) (fun i _ => by
    unfold updN
    by_cases e : i = k
    ·rw [if_pos e, if_pos (by omega), e, hval]
    ·rw [if_neg e]
     show (if i < k then rowM (edgeB 0) i else 0) = _
     by_cases h : i < k
     ·rw [if_pos h, if_pos (by omega)]
     ·rw [if_neg h, if_neg (by omega)])] at hs
   have c1 : W.cell? ⟨B + 1, k, none⟩ = some (.int .u64 ((if k < k then rowM (edgeB 0) k else 0 : Nat) : Int)) := by rw [hO.cellAt k (by omega), u64V_get _ hkn]
   rw [if_neg (Nat.lt_irrefl k)] at c1
   have c2 : W.frozen? ⟨B + 1, k, none⟩ = false := hO.frozenAt k
   have hE2 : Ext w (W.setCell ⟨B + 1, k, none⟩ (.int .u64 ((1 : Nat) : Int))) := hE.setCell (p := ⟨B + 1, k, none⟩) (.inl (show w.heap.size ≤ B + 1 by have := HB.out; omega)) _
   have hx2 : (W.setCell ⟨B + 1, k, none⟩ (.int .u64 ((1 : Nat) : Int))).heap[B]? = some (.cells #[.int .i64 2, .int .u32 (pl : Int), .int .u32 (mi : Int), .bool nt, .int .i64 mn, .int .i64 mx, .slice ao N cap] 27 (0, 0)) := set_keep hx (by simp)
   have HS := Lib.hid hs; have HE := Lib.hid hE2; have HX2 := Lib.hid hx2
   clear hs hE2 hx2 hO hE hx hval
   clear hk0
   go_wp2
   exact ⟨⟨k + 1, by omega, by first | rfl | trivial, ⟨rfl, rfl, rfl, rfl, rfl, rfl⟩, HS.out, HX2.out, HE.out⟩, by first | (simp [intOf]; done) | (simp [intOf]; omega)⟩
  ·have g0 : ((k : Int) == 0) = false := by rw [beq_eq_false_iff_ne]; omega
   have hval : rowM (edgeB 0) k = 0 := rowM_none fun c _ => by simp [edgeB, hk0]
   rw [u64V_congr (g := fun a => if a < k + 1 then rowM (edgeB 0) a else 0) (fun i _ => by
    by_cases e : i = k
    ·rw [if_neg (by omega), if_pos (by omega), e, hval]
    ·by_cases h : i < k
     ·rw [if_pos h, if_pos (by omega)]
     ·rw [if_neg h, if_neg (by omega)])] at hO
   have HO := Lib.hid hO
   clear hO hval
   clear hk0
   go_wp2
   exact ⟨⟨k + 1, by omega, by first | rfl | trivial, ⟨rfl, rfl, rfl, rfl, rfl, rfl⟩, HO.out, hx, hE⟩, by first | (simp [intOf]; done) | (simp [intOf]; omega)⟩
 ·obtain rfl : k = n + 1 := by omega
  have h1 : ¬ (((n + 1 : Nat) : Int) ≤ (n : Int)) := by omega
  obtain rfl := HNN.out
  rw [u64V_congr (g := rowM (relP ws (.node 2 pl mi nt mn mx l))) (fun a ha => by rw [if_pos ha, HREL.out])] at hO
  have hO2 := own_base (base' := w.heap.size) hO (by have := HB.out; omega)
  have HO := Lib.hid hO2
  clear hO hO2
  go_wp2
  go_ret
  exact ⟨_, rfl, HO.out, hE⟩

theorem table_6 (pl mi : Nat) (nt : Bool) (mn mx : Int) (l : List Pat) : TableOk (.node 6 pl mi nt mn mx l) := by
 intro K w cs v ws hp hv hn hall
 have hE1 : ∀ V : World, Ext w V → PatAt K V (.node 6 pl mi nt mn mx l) cs := fun V hE => hp.ext hE
 unfold PatAt at hp
 obtain ⟨ao, cap, rfl, hpl, hmi, hlc, hcm, hl⟩ := hp
 obtain ⟨bo, bcap, rfl, hbm⟩ := hv.slice
 rw [allN_eq] at hall
 obtain ⟨hnode, hkids0⟩ := hall
 have hkids : allNs l := hkids0
 rw [allNs_iff] at hkids
 clear hkids0
 have hrel := relP_node ws 6 pl mi nt mn mx l
 rw [if_neg (by decide), if_neg (by decide), if_pos rfl] at hrel
 unfold patCells
 obtain ⟨N, hN⟩ : ∃ N, l.length = N := ⟨_, rfl⟩
 obtain ⟨n, hnn⟩ : ∃ n, ws.length = n := ⟨_, rfl⟩
 have HNN := Lib.hid hnn; have HN := Lib.hid hN; have HV := Lib.hid hv; have HL := Lib.hid hl; have HKID := Lib.hid hkids; have HREL := Lib.hid hrel; have HNODE := Lib.hid hnode
 have hlm : N ≤ maxLen := by rw [← hN]; exact Nat.le_trans hlc hcm
 have hbn : n ≤ 32 := by rw [← hnn]; exact hn
 unfold maxLen at hlm hbm
 show Calls Tryz.prog 129 #[.agg #[.int .i64 6, .int .u32 (pl : Int), .int .u32 (mi : Int), .bool nt, .int .i64 mn, .int .i64 mx, .slice ao l.length cap], .slice bo ws.length bcap] w _
 rw [hN, hnn]
 clear hv hl hkids hrel hnode hlc hcm hN hnn hn hbm hE1
 go_enter Tryz.func129, Tryz.ntmps129
 go_wp2_with (at_make; refine make_row1 rfl (.tmp 17) (.tmp 17) 129 rfl (w.heap.size + 1) 118 _ 8 Tryz.underlying129 Tryz.infoU rfl .i64 .i64 _ _ (n + 1) rfl rfl (by first | rfl | omega | simp) (by first | rfl | omega | simp) ?c1 ?c2 (by simp) ?_)
 case c1 => omega
 case c2 => unfold maxLen; omega
 intro w1 hO hE1
 obtain ⟨B, hB⟩ : ∃ r, w.heap.size = r := ⟨_, rfl⟩
 have hx1 : w1.heap[w.heap.size]? = some (.cells #[.int .i64 6, .int .u32 (pl : Int), .int .u32 (mi : Int), .bool nt, .int .i64 mn, .int .i64 mx, .slice ao N cap] 27 (0, 0)) := hE1.keep (new_at rfl)
 have hE01 : Ext w w1 := Turn.trans ((Turn.refl _ w).alloc _) hE1
 rw [hB] at hO hx1 ⊢
 rw [u64V_zero, show u64V (n + 1) (fun _ => 0) = u64V (n + 1) (fun a => if a < 0 then rowM (edgeB n) a else 0) from u64V_congr fun a _ => by simp] at hO
 have HB := Lib.hid hB
 have HX := Lib.hid hx1
 clear hB hx1 hE1
 go_wp2
 refine wp_loop (fun a W => ∃ (k : Nat), k ≤ n + 1 ∧ a.defers = [] ∧ (a.tmps.size = 153 ∧ a.tmps.getD 1 undef = .slice bo n bcap ∧ a.tmps.getD 2 undef = .pointer (some ⟨B, 0, none⟩) ∧ a.tmps.getD 5 undef = .int .i64 n ∧ a.tmps.getD 6 undef = .slice (some ⟨B + 1, 0, none⟩) (n + 1) (n + 1) ∧ a.tmps.getD 7 undef = .int .i64 k) ∧ W.ownsRow (B + 1) 118 1 (.slice (some ⟨B + 1, 0, none⟩) (n + 1) (n + 1)) (n + 1) (u64V (n + 1) (fun a => if a < k then rowM (edgeB n) a else 0)) ∧ W.heap[B]? = some (.cells #[.int .i64 6, .int .u32 (pl : Int), .int .u32 (mi : Int), .bool nt, .int .i64 mn, .int .i64 mx, .slice ao N cap] 27 (0, 0)) ∧ Ext w W)
  (fun a _ => n + 1 - (intOf (a.tmps.getD 7 undef)).toNat) ?_ ?_
 ·exact ⟨0, by omega, rfl, ⟨rfl, rfl, rfl, rfl, rfl, rfl⟩, hO, HX.out, hE01⟩
 clear hO hE01 HX
 rintro ⟨t, _⟩ W ⟨k, hk, hds, ⟨hsz, f1, f2, f5, f6, f7⟩, hO, hx, hE⟩
 subst hds
 obtain ⟨u', hu⟩ := frame_fun hsz
 obtain ⟨u, rfl⟩ : ∃ x, x = u' := ⟨_, rfl⟩
 have hu' : t = #[u 0, u 1, u 2, u 3, u 4, u 5, u 6, u 7, u 8, u 9, u 10, u 11, u 12, u 13, u 14, u 15, u 16, u 17, u 18, u 19, u 20, u 21, u 22, u 23, u 24, u 25, u 26, u 27, u 28, u 29, u 30, u 31, u 32, u 33, u 34, u 35, u 36, u 37, u 38, u 39, u 40, u 41, u 42, u 43, u 44, u 45, u 46, u 47, u 48, u 49, u 50, u 51, u 52, u 53, u 54, u 55, u 56, u 57, u 58, u 59, u 60, u 61, u 62, u 63, u 64, u 65, u 66, u 67, u 68, u 69, u 70, u 71, u 72, u 73, u 74, u 75, u 76, u 77, u 78, u 79, u 80, u 81, u 82, u 83, u 84, u 85, u 86, u 87, u 88, u 89, u 90, u 91, u 92, u 93, u 94, u 95, u 96, u 97, u 98, u 99, u 100, u 101, u 102, u 103, u 104, u 105, u 106, u 107, u 108, u 109, u 110, u 111, u 112, u 113, u 114, u 115, u 116, u 117, u 118, u 119, u 120, u 121, u 122, u 123, u 124, u 125, u 126, u 127, u 128, u 129, u 130, u 131, u 132, u 133, u 134, u 135, u 136, u 137, u 138, u 139, u 140, u 141, u 142, u 143, u 144, u 145, u 146, u 147, u 148, u 149, u 150, u 151, u 152] := hu
 clear hu
 subst hu'
 change u 1 = _ at f1
 change u 2 = _ at f2
 change u 5 = _ at f5
 change u 6 = _ at f6
 change u 7 = _ at f7
 rw [f1, f2, f5, f6, f7]
 clear f1 f2 f5 f6 f7 hsz
 have cX := fun j => cell_of_row _ _ j _ _ _ hx
 by_cases hkn : k < n + 1
 ·have h1 : (k : Int) ≤ (n : Int) := by omega
  have h2 : (k : Int) < (n : Int) + 1 := by omega
  have h3 : (k : Int) < 64 := by omega
  by_cases hk0 : k = n
  ·subst hk0
   have hw := pow_u64 (k := k) (by omega)
   have g0 : ((k : Int) == (k : Int)) = true := by simp
   have hval : rowM (edgeB k) k = 2 ^ k := rowM_one (b := k) (by omega) (fun c _ => by simp [edgeB])
   have hs := own_store hO k (.int .u64 ((2 ^ k : Nat) : Int))
   rw [u64V_set, u64V_congr (g := fun a => if a < k + 1 then rowM (edgeB k) a else 0) (fun i _ => by
    unfold updN
    by_cases e : i = k
    ·rw [if_pos e, if_pos (by omega), e, hval]
    ·rw [if_neg e]
     show (if i < k then rowM (edgeB k) i else 0) = _
     by_cases h : i < k
     ·rw [if_pos h, if_pos (by omega)]
     ·rw [if_neg h, if_neg (by omega)])] at hs
   have c1 : W.cell? ⟨B + 1, k, none⟩ = some (.int .u64 ((if k < k then rowM (edgeB k) k else 0 : Nat) : Int)) := by rw [hO.cellAt k (by omega), u64V_get _ hkn]
   rw [if_neg (Nat.lt_irrefl k)] at c1
   have c2 : W.frozen? ⟨B + 1, k, none⟩ = false := hO.frozenAt k
   have hE2 : Ext w (W.setCell ⟨B + 1, k, none⟩ (.int .u64 ((2 ^ k : Nat) : Int))) := hE.setCell (p := ⟨B + 1, k, none⟩) (.inl (show w.heap.size ≤ B + 1 by have := HB.out; omega)) _
   have hx2 : (W.setCell ⟨B + 1, k, none⟩ (.int .u64 ((2 ^ k : Nat) : Int))).heap[B]? = some (.cells #[.int .i64 6, .int .u32 (pl : Int), .int .u32 (mi : Int), .bool nt, .int .i64 mn, .int .i64 mx, .slice ao N cap] 27 (0, 0)) := set_keep hx (by simp)
   have HS := Lib.hid hs; have HE := Lib.hid hE2; have HX2 := Lib.hid hx2
   clear hs hE2 hx2 hO hE hx hval
   go_wp2
   exact ⟨⟨k + 1, by omega, by first | rfl | trivial, ⟨rfl, rfl, rfl, rfl, rfl, rfl⟩, HS.out, HX2.out, HE.out⟩, by first | (simp [intOf]; done) | (simp [intOf]; omega)⟩
  ·have g0 : ((k : Int) == (n : Int)) = false := by rw [beq_eq_false_iff_ne]; omega
   have hval : rowM (edgeB n) k = 0 := rowM_none fun c _ => by simp [edgeB, hk0]
   rw [u64V_congr (g := fun a => if a < k + 1 then rowM (edgeB n) a else 0) (fun i _ => by
    by_cases e : i = k
    ·rw [if_neg (by omega), if_pos (by omega), e, hval]
    ·by_cases h : i < k
     ·rw [if_pos h, if_pos (by omega)]
     ·rw [if_neg h, if_neg (by omega)])] at hO
   have HO := Lib.hid hO
   clear hO hval
   clear hk0
   go_wp2
   exact ⟨⟨k + 1, by omega, by first | rfl | trivial, ⟨rfl, rfl, rfl, rfl, rfl, rfl⟩, HO.out, hx, hE⟩, by first | (simp [intOf]; done) | (simp [intOf]; omega)⟩
 ·obtain rfl : k = n + 1 := by omega
  have h1 : ¬ (((n + 1 : Nat) : Int) ≤ (n : Int)) := by omega
  obtain rfl := HNN.out
  rw [u64V_congr (g := rowM (relP ws (.node 6 pl mi nt mn mx l))) (fun a ha => by rw [if_pos ha, HREL.out])] at hO
  have hO2 := own_base (base' := w.heap.size) hO (by have := HB.out; omega)
  have HO := Lib.hid hO2
  clear hO hO2
  go_wp2
  go_ret
  exact ⟨_, rfl, HO.out, hE⟩

theorem table_1 (pl mi : Nat) (nt : Bool) (mn mx : Int) (l : List Pat) : TableOk (.node 1 pl mi nt mn mx l) := by
 intro K w cs v ws hp hv hn hall
 have hE1 : ∀ V : World, Ext w V → PatAt K V (.node 1 pl mi nt mn mx l) cs := fun V hE => hp.ext hE
 unfold PatAt at hp
 obtain ⟨ao, cap, rfl, hpl, hmi, hlc, hcm, hl⟩ := hp
 obtain ⟨bo, bcap, rfl, hbm⟩ := hv.slice
 rw [allN_eq] at hall
 obtain ⟨hnode, hkids0⟩ := hall
 have hkids : allNs l := hkids0
 rw [allNs_iff] at hkids
 clear hkids0
 have hrel := relP_node ws 1 pl mi nt mn mx l
 rw [if_pos rfl] at hrel
 unfold patCells
 obtain ⟨N, hN⟩ : ∃ N, l.length = N := ⟨_, rfl⟩
 obtain ⟨n, hnn⟩ : ∃ n, ws.length = n := ⟨_, rfl⟩
 have HNN := Lib.hid hnn; have HN := Lib.hid hN; have HV := Lib.hid hv; have HL := Lib.hid hl; have HKID := Lib.hid hkids; have HREL := Lib.hid hrel; have HNODE := Lib.hid hnode
 have hlm : N ≤ maxLen := by rw [← hN]; exact Nat.le_trans hlc hcm
 have hbn : n ≤ 32 := by rw [← hnn]; exact hn
 unfold maxLen at hlm hbm
 show Calls Tryz.prog 129 #[.agg #[.int .i64 1, .int .u32 (pl : Int), .int .u32 (mi : Int), .bool nt, .int .i64 mn, .int .i64 mx, .slice ao l.length cap], .slice bo ws.length bcap] w _
 rw [hN, hnn]
 clear hv hl hkids hrel hnode hlc hcm hN hnn hn hbm hE1
 go_enter Tryz.func129, Tryz.ntmps129
 go_wp2_with (at_make; refine make_row1 rfl (.tmp 17) (.tmp 17) 129 rfl (w.heap.size + 1) 118 _ 8 Tryz.underlying129 Tryz.infoU rfl .i64 .i64 _ _ (n + 1) rfl rfl (by first | rfl | omega | simp) (by first | rfl | omega | simp) ?c1 ?c2 (by simp) ?_)
 case c1 => omega
 case c2 => unfold maxLen; omega
 intro w1 hO hE1
 obtain ⟨B, hB⟩ : ∃ r, w.heap.size = r := ⟨_, rfl⟩
 have hx1 : w1.heap[w.heap.size]? = some (.cells #[.int .i64 1, .int .u32 (pl : Int), .int .u32 (mi : Int), .bool nt, .int .i64 mn, .int .i64 mx, .slice ao N cap] 27 (0, 0)) := hE1.keep (new_at rfl)
 have hE01 : Ext w w1 := Turn.trans ((Turn.refl _ w).alloc _) hE1
 rw [hB] at hO hx1 ⊢
 rw [u64V_zero, show u64V (n + 1) (fun _ => 0) = u64V (n + 1) (fun a => if a < 0 then rowM (soundB ws (pl, mi) nt) a else 0) from u64V_congr fun a _ => by simp] at hO
 have HB := Lib.hid hB
 have HX := Lib.hid hx1
 clear hB hx1 hE1
 go_wp2
 refine wp_loop (fun a W => ∃ (k : Nat), k ≤ n + 1 ∧ a.defers = [] ∧ (a.tmps.size = 153 ∧ a.tmps.getD 1 undef = .slice bo n bcap ∧ a.tmps.getD 2 undef = .pointer (some ⟨B, 0, none⟩) ∧ a.tmps.getD 5 undef = .int .i64 n ∧ a.tmps.getD 6 undef = .slice (some ⟨B + 1, 0, none⟩) (n + 1) (n + 1) ∧ a.tmps.getD 7 undef = .int .i64 k) ∧ W.ownsRow (B + 1) 118 1 (.slice (some ⟨B + 1, 0, none⟩) (n + 1) (n + 1)) (n + 1) (u64V (n + 1) (fun a => if a < k then rowM (soundB ws (pl, mi) nt) a else 0)) ∧ W.heap[B]? = some (.cells #[.int .i64 1, .int .u32 (pl : Int), .int .u32 (mi : Int), .bool nt, .int .i64 mn, .int .i64 mx, .slice ao N cap] 27 (0, 0)) ∧ Ext w W)
  (fun a _ => n + 1 - (intOf (a.tmps.getD 7 undef)).toNat) ?_ ?_
 ·exact ⟨0, by omega, rfl, ⟨rfl, rfl, rfl, rfl, rfl, rfl⟩, hO, HX.out, hE01⟩
 clear hO hE01 HX
 rintro ⟨t, _⟩ W ⟨k, hk, hds, ⟨hsz, f1, f2, f5, f6, f7⟩, hO, hx, hE⟩
 subst hds
 obtain ⟨u', hu⟩ := frame_fun hsz
 obtain ⟨u, rfl⟩ : ∃ x, x = u' := ⟨_, rfl⟩
 have hu' : t = #[u 0, u 1, u 2, u 3, u 4, u 5, u 6, u 7, u 8, u 9, u 10, u 11, u 12, u 13, u 14, u 15, u 16, u 17, u 18, u 19, u 20, u 21, u 22, u 23, u 24, u 25, u 26, u 27, u 28, u 29, u 30, u 31, u 32, u 33, u 34, u 35, u 36, u 37, u 38, u 39, u 40, u 41, u 42, u 43, u 44, u 45, u 46, u 47, u 48, u 49, u 50, u 51, u 52, u 53, u 54, u 55, u 56, u 57, u 58, u 59, u 60, u 61, u 62, u 63, u 64, u 65, u 66, u 67, u 68, u 69, u 70, u 71, u 72, u 73, u 74, u 75, u 76, u 77, u 78, u 79, u 80, u 81, u 82, u 83, u 84, u 85, u 86, u 87, u 88, u 89, u 90, u 91, u 92, u 93, u 94, u 95, u 96, u 97, u 98, u 99, u 100, u 101, u 102, u 103, u 104, u 105, u 106, u 107, u 108, u 109, u 110, u 111, u 112, u 113, u 114, u 115, u 116, u 117, u 118, u 119, u 120, u 121, u 122, u 123, u 124, u 125, u 126, u 127, u 128, u 129, u 130, u 131, u 132, u 133, u 134, u 135, u 136, u 137, u 138, u 139, u 140, u 141, u 142, u 143, u 144, u 145, u 146, u 147, u 148, u 149, u 150, u 151, u 152] := hu
 clear hu
 subst hu'
 change u 1 = _ at f1
 change u 2 = _ at f2
 change u 5 = _ at f5
 change u 6 = _ at f6
 change u 7 = _ at f7
 rw [f1, f2, f5, f6, f7]
 clear f1 f2 f5 f6 f7 hsz
 have cX := fun j => cell_of_row _ _ j _ _ _ hx
 by_cases hkn : k < n + 1
 ·have h1 : (k : Int) ≤ (n : Int) := by omega
  have h2 : (k : Int) < (n : Int) + 1 := by omega
  have h3 : (k : Int) < 64 := by omega
  by_cases hlt : k < n
  ·have g1 : (k : Int) < (n : Int) := by omega
   have hkl : k < ws.length := by rw [HNN.out]; exact hlt
   obtain ⟨g, off, cap', he, hg, d1, d2⟩ := (HV.out.ext hE).at hkl
   have he2 := he
   simp only [Value.slice.injEq] at he2
   obtain ⟨hbo, hq0, hcap⟩ := he2
   clear hq0
   subst hbo
   subst hcap
   clear he
   obtain ⟨hs1, hs2⟩ := HV.out.2.get k hkl
   obtain ⟨a, ha⟩ : ∃ a, (ws.getD k (0, 0)).1 = a := ⟨_, rfl⟩
   obtain ⟨b, hb⟩ : ∃ b, (ws.getD k (0, 0)).2 = b := ⟨_, rfl⟩
   rw [ha] at d1 hs1
   rw [hb] at d2 hs2
   have hsat := fun (V : World) => sat_any (s := (a, b)) (c := (pl, mi)) hs1 hs2 hpl hmi V
   have hab : ws.getD k (0, 0) = (a, b) := by rw [← ha, ← hb]
   obtain ⟨q, hq⟩ : ∃ q, sat (a, b) (pl, mi) = q := ⟨_, rfl⟩
   rw [hq] at hsat
   have hrow : ∀ c, soundB ws (pl, mi) nt k c = (c == k + 1 && (q != nt)) := by
    intro c
    unfold soundB
    rw [hab, hq, decide_eq_true hkl, Bool.and_true]
   have HROW := Lib.hid hrow; have HSAT := Lib.hid hsat
   have hcs : ∀ (D : World), Ext W D → D.cell? ⟨g, off + k * 2, none⟩ = some (.int .u32 (a : Int)) ∧ D.cell? ⟨g, off + k * 2 + 1, none⟩ = some (.int .u32 (b : Int)) ∧ D.cell? ⟨B, 1, none⟩ = some (.int .u32 (pl : Int)) ∧ D.cell? ⟨B, 2, none⟩ = some (.int .u32 (mi : Int)) ∧ D.cell? ⟨B, 3, none⟩ = some (.bool nt) := fun D hD => ⟨hD.cell_some d1 id, hD.cell_some d2 id, by have := hD.keep hx; simp [World.cell?, this], by have := hD.keep hx; simp [World.cell?, this], by have := hD.keep hx; simp [World.cell?, this]⟩
   have HS0 := Lib.hid hcs
   have HOW := Lib.hid hO; have HXW := Lib.hid hx
   have c0 : W.cell? ⟨B, 0, none⟩ = some (.int .i64 1) := by simp [World.cell?, hx]
   clear hrow hsat hab hq ha hb d1 d2 hcs cX hO hx
   go_wp2
   clear c0
   refine wp_region_held_drew (S := fun D => D.cell? ⟨g, off + k * 2, none⟩ = some (.int .u32 (a : Int)) ∧ D.cell? ⟨g, off + k * 2 + 1, none⟩ = some (.int .u32 (b : Int)) ∧ D.cell? ⟨B, 1, none⟩ = some (.int .u32 (pl : Int)) ∧ D.cell? ⟨B, 2, none⟩ = some (.int .u32 (mi : Int)) ∧ D.cell? ⟨B, 3, none⟩ = some (.bool nt)) (by kernel_rfl) (HS0.out _ (Turn.drew (Turn.refl _ W))) ?_
   intro hS0
   refine tkH (i := 0) (d := 35) (v := ?_) rfl (Or.inl ⟨by rfl, ?_⟩) hS0 ?_
   rotate_left
   ·intro w hSw; (try dsimp only at hSw); go_simp; try with_reducible rfl
   try simp only [Act.put, pq]
   refine tkH (i := 1) (d := 36) (v := ?_) rfl (Or.inl ⟨by rfl, ?_⟩) hS0 ?_
   rotate_left
   ·intro w hSw; (try dsimp only at hSw); go_simp; try with_reducible rfl
   try simp only [Act.put, pq]
   refine tkH (i := 2) (d := 37) (v := ?_) rfl (Or.inl ⟨by rfl, ?_⟩) hS0 ?_
   rotate_left
   ·intro w hSw; (try dsimp only at hSw); go_simp; try with_reducible rfl
   try simp only [Act.put, pq]
   refine tkH (i := 3) (d := 38) (v := ?_) rfl (Or.inl ⟨by rfl, ?_⟩) hS0 ?_
   rotate_left
   ·intro w hSw; (try dsimp only at hSw); go_simp; try with_reducible rfl
   try simp only [Act.put, pq]
   refine tkH (i := 4) (d := 39) (v := ?_) rfl (Or.inl ⟨by rfl, ?_⟩) hS0 ?_
   rotate_left
   ·intro w hSw; (try dsimp only at hSw); go_simp; try with_reducible rfl
   try simp only [Act.put, pq]
   refine tkH (i := 5) (d := 40) (v := ?_) rfl (Or.inl ⟨by rfl, ?_⟩) hS0 ?_
   rotate_left
   ·intro w hSw; (try dsimp only at hSw); go_simp; try with_reducible rfl
   try simp only [Act.put, pq]
   refine tkH (i := 6) (d := 41) (v := ?_) rfl (Or.inl ⟨by rfl, ?_⟩) hS0 ?_
   rotate_left
   ·intro w hSw; (try dsimp only at hSw); go_simp; try with_reducible rfl
   try simp only [Act.put, pq]
   refine tkH (i := 7) (d := 42) (v := ?_) rfl (Or.inl ⟨by rfl, ?_⟩) hS0 ?_
   rotate_left
   ·intro w hSw; (try dsimp only at hSw); go_simp; try with_reducible rfl
   try simp only [Act.put, pq]
   refine tkH (i := 8) (d := 43) (v := ?_) rfl (Or.inl ⟨by rfl, ?_⟩) hS0 ?_
   rotate_left
   ·intro w hSw; (try dsimp only at hSw); go_simp; try with_reducible rfl
   try simp only [Act.put, pq]
   refine tkH (i := 9) (d := 44) (v := ?_) rfl (Or.inl ⟨by rfl, ?_⟩) hS0 ?_
   rotate_left
   ·intro w hSw; (try dsimp only at hSw); go_simp; try with_reducible rfl
   try simp only [Act.put, pq]
   refine tkH (i := 11) (d := 46) (v := ?_) rfl (Or.inl ⟨by rfl, ?_⟩) hS0 ?_
   rotate_left
   ·intro w hSw; (try dsimp only at hSw); go_simp; try with_reducible rfl
   try simp only [Act.put, pq]
   refine tkH (i := 12) (d := 47) (v := ?_) rfl (Or.inl ⟨by rfl, ?_⟩) hS0 ?_
   rotate_left
   ·intro w hSw; (try dsimp only at hSw); go_simp; try with_reducible rfl
   try simp only [Act.put, pq]
   refine wpAnyH_ready (rs := [10]) (by kernel_rfl) (by simp) ?_
   refine AllReadyH.cons rfl (fun K hK => ?_) AllReadyH.nil
   (try rw [if_pos (show Region.wanted _ _ = true from rfl)])
   go_simp
   refine (HSAT.out _).mono ?_
   rintro e V1 ⟨rfl, hN⟩
   have hV1 : Ext W V1 := Turn.trans (Turn.drew (Turn.refl _ W)) hN
   clear hN
   refine hK.out _ _ (HS0.out _ hV1) (fun hS1 => ?_)
   clear hK K
   refine tkH (i := 13) (d := 48) (v := ?_) rfl (Or.inl ⟨by rfl, ?_⟩) hS1 ?_
   rotate_left
   ·intro w hSw; (try dsimp only at hSw); go_simp; try with_reducible rfl
   try simp only [Act.put, pq]
   refine tkH (i := 14) (d := 49) (v := ?_) rfl (Or.inl ⟨by rfl, ?_⟩) hS1 ?_
   rotate_left
   ·intro w hSw; (try dsimp only at hSw); go_simp; try with_reducible rfl
   try simp only [Act.put, pq]
   refine wpAnyH_done (by kernel_rfl) ?_ _
   have hO := own_ext HOW.out hV1
   have hx := hV1.keep HXW.out
   have hE := hE.trans hV1
   clear hS0 hS1 hV1 HS0 HOW HXW
   have cX := fun j => cell_of_row _ _ j _ _ _ hx
   cases q
   ·cases nt
    ·have hval : ∀ c, c < 33 → soundB ws (pl, mi) false k c = false := fun c _ => by rw [HROW.out c]; cases (c == k + 1) <;> rfl
     have hval2 : rowM (soundB ws (pl, mi) false) k = 0 := rowM_none hval
     rw [u64V_congr (g := fun a => if a < k + 1 then rowM (soundB ws (pl, mi) false) a else 0) (fun i _ => by
      by_cases e : i = k
      ·rw [if_neg (by omega), if_pos (by omega), e, hval2]
      ·by_cases h : i < k
       ·rw [if_pos h, if_pos (by omega)]
       ·rw [if_neg h, if_neg (by omega)])] at hO
     have HO := Lib.hid hO
     clear hO hval2
     clear hval cX
     go_wp2
     exact ⟨⟨k + 1, by omega, by first | rfl | trivial, ⟨rfl, rfl, rfl, rfl, rfl, rfl⟩, HO.out, hx, hE⟩, by first | (simp [intOf]; done) | (simp [intOf]; omega)⟩
    ·have hval : ∀ c, c < 33 → soundB ws (pl, mi) true k c = (c == k + 1) := fun c _ => by rw [HROW.out c]; cases (c == k + 1) <;> rfl
     have hw := pow_u64 (k := k + 1) (by omega)
     have hw2 : (k : Int) + 1 < 64 := by omega
     have hval2 : rowM (soundB ws (pl, mi) true) k = 2 ^ (k + 1) := rowM_one (b := k + 1) (by omega) hval
     have hs := own_store hO k (.int .u64 ((2 ^ (k + 1) : Nat) : Int))
     rw [u64V_set, u64V_congr (g := fun a => if a < k + 1 then rowM (soundB ws (pl, mi) true) a else 0) (fun i _ => by
      unfold updN
      by_cases e : i = k
      ·rw [if_pos e, if_pos (by omega), e, hval2]
      ·rw [if_neg e]
       show (if i < k then rowM (soundB ws (pl, mi) true) i else 0) = _
       by_cases h : i < k
       ·rw [if_pos h, if_pos (by omega)]
       ·rw [if_neg h, if_neg (by omega)])] at hs
     have c1 : V1.cell? ⟨B + 1, k, none⟩ = some (.int .u64 ((if k < k then rowM (soundB ws (pl, mi) true) k else 0 : Nat) : Int)) := by rw [hO.cellAt k (by omega), u64V_get _ hkn]
     rw [if_neg (Nat.lt_irrefl k)] at c1
     have c2 : V1.frozen? ⟨B + 1, k, none⟩ = false := hO.frozenAt k
     have hE2 : Ext w (V1.setCell ⟨B + 1, k, none⟩ (.int .u64 ((2 ^ (k + 1) : Nat) : Int))) := hE.setCell (p := ⟨B + 1, k, none⟩) (.inl (show w.heap.size ≤ B + 1 by have := HB.out; omega)) _
     have hx2 : (V1.setCell ⟨B + 1, k, none⟩ (.int .u64 ((2 ^ (k + 1) : Nat) : Int))).heap[B]? = some (.cells #[.int .i64 1, .int .u32 (pl : Int), .int .u32 (mi : Int), .bool true, .int .i64 mn, .int .i64 mx, .slice ao N cap] 27 (0, 0)) := set_keep hx (by simp)
     have HS := Lib.hid hs; have HE := Lib.hid hE2; have HX2 := Lib.hid hx2
     clear hs hE2 hx2 hO hE hx hval2
     clear hval
     go_wp2
     exact ⟨⟨k + 1, by omega, by first | rfl | trivial, ⟨rfl, rfl, rfl, rfl, rfl, rfl⟩, HS.out, HX2.out, HE.out⟩, by first | (simp [intOf]; done) | (simp [intOf]; omega)⟩
   ·cases nt
    ·have hval : ∀ c, c < 33 → soundB ws (pl, mi) false k c = (c == k + 1) := fun c _ => by rw [HROW.out c]; cases (c == k + 1) <;> rfl
     have hw := pow_u64 (k := k + 1) (by omega)
     have hw2 : (k : Int) + 1 < 64 := by omega
     have hval2 : rowM (soundB ws (pl, mi) false) k = 2 ^ (k + 1) := rowM_one (b := k + 1) (by omega) hval
     have hs := own_store hO k (.int .u64 ((2 ^ (k + 1) : Nat) : Int))
     rw [u64V_set, u64V_congr (g := fun a => if a < k + 1 then rowM (soundB ws (pl, mi) false) a else 0) (fun i _ => by
      unfold updN
      by_cases e : i = k
      ·rw [if_pos e, if_pos (by omega), e, hval2]
      ·rw [if_neg e]
       show (if i < k then rowM (soundB ws (pl, mi) false) i else 0) = _
       by_cases h : i < k
       ·rw [if_pos h, if_pos (by omega)]
       ·rw [if_neg h, if_neg (by omega)])] at hs
     have c1 : V1.cell? ⟨B + 1, k, none⟩ = some (.int .u64 ((if k < k then rowM (soundB ws (pl, mi) false) k else 0 : Nat) : Int)) := by rw [hO.cellAt k (by omega), u64V_get _ hkn]
     rw [if_neg (Nat.lt_irrefl k)] at c1
     have c2 : V1.frozen? ⟨B + 1, k, none⟩ = false := hO.frozenAt k
     have hE2 : Ext w (V1.setCell ⟨B + 1, k, none⟩ (.int .u64 ((2 ^ (k + 1) : Nat) : Int))) := hE.setCell (p := ⟨B + 1, k, none⟩) (.inl (show w.heap.size ≤ B + 1 by have := HB.out; omega)) _
     have hx2 : (V1.setCell ⟨B + 1, k, none⟩ (.int .u64 ((2 ^ (k + 1) : Nat) : Int))).heap[B]? = some (.cells #[.int .i64 1, .int .u32 (pl : Int), .int .u32 (mi : Int), .bool false, .int .i64 mn, .int .i64 mx, .slice ao N cap] 27 (0, 0)) := set_keep hx (by simp)
     have HS := Lib.hid hs; have HE := Lib.hid hE2; have HX2 := Lib.hid hx2
     clear hs hE2 hx2 hO hE hx hval2
     clear hval
     go_wp2
     exact ⟨⟨k + 1, by omega, by first | rfl | trivial, ⟨rfl, rfl, rfl, rfl, rfl, rfl⟩, HS.out, HX2.out, HE.out⟩, by first | (simp [intOf]; done) | (simp [intOf]; omega)⟩
    ·have hval : ∀ c, c < 33 → soundB ws (pl, mi) true k c = false := fun c _ => by rw [HROW.out c]; cases (c == k + 1) <;> rfl
     have hval2 : rowM (soundB ws (pl, mi) true) k = 0 := rowM_none hval
     rw [u64V_congr (g := fun a => if a < k + 1 then rowM (soundB ws (pl, mi) true) a else 0) (fun i _ => by
      by_cases e : i = k
      ·rw [if_neg (by omega), if_pos (by omega), e, hval2]
      ·by_cases h : i < k
       ·rw [if_pos h, if_pos (by omega)]
       ·rw [if_neg h, if_neg (by omega)])] at hO
     have HO := Lib.hid hO
     clear hO hval2
     clear hval cX
     go_wp2
     exact ⟨⟨k + 1, by omega, by first | rfl | trivial, ⟨rfl, rfl, rfl, rfl, rfl, rfl⟩, HO.out, hx, hE⟩, by first | (simp [intOf]; done) | (simp [intOf]; omega)⟩
  ·obtain rfl : k = n := by omega
   have g1 : ¬ (k : Int) < (k : Int) := by omega
   have g2 : decide ((k : Int) < (k : Int)) = false := by simp
   have HOW := Lib.hid hO; have HXW := Lib.hid hx
   have c0 : W.cell? ⟨B, 0, none⟩ = some (.int .i64 1) := by simp [World.cell?, hx]
   clear hO hx cX
   go_wp2
   clear c0
   refine wp_region_held_drew (S := fun _ => True) (by kernel_rfl) trivial ?_
   intro hS0
   refine tkH (i := 0) (d := 35) (v := ?_) rfl (Or.inl ⟨by rfl, ?_⟩) hS0 ?_
   rotate_left
   ·intro w hSw; (try dsimp only at hSw); go_simp; try with_reducible rfl
   try simp only [Act.put, pq]
   refine tkH (i := 1) (d := 36) (v := ?_) rfl (Or.inl ⟨by rfl, ?_⟩) hS0 ?_
   rotate_left
   ·intro w hSw; (try dsimp only at hSw); go_simp; try with_reducible rfl
   try simp only [Act.put, pq]
   refine tkH (i := 2) (d := 37) (v := ?_) rfl (Or.inl ⟨by rfl, ?_⟩) hS0 ?_
   rotate_left
   ·intro w hSw; (try dsimp only at hSw); go_simp; try with_reducible rfl
   try simp only [Act.put, pq]
   refine tkH (i := 3) (d := 38) (v := ?_) rfl (Or.inl ⟨by rfl, ?_⟩) hS0 ?_
   rotate_left
   ·intro w hSw; (try dsimp only at hSw); go_simp; try with_reducible rfl
   try simp only [Act.put, pq]
   refine tkH (i := 4) (d := 39) (v := undef) rfl (Or.inr ⟨by rfl, rfl⟩) hS0 ?_
   try simp only [Act.put, pq]
   refine tkH (i := 5) (d := 40) (v := undef) rfl (Or.inr ⟨by rfl, rfl⟩) hS0 ?_
   try simp only [Act.put, pq]
   refine tkH (i := 6) (d := 41) (v := undef) rfl (Or.inr ⟨by rfl, rfl⟩) hS0 ?_
   try simp only [Act.put, pq]
   refine tkH (i := 7) (d := 42) (v := undef) rfl (Or.inr ⟨by rfl, rfl⟩) hS0 ?_
   try simp only [Act.put, pq]
   refine tkH (i := 8) (d := 43) (v := undef) rfl (Or.inr ⟨by rfl, rfl⟩) hS0 ?_
   try simp only [Act.put, pq]
   refine tkH (i := 9) (d := 44) (v := undef) rfl (Or.inr ⟨by rfl, rfl⟩) hS0 ?_
   try simp only [Act.put, pq]
   refine tkH (i := 10) (d := 45) (v := undef) rfl (Or.inr ⟨by rfl, rfl⟩) hS0 ?_
   try simp only [Act.put, pq]
   refine tkH (i := 11) (d := 46) (v := undef) rfl (Or.inr ⟨by rfl, rfl⟩) hS0 ?_
   try simp only [Act.put, pq]
   refine tkH (i := 12) (d := 47) (v := undef) rfl (Or.inr ⟨by rfl, rfl⟩) hS0 ?_
   try simp only [Act.put, pq]
   refine tkH (i := 13) (d := 48) (v := undef) rfl (Or.inr ⟨by rfl, rfl⟩) hS0 ?_
   try simp only [Act.put, pq]
   refine tkH (i := 14) (d := 49) (v := ?_) rfl (Or.inl ⟨by rfl, ?_⟩) hS0 ?_
   rotate_left
   ·intro w hSw; (try dsimp only at hSw); go_simp; try with_reducible rfl
   try simp only [Act.put, pq]
   refine wpAnyH_done (by kernel_rfl) ?_ _
   have hO := own_ext HOW.out (Turn.drew (Turn.refl _ W))
   have hx := (Turn.drew (Turn.refl (fun _ => False) W)).heap HXW.out id
   have hE := hE.drew
   clear hS0 HOW HXW g2
   have hval : rowM (soundB ws (pl, mi) nt) k = 0 := rowM_none fun c _ => by unfold soundB; rw [decide_eq_false (by rw [HNN.out]; omega), Bool.and_false, Bool.false_and]
   rw [u64V_congr (g := fun a => if a < k + 1 then rowM (soundB ws (pl, mi) nt) a else 0) (fun i _ => by
    by_cases e : i = k
    ·rw [if_neg (by omega), if_pos (by omega), e, hval]
    ·by_cases h : i < k
     ·rw [if_pos h, if_pos (by omega)]
     ·rw [if_neg h, if_neg (by omega)])] at hO
   have HO := Lib.hid hO
   clear hO hval
   go_wp2
   exact ⟨⟨k + 1, by omega, by first | rfl | trivial, ⟨rfl, rfl, rfl, rfl, rfl, rfl⟩, HO.out, hx, hE⟩, by first | (simp [intOf]; done) | (simp [intOf]; omega)⟩
 ·obtain rfl : k = n + 1 := by omega
  have h1 : ¬ (((n + 1 : Nat) : Int) ≤ (n : Int)) := by omega
  obtain rfl := HNN.out
  rw [u64V_congr (g := rowM (relP ws (.node 1 pl mi nt mn mx l))) (fun a ha => by rw [if_pos ha, HREL.out])] at hO
  have hO2 := own_base (base' := w.heap.size) hO (by have := HB.out; omega)
  have HO := Lib.hid hO2
  clear hO hO2
  go_wp2
  go_ret
  exact ⟨_, rfl, HO.out, hE⟩
end Go.Proofs.YtedhogbocifipaaGreatDoor
