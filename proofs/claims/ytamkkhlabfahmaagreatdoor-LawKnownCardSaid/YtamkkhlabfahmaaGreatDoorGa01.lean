/- pats.relation in memory; identity. feats.Change, Take (printed by genfeats2.py). pats.relation: then, or, power. pats.relation: or, power. -/
import Derived.Test.YtamkkhlabfahmaaGreatDoorGa00
import Derived.Laws.Rows
import Derived.Laws.Tables
import Derived.Deep.WholeRow
set_option maxRecDepth 100000
set_option maxHeartbeats 8000000
namespace Go.Proofs.YtamkkhlabfahmaaGreatDoor
open Go.RowKit Go.Ab

/-- The 33 cells of a relation; a name that the walk does not open. -/
def relArr (M : Bin2) : Array Value := ((List.range 33).map fun a => Value.int .u64 (rowM M a)).toArray
theorem relArr_size (M : Bin2) : (relArr M).size = 33 := by simp [relArr]
theorem relArr_ne (M : Bin2) : (relArr M = #[]) = False := by
 apply eq_false; intro h; have := relArr_size M; rw [h] at this; simp at this
theorem relArr_one (M : Bin2) : (relArr M).all (·.oneCell') = true := by
 rw [Array.all_eq_true']
 intro v hv
 simp only [relArr, List.mem_toArray, List.mem_map] at hv
 obtain ⟨_, _, rfl⟩ := hv; rfl
theorem relArr_get (M : Bin2) {a : Nat} (h : a < 33) : (relArr M)[a]? = some (.int .u64 (rowM M a)) := by simp [relArr, h]
theorem relArr_no : relArr noB = (Array.replicate 33 (Value.int .u64 0)) := by
 unfold relArr
 have : (fun a => Value.int .u64 ((rowM noB a : Nat) : Int)) = fun _ => Value.int .u64 0 := by funext a; rw [rowM_no]; rfl
 rw [this]; rfl
theorem zero_rel (w : World) : (zeroValue 223).run Tryz.prog w = .ok (.agg (relArr noB)) w := by
 rw [relArr_no]; kernel_rfl

/-- Rows from a function. -/
def rowArr (f : Nat → Nat) : Array Value := ((List.range 33).map fun a => Value.int .u64 (f a)).toArray
theorem rowArr_rel (M : Bin2) : relArr M = rowArr (rowM M) := rfl
theorem rowArr_set (f : Nat → Nat) (a v : Nat) : (rowArr f).setIfInBounds a (.int .u64 (v : Int)) = rowArr fun i => if i = a then v else f i := by
 unfold rowArr
 rw [List.setIfInBounds_toArray]
 congr 1
 apply List.ext_getElem?
 intro i
 simp only [List.getElem?_set, List.getElem?_map, List.length_map, List.length_range]
 by_cases hx : a = i
 ·subst hx
  by_cases hm : a < 33
  ·simp [hm]
  ·simp [hm]
 ·rw [if_neg hx]
  by_cases hm : i < 33
  ·simp [hm, Ne.symm hx]
  ·simp [hm]
theorem rowArr_congr {f g : Nat → Nat} (h : ∀ a, a < 33 → f a = g a) : rowArr f = rowArr g := by
 unfold rowArr
 rw [List.map_congr_left fun a ha => by rw [h a (List.mem_range.1 ha)]]
theorem rowArr_get (f : Nat → Nat) {a : Nat} (h : a < 33) : (rowArr f)[a]? = some (.int .u64 (f a)) := by simp [rowArr, h]
theorem rowArr_size (f : Nat → Nat) : (rowArr f).size = 33 := by simp [rowArr]

/-- Block b holds these rows. -/
def RowsAt (w : World) (b : Nat) (f : Nat → Nat) : Prop := w.heap[b]? = some (.cells (rowArr f) 223 (0, 0))
theorem RowsAt.cell {w : World} {b : Nat} {f : Nat → Nat} (h : RowsAt w b f) {a : Nat} (ha : a < 33) : w.cell? ⟨b, a, none⟩ = some (.int .u64 (f a)) := by
 rw [cell_of_row w b a _ _ _ h, rowArr_get f ha]
theorem RowsAt.free {w : World} {b : Nat} {f : Nat → Nat} (h : RowsAt w b f) (a : Nat) : w.frozen? ⟨b, a, none⟩ = false := frozen_of_row w b a _ _ h
theorem RowsAt.keep {S : Nat → Prop} {A B : World} {b : Nat} {f : Nat → Nat} (h : RowsAt A b f) (ht : Turn S A B) (hS : ¬ S b) : RowsAt B b f := ht.heap h hS
theorem RowsAt.lt {w : World} {b : Nat} {f : Nat → Nat} (h : RowsAt w b f) : b < w.heap.size := (Array.getElem?_eq_some_iff.1 h).1
theorem RowsAt.store {w : World} {b : Nat} {f : Nat → Nat} (h : RowsAt w b f) (a v : Nat) : RowsAt (w.setCell ⟨b, a, none⟩ (.int .u64 (v : Int))) b (fun i => if i = a then v else f i) := by
 unfold RowsAt
 rw [heap_setCell_same w b a _ _ _ h, rowArr_set]
theorem RowsAt.row {w : World} {b : Nat} {f g : Nat → Nat} (h : RowsAt w b f) : RowsAt (w.setRow b (rowArr g)) b g := setRow_heap w b _ _ _ _ h
theorem Turn.setRow (A : World) (b : Nat) (cs : Array Value) : Turn (· = b) A (A.setRow b cs) :=
 ⟨rfl, rfl, rfl, by simp, fun i _ hi => by
  show (A.heap.modify b _)[i]? = _
  rw [Array.getElem?_modify, if_neg (fun e => hi e.symm)]⟩
theorem Tryz.relInfo (f : Nat → Nat) : (Tryz.prog.info? 223).map (·.size) = some (rowArr f).size := by
 rw [rowArr_size]; kernel_rfl
theorem rowArr_one (f : Nat → Nat) : (rowArr f).all (·.oneCell') = true := by
 rw [Array.all_eq_true']
 intro v hv
 simp only [rowArr, List.mem_toArray, List.mem_map] at hv
 obtain ⟨_, _, rfl⟩ := hv; rfl

theorem pow_u64 {k : Nat} (hk : k < 64) : IntKind.u64.wrap (2 ^ k) = ((2 ^ k : Nat) : Int) := by
 have hp : 2 ^ k < 18446744073709551616 := by
  have := Nat.pow_lt_pow_right (a := 2) (by decide) hk
  simpa using this
 rw [IntKind.wrap_u64]
 have e : ((2 : Int) ^ k) = ((2 ^ k : Nat) : Int) := by simp
 rw [e]
 generalize 2 ^ k = P at hp
 omega

/-- The result's block, and the variable's. -/
theorem rel_result {fn : Func} {p : Tmp} (h : fn.results = #[.cell p 223]) {tmps : Array Value} {w : World} {g : Nat} {f : Nat → Nat} (hp : tmps.getD p undef = .pointer (some ⟨g, 0, none⟩)) (hg : RowsAt w g f) :
  (results fn tmps).run Tryz.prog w = .ok (.agg (rowArr f)) w :=
 results_cell_row h tmps w g _ _ _ _ hp hg Tryz.underlying223 rfl (Tryz.relInfo f)

theorem identity_any (n : Nat) (hn : n ≤ 32) (w : World) :
  Calls Tryz.prog 253 #[.int .i64 n] w fun e w' => e = .returned (.agg (rowArr (rowM (idB n)))) ∧ Ext w w' := by
 have z1 := zero_rel
 have z2 := relArr_size noB
 have z3 := relArr_ne noB
 go_enter Tryz.func253, Tryz.ntmps253
 go_wp2
 clear z1 z2 z3
 obtain ⟨B, hB⟩ : ∃ B, w.heap.size = B := ⟨_, rfl⟩
 have hr : RowsAt ((w.alloc (.cells (relArr noB) 223)).alloc (.cells (relArr noB) 223)) B (fun _ => 0) := by
  subst hB
  refine new_keep (new_at rfl) |>.trans ?_
  rw [rowArr_rel, rowArr_congr fun a _ => rowM_no a]
 have hv : RowsAt ((w.alloc (.cells (relArr noB) 223)).alloc (.cells (relArr noB) 223)) (B + 1) (fun a => if a < 0 then 2 ^ a else 0) := by
  subst hB
  refine (new_at (by simp)).trans ?_
  rw [rowArr_rel, rowArr_congr (g := fun a => if a < 0 then 2 ^ a else 0) fun a _ => by rw [rowM_no]; simp]
 have hE : Ext w ((w.alloc (.cells (relArr noB) 223)).alloc (.cells (relArr noB) 223)) := ((Turn.refl _ w).alloc _).alloc _
 generalize ((w.alloc (.cells (relArr noB) 223)).alloc (.cells (relArr noB) 223)) = w1 at hr hv hE ⊢
 rw [hB]
 have HB := Lib.hid hB
 clear hB
 refine wp_loop (fun a W => ∃ (k : Nat), k ≤ n + 1 ∧ a.defers = [] ∧ (a.tmps.size = 16 ∧ a.tmps.getD 2 undef = .pointer (some ⟨B, 0, none⟩) ∧ a.tmps.getD 3 undef = .pointer (some ⟨B + 1, 0, none⟩) ∧ a.tmps.getD 6 undef = .int .i64 ((n : Int) + 1) ∧ a.tmps.getD 7 undef = .int .i64 k) ∧ RowsAt W B (fun _ => 0) ∧ RowsAt W (B + 1) (fun a => if a < k then 2 ^ a else 0) ∧ Ext w W)
  (fun a _ => n + 1 - (intOf (a.tmps.getD 7 undef)).toNat) ?_ ?_
 ·exact ⟨0, by omega, rfl, ⟨rfl, rfl, rfl, rfl, rfl⟩, hr, hv, hE⟩
 clear hr hv hE
 rintro ⟨t, _⟩ W ⟨k, hk, hds, ⟨hsz, f2, f3, f6, f7⟩, hr, hv, hE⟩
 subst hds
 obtain ⟨u', hu⟩ := frame_fun hsz
 obtain ⟨u, rfl⟩ : ∃ x, x = u' := ⟨_, rfl⟩
 have hu' : t = #[u 0, u 1, u 2, u 3, u 4, u 5, u 6, u 7, u 8, u 9, u 10, u 11, u 12, u 13, u 14, u 15] := hu
 clear hu
 subst hu'
 change u 2 = _ at f2
 change u 3 = _ at f3
 change u 6 = _ at f6
 change u 7 = _ at f7
 rw [f2, f3, f6, f7]
 clear f2 f3 f6 f7 hsz
 by_cases hkn : k < n + 1
 ·have h1 : (k : Int) < (n : Int) + 1 := by omega
  have h2 : (k : Int) < 33 := by omega
  have h3 : (k : Int) < 64 := by omega
  have c1 := hv.cell (a := k) (by omega)
  have f1 := hv.free k
  have hw := pow_u64 (k := k) (by omega)
  have hs := hv.store k (2 ^ k)
  have hfe : (fun i => if i = k then 2 ^ k else if i < k then 2 ^ i else 0) = fun a => if a < k + 1 then 2 ^ a else 0 := by
   funext i
   by_cases e : i = k
   ·subst e; simp
   ·rw [if_neg e]
    by_cases h : i < k
    ·rw [if_pos h, if_pos (by omega)]
    ·rw [if_neg h, if_neg (by omega)]
  rw [hfe] at hs
  have hr2 := hr.keep (Turn.set1 W (B + 1) k (.int .u64 ((2 ^ k : Nat) : Int))) (by omega)
  have hE2 : Ext w (W.setCell ⟨B + 1, k, none⟩ (.int .u64 ((2 ^ k : Nat) : Int))) := hE.after (Turn.set1 W (B + 1) k _) (fun b' h1 h2 => by have := HB.out; omega)
  have HS := Lib.hid hs; have HR := Lib.hid hr2; have HE := Lib.hid hE2
  clear hfe hs hr2 hE2 hr hv hE
  go_wp2
  exact ⟨⟨k + 1, by omega, by first | rfl | trivial, ⟨rfl, rfl, rfl, rfl, rfl⟩, HR.out, HS.out, HE.out⟩, by simp [intOf]; omega⟩
 ·obtain rfl : k = n + 1 := by omega
  have h1 : ¬ (((n + 1 : Nat) : Int) < (n : Int) + 1) := by omega
  have hrow := RowsAt.row (g := fun a => if a < n + 1 then 2 ^ a else 0) hr
  have hE2 : Ext w (W.setRow B (rowArr fun a => if a < n + 1 then 2 ^ a else 0)) := hE.after (Turn.setRow W B _) (fun b' h1 h2 => by have := HB.out; omega)
  go_wp2_with (first
   | (refine wpList_load_row rfl 223 (.tmp 3) rfl (B + 1) rfl _ _ _ _ hv Tryz.underlying223 rfl (Tryz.relInfo _) ?_)
   | (refine wpList_store_row rfl 223 (.tmp 2) (.tmp 15) rfl B (rowArr fun a => if a < n + 1 then 2 ^ a else 0) rfl rfl _ _ hr (Tryz.relInfo _) (by rw [rowArr_size, rowArr_size]) (rowArr_one _) ?_))
  refine bodyPost_ret (v := .agg (rowArr fun a => if a < n + 1 then 2 ^ a else 0)) (rel_result rfl rfl hrow) rfl ⟨?_, hE2⟩
  rw [rowArr_congr (g := rowM (idB n)) fun a _ => ?_]
  by_cases h : a < n + 1
  ·rw [if_pos h, rowM_id hn (by omega)]
  ·rw [if_neg h, rowM_out (Mono.id n) (by omega)]
end Go.Proofs.YtamkkhlabfahmaaGreatDoor

namespace Go.Proofs.YtamkkhlabfahmaaGreatDoor
open Go.RowKit Go.Ab
attribute [local go_sem] Oper.semAt_some wide_fn wide_depth

/-- What Change returns. -/
def chgV (s : Nat × Nat) (m : Nat) (f : Nat × Nat) : (Nat × Nat) × Int :=
 if okS s = false ∨ okS f = false then ((0, 0), 14) else if 16777215 < m ∨ m &&& (f.1 ||| f.2) ≠ 0 then ((0, 0), 2) else (mixS s f (m ||| (f.1 ||| f.2)), 0)
/-- What Take returns. -/
def takV (s f : Nat × Nat) (m : Nat) : (Nat × Nat) × Int :=
 if okS s = false ∨ okS f = false then ((0, 0), 14) else if 16777215 < m then ((0, 0), 2) else (mixS s f m, 0)

theorem ftake_any {s f : Nat × Nat} {m : Nat} (hs : lt32 s) (hf : lt32 f) (hm : m < 4294967296) (w : World) :
  Calls Tryz.prog 152 #[sV s, sV f, .int .u32 (m : Int)] w fun e w' => e = .returned (.tuple #[sV (takV s f m).1, .int .i64 (takV s f m).2]) ∧ Ext w w' := by
 have hv1 := fun (V : World) => fvalid_any hs V
 have hv2 := fun (V : World) => fvalid_any hf V
 have hmx := fun (V : World) => fmix_any hs hf hm V
 obtain ⟨a, b⟩ := s
 obtain ⟨c, d⟩ := f
 obtain ⟨ha, hb⟩ := hs
 obtain ⟨hc, hd⟩ := hf
 dsimp only at ha hb hc hd
 obtain ⟨x, hx⟩ : ∃ x, okS (a, b) = x := ⟨_, rfl⟩
 obtain ⟨y, hy⟩ : ∃ x, okS (c, d) = x := ⟨_, rfl⟩
 rw [hx] at hv1
 rw [hy] at hv2
 have HV1 := Lib.hid hv1; have HV2 := Lib.hid hv2
 have HR : Hid (takV (a, b) (c, d) m = if x = false ∨ y = false then ((0, 0), 14) else if 16777215 < m then ((0, 0), 2) else (mixS (a, b) (c, d) m, 0)) := Lib.hid (by unfold takV; rw [hx, hy])
 obtain ⟨r1, r2, hr⟩ : ∃ r1 r2, takV (a, b) (c, d) m = (r1, r2) := ⟨_, _, rfl⟩
 rw [hr] at HR ⊢
 clear hv1 hv2 hx hy hr
 obtain ⟨⟨u1, u2⟩, hu⟩ : ∃ u, mixS (a, b) (c, d) m = u := ⟨_, rfl⟩
 rw [hu] at hmx HR
 have HMX := Lib.hid hmx
 clear hmx hu
 go_enter Tryz.func152, Tryz.ntmps152
 go_wp2_with fail
 obtain ⟨B, hB⟩ : ∃ B, w.heap.size = B := ⟨_, rfl⟩
 have x1 : (((w.alloc (.cells #[.int .u32 (a : Int), .int .u32 (b : Int)] 24)).alloc (.cells #[.int .u32 (c : Int), .int .u32 (d : Int)] 24)).alloc (.cells #[.int .u32 0, .int .u32 0] 24)).heap[B]? = some (.cells #[.int .u32 (a : Int), .int .u32 (b : Int)] 24 (0, 0)) := by subst hB; exact new_keep (new_keep (new_at rfl))
 have y1 : (((w.alloc (.cells #[.int .u32 (a : Int), .int .u32 (b : Int)] 24)).alloc (.cells #[.int .u32 (c : Int), .int .u32 (d : Int)] 24)).alloc (.cells #[.int .u32 0, .int .u32 0] 24)).heap[B + 1]? = some (.cells #[.int .u32 (c : Int), .int .u32 (d : Int)] 24 (0, 0)) := by subst hB; exact new_keep (new_at (by simp))
 have z1 : (((w.alloc (.cells #[.int .u32 (a : Int), .int .u32 (b : Int)] 24)).alloc (.cells #[.int .u32 (c : Int), .int .u32 (d : Int)] 24)).alloc (.cells #[.int .u32 0, .int .u32 0] 24)).heap[B + 2]? = some (.cells #[.int .u32 0, .int .u32 0] 24 (0, 0)) := by subst hB; exact new_at (by simp)
 have E1 : Ext w (((w.alloc (.cells #[.int .u32 (a : Int), .int .u32 (b : Int)] 24)).alloc (.cells #[.int .u32 (c : Int), .int .u32 (d : Int)] 24)).alloc (.cells #[.int .u32 0, .int .u32 0] 24)) := (((Turn.refl _ w).alloc _).alloc _).alloc _
 refine (HV1.out _).mono ?_
 generalize (((w.alloc (.cells #[.int .u32 (a : Int), .int .u32 (b : Int)] 24)).alloc (.cells #[.int .u32 (c : Int), .int .u32 (d : Int)] 24)).alloc (.cells #[.int .u32 0, .int .u32 0] 24)) = w1 at x1 y1 z1 E1 ⊢
 rw [hB]
 have HB := Lib.hid hB
 clear hB
 rintro e w2 ⟨rfl, hN⟩
 have E2 := E1.trans hN
 have x2 := hN.keep x1
 have y2 := hN.keep y1
 have z2 := hN.keep z1
 have cX := fun j => cell_of_row _ _ j _ _ _ x2
 have cY := fun j => cell_of_row _ _ j _ _ _ y2
 have HZ2 := Lib.hid z2
 clear hN x1 y1 z1 E1
 cases x
 ·clear x2 y2 z2
  have hw : r1 = (0, 0) ∧ r2 = 14 := by have := HR.out; rw [if_pos (.inl rfl)] at this; exact ⟨congrArg Prod.fst this, congrArg Prod.snd this⟩
  obtain ⟨rfl, rfl⟩ := hw
  clear HR
  go_wp2_with (refine wpList_store_row rfl 24 (.tmp 6) (.tmp 16) rfl (B + 2) #[.int .u32 0, .int .u32 0] rfl rfl _ _ HZ2.out (by kernel_rfl) rfl (by kernel_rfl) ?_)
  have hT9 := Turn.setRow w2 (B + 2) #[.int .u32 0, .int .u32 0]
  refine bodyPost_ret (snd_result2 (p := 6) (u := 7) rfl rfl (setRow_heap _ _ _ _ _ _ HZ2.out) (by kernel_rfl)) rfl ?_
  exact ⟨rfl, E2.after hT9 (fun b h1 e => by have := HB.out; omega)⟩
 go_wp2_with fail
 refine (HV2.out _).mono ?_
 rintro e w3 ⟨rfl, hN⟩
 have E3 := E2.trans hN
 have x3 := hN.keep x2
 have y3 := hN.keep y2
 have z3 := hN.keep z2
 clear cX cY HZ2 hN x2 y2 z2 E2
 have cX := fun j => cell_of_row _ _ j _ _ _ x3
 have cY := fun j => cell_of_row _ _ j _ _ _ y3
 have HZ3 := Lib.hid z3
 cases y
 ·clear x3 y3 z3
  have hw : r1 = (0, 0) ∧ r2 = 14 := by have := HR.out; rw [if_pos (.inr rfl)] at this; exact ⟨congrArg Prod.fst this, congrArg Prod.snd this⟩
  obtain ⟨rfl, rfl⟩ := hw
  clear HR
  go_wp2_with (refine wpList_store_row rfl 24 (.tmp 6) (.tmp 16) rfl (B + 2) #[.int .u32 0, .int .u32 0] rfl rfl _ _ HZ3.out (by kernel_rfl) rfl (by kernel_rfl) ?_)
  have hT9 := Turn.setRow w3 (B + 2) #[.int .u32 0, .int .u32 0]
  refine bodyPost_ret (snd_result2 (p := 6) (u := 7) rfl rfl (setRow_heap _ _ _ _ _ _ HZ3.out) (by kernel_rfl)) rfl ?_
  exact ⟨rfl, E3.after hT9 (fun b h1 e => by have := HB.out; omega)⟩
 by_cases hm2 : 16777215 < m
 ·have g1 : (16777215 : Int) < (m : Int) := by omega
  clear x3 y3 z3
  have hw : r1 = (0, 0) ∧ r2 = 2 := by have := HR.out; rw [if_neg (by decide), if_pos hm2] at this; exact ⟨congrArg Prod.fst this, congrArg Prod.snd this⟩
  obtain ⟨rfl, rfl⟩ := hw
  clear HR
  go_wp2_with (refine wpList_store_row rfl 24 (.tmp 6) (.tmp 19) rfl (B + 2) #[.int .u32 0, .int .u32 0] rfl rfl _ _ HZ3.out (by kernel_rfl) rfl (by kernel_rfl) ?_)
  have hT9 := Turn.setRow w3 (B + 2) #[.int .u32 0, .int .u32 0]
  refine bodyPost_ret (snd_result2 (p := 6) (u := 7) rfl rfl (setRow_heap _ _ _ _ _ _ HZ3.out) (by kernel_rfl)) rfl ?_
  exact ⟨rfl, E3.after hT9 (fun b h1 e => by have := HB.out; omega)⟩
 have g1 : ¬ (16777215 : Int) < (m : Int) := by omega
 have hw : r1 = (u1, u2) ∧ r2 = 0 := by have := HR.out; rw [if_neg (by decide), if_neg hm2] at this; exact ⟨congrArg Prod.fst this, congrArg Prod.snd this⟩
 obtain ⟨rfl, rfl⟩ := hw
 clear HR
 go_wp2_with fail
 refine (HMX.out _).mono ?_
 rintro e w4 ⟨rfl, hN⟩
 have E4 := E3.trans hN
 have x4 := hN.keep x3
 have y4 := hN.keep y3
 have z4 := hN.keep z3
 clear cX cY HZ3 hN x3 y3 z3 E3
 have HZ4 := Lib.hid z4
 clear x4 y4 z4
 go_wp2_with (refine wpList_store_row rfl 24 (.tmp 6) (.tmp 23) rfl (B + 2) #[.int .u32 (u1 : Int), .int .u32 (u2 : Int)] rfl rfl _ _ HZ4.out (by kernel_rfl) rfl (by kernel_rfl) ?_)
 have hT9 := Turn.setRow w4 (B + 2) #[.int .u32 (u1 : Int), .int .u32 (u2 : Int)]
 refine bodyPost_ret (snd_result2 (p := 6) (u := 7) rfl rfl (setRow_heap _ _ _ _ _ _ HZ4.out) (by kernel_rfl)) rfl ?_
 exact ⟨rfl, E4.after hT9 (fun b h1 e => by have := HB.out; omega)⟩

theorem fchange_any {s f : Nat × Nat} {m : Nat} (hs : lt32 s) (hf : lt32 f) (hm : m < 4294967296) (w : World) :
  Calls Tryz.prog 151 #[sV s, .int .u32 (m : Int), sV f] w fun e w' => e = .returned (.tuple #[sV (chgV s m f).1, .int .i64 (chgV s m f).2]) ∧ Ext w w' := by
 have hv1 := fun (V : World) => fvalid_any hs V
 have hv2 := fun (V : World) => fvalid_any hf V
 have hha := fun (V : World) => fhas_any hf V
 have hh : f.1 ||| f.2 < 4294967296 := Nat.or_lt_two_pow (n := 32) hf.1 hf.2
 have hmh : m ||| (f.1 ||| f.2) < 4294967296 := Nat.or_lt_two_pow (n := 32) hm hh
 have hmx := fun (V : World) => fmix_any hs hf hmh V
 have o1 := u32_and_nat m (f.1 ||| f.2) hm hh
 have o2 := u32_or_nat m (f.1 ||| f.2) hm hh
 obtain ⟨a, b⟩ := s
 obtain ⟨c, d⟩ := f
 obtain ⟨ha, hb⟩ := hs
 obtain ⟨hc, hd⟩ := hf
 dsimp only at ha hb hc hd
 dsimp only at hha hh hmh hmx o1 o2
 obtain ⟨x, hx⟩ : ∃ x, okS (a, b) = x := ⟨_, rfl⟩
 obtain ⟨y, hy⟩ : ∃ x, okS (c, d) = x := ⟨_, rfl⟩
 rw [hx] at hv1
 rw [hy] at hv2
 have HV1 := Lib.hid hv1; have HV2 := Lib.hid hv2
 have HR : Hid (chgV (a, b) m (c, d) = if x = false ∨ y = false then ((0, 0), 14) else if 16777215 < m ∨ m &&& (c ||| d) ≠ 0 then ((0, 0), 2) else (mixS (a, b) (c, d) (m ||| (c ||| d)), 0)) := Lib.hid (by unfold chgV; rw [hx, hy])
 obtain ⟨r1, r2, hr⟩ : ∃ r1 r2, chgV (a, b) m (c, d) = (r1, r2) := ⟨_, _, rfl⟩
 rw [hr] at HR ⊢
 clear hv1 hv2 hx hy hr
 obtain ⟨⟨u1, u2⟩, hu⟩ : ∃ u, mixS (a, b) (c, d) (m ||| (c ||| d)) = u := ⟨_, rfl⟩
 obtain ⟨h, hhd⟩ : ∃ h, c ||| d = h := ⟨_, rfl⟩
 rw [hu] at hmx HR
 rw [hhd] at hha hmx HR o1 o2 hh hmh
 obtain ⟨q, hq⟩ : ∃ q, m &&& h = q := ⟨_, rfl⟩
 obtain ⟨r, hr⟩ : ∃ q, m ||| h = q := ⟨_, rfl⟩
 rw [hq] at o1 HR
 rw [hr] at o2 hmx
 have HMX := Lib.hid hmx; have HHA := Lib.hid hha
 clear hmx hha hu hhd hq hr hmh
 go_enter Tryz.func151, Tryz.ntmps151
 go_wp2_with fail
 obtain ⟨B, hB⟩ : ∃ B, w.heap.size = B := ⟨_, rfl⟩
 have x1 : (((w.alloc (.cells #[.int .u32 (a : Int), .int .u32 (b : Int)] 24)).alloc (.cells #[.int .u32 (c : Int), .int .u32 (d : Int)] 24)).alloc (.cells #[.int .u32 0, .int .u32 0] 24)).heap[B]? = some (.cells #[.int .u32 (a : Int), .int .u32 (b : Int)] 24 (0, 0)) := by subst hB; exact new_keep (new_keep (new_at rfl))
 have y1 : (((w.alloc (.cells #[.int .u32 (a : Int), .int .u32 (b : Int)] 24)).alloc (.cells #[.int .u32 (c : Int), .int .u32 (d : Int)] 24)).alloc (.cells #[.int .u32 0, .int .u32 0] 24)).heap[B + 1]? = some (.cells #[.int .u32 (c : Int), .int .u32 (d : Int)] 24 (0, 0)) := by subst hB; exact new_keep (new_at (by simp))
 have z1 : (((w.alloc (.cells #[.int .u32 (a : Int), .int .u32 (b : Int)] 24)).alloc (.cells #[.int .u32 (c : Int), .int .u32 (d : Int)] 24)).alloc (.cells #[.int .u32 0, .int .u32 0] 24)).heap[B + 2]? = some (.cells #[.int .u32 0, .int .u32 0] 24 (0, 0)) := by subst hB; exact new_at (by simp)
 have E1 : Ext w (((w.alloc (.cells #[.int .u32 (a : Int), .int .u32 (b : Int)] 24)).alloc (.cells #[.int .u32 (c : Int), .int .u32 (d : Int)] 24)).alloc (.cells #[.int .u32 0, .int .u32 0] 24)) := (((Turn.refl _ w).alloc _).alloc _).alloc _
 refine (HV1.out _).mono ?_
 generalize (((w.alloc (.cells #[.int .u32 (a : Int), .int .u32 (b : Int)] 24)).alloc (.cells #[.int .u32 (c : Int), .int .u32 (d : Int)] 24)).alloc (.cells #[.int .u32 0, .int .u32 0] 24)) = w1 at x1 y1 z1 E1 ⊢
 rw [hB]
 have HB := Lib.hid hB
 clear hB
 rintro e w2 ⟨rfl, hN⟩
 have E2 := E1.trans hN
 have x2 := hN.keep x1
 have y2 := hN.keep y1
 have z2 := hN.keep z1
 have cX := fun j => cell_of_row _ _ j _ _ _ x2
 have cY := fun j => cell_of_row _ _ j _ _ _ y2
 have HZ2 := Lib.hid z2
 clear hN x1 y1 z1 E1
 cases x
 ·clear x2 y2 z2
  have hw : r1 = (0, 0) ∧ r2 = 14 := by have := HR.out; rw [if_pos (.inl rfl)] at this; exact ⟨congrArg Prod.fst this, congrArg Prod.snd this⟩
  obtain ⟨rfl, rfl⟩ := hw
  clear HR
  go_wp2_with (refine wpList_store_row rfl 24 (.tmp 6) (.tmp 16) rfl (B + 2) #[.int .u32 0, .int .u32 0] rfl rfl _ _ HZ2.out (by kernel_rfl) rfl (by kernel_rfl) ?_)
  have hT9 := Turn.setRow w2 (B + 2) #[.int .u32 0, .int .u32 0]
  refine bodyPost_ret (snd_result2 (p := 6) (u := 7) rfl rfl (setRow_heap _ _ _ _ _ _ HZ2.out) (by kernel_rfl)) rfl ?_
  exact ⟨rfl, E2.after hT9 (fun b h1 e => by have := HB.out; omega)⟩
 go_wp2_with fail
 refine (HV2.out _).mono ?_
 rintro e w3 ⟨rfl, hN⟩
 have E3 := E2.trans hN
 have x3 := hN.keep x2
 have y3 := hN.keep y2
 have z3 := hN.keep z2
 clear cX cY HZ2 hN x2 y2 z2 E2
 have cX := fun j => cell_of_row _ _ j _ _ _ x3
 have cY := fun j => cell_of_row _ _ j _ _ _ y3
 have HZ3 := Lib.hid z3
 cases y
 ·clear x3 y3 z3
  have hw : r1 = (0, 0) ∧ r2 = 14 := by have := HR.out; rw [if_pos (.inr rfl)] at this; exact ⟨congrArg Prod.fst this, congrArg Prod.snd this⟩
  obtain ⟨rfl, rfl⟩ := hw
  clear HR
  go_wp2_with (refine wpList_store_row rfl 24 (.tmp 6) (.tmp 16) rfl (B + 2) #[.int .u32 0, .int .u32 0] rfl rfl _ _ HZ3.out (by kernel_rfl) rfl (by kernel_rfl) ?_)
  have hT9 := Turn.setRow w3 (B + 2) #[.int .u32 0, .int .u32 0]
  refine bodyPost_ret (snd_result2 (p := 6) (u := 7) rfl rfl (setRow_heap _ _ _ _ _ _ HZ3.out) (by kernel_rfl)) rfl ?_
  exact ⟨rfl, E3.after hT9 (fun b h1 e => by have := HB.out; omega)⟩
 by_cases hm2 : 16777215 < m
 ·have g1 : (16777215 : Int) < (m : Int) := by omega
  clear x3 y3 z3
  have hw : r1 = (0, 0) ∧ r2 = 2 := by have := HR.out; rw [if_neg (by decide), if_pos (.inl hm2)] at this; exact ⟨congrArg Prod.fst this, congrArg Prod.snd this⟩
  obtain ⟨rfl, rfl⟩ := hw
  clear HR
  go_wp2_with (refine wpList_store_row rfl 24 (.tmp 6) (.tmp 26) rfl (B + 2) #[.int .u32 0, .int .u32 0] rfl rfl _ _ HZ3.out (by kernel_rfl) rfl (by kernel_rfl) ?_)
  have hT9 := Turn.setRow w3 (B + 2) #[.int .u32 0, .int .u32 0]
  refine bodyPost_ret (snd_result2 (p := 6) (u := 7) rfl rfl (setRow_heap _ _ _ _ _ _ HZ3.out) (by kernel_rfl)) rfl ?_
  exact ⟨rfl, E3.after hT9 (fun b h1 e => by have := HB.out; omega)⟩
 have g1 : ¬ (16777215 : Int) < (m : Int) := by omega
 go_wp2_with fail
 refine (HHA.out _).mono ?_
 rintro e w4 ⟨rfl, hN⟩
 have E4 := E3.trans hN
 have x4 := hN.keep x3
 have y4 := hN.keep y3
 have z4 := hN.keep z3
 clear cX cY HZ3 hN x3 y3 z3 E3
 have cX := fun j => cell_of_row _ _ j _ _ _ x4
 have cY := fun j => cell_of_row _ _ j _ _ _ y4
 have HZ4 := Lib.hid z4
 by_cases hq0 : q = 0
 case neg =>
  have g2 : ((q : Int) != 0) = true := by rw [bne_iff_ne]; omega
  clear x4 y4 z4
  have hw : r1 = (0, 0) ∧ r2 = 2 := by have := HR.out; rw [if_neg (by decide), if_pos (.inr hq0)] at this; exact ⟨congrArg Prod.fst this, congrArg Prod.snd this⟩
  obtain ⟨rfl, rfl⟩ := hw
  clear HR
  go_wp2_with (refine wpList_store_row rfl 24 (.tmp 6) (.tmp 26) rfl (B + 2) #[.int .u32 0, .int .u32 0] rfl rfl _ _ HZ4.out (by kernel_rfl) rfl (by kernel_rfl) ?_)
  have hT9 := Turn.setRow w4 (B + 2) #[.int .u32 0, .int .u32 0]
  refine bodyPost_ret (snd_result2 (p := 6) (u := 7) rfl rfl (setRow_heap _ _ _ _ _ _ HZ4.out) (by kernel_rfl)) rfl ?_
  exact ⟨rfl, E4.after hT9 (fun b h1 e => by have := HB.out; omega)⟩
 subst hq0
 have hw : r1 = (u1, u2) ∧ r2 = 0 := by have := HR.out; rw [if_neg (by decide), if_neg (by omega)] at this; exact ⟨congrArg Prod.fst this, congrArg Prod.snd this⟩
 obtain ⟨rfl, rfl⟩ := hw
 clear HR
 have hcs : ∀ (D : World), Turn (· = B + 2) w4 D → D.cell? ⟨B, 0, none⟩ = some (.int .u32 (a : Int)) ∧ D.cell? ⟨B, 1, none⟩ = some (.int .u32 (b : Int)) ∧ D.cell? ⟨B + 1, 0, none⟩ = some (.int .u32 (c : Int)) ∧ D.cell? ⟨B + 1, 1, none⟩ = some (.int .u32 (d : Int)) := by
  intro D hD
  have h0 := hD.heap x4 (by omega)
  have h1 := hD.heap y4 (by omega)
  simp [World.cell?, h0, h1]
 have HS := Lib.hid hcs
 clear hcs x4 y4 z4
 go_wp2_with fail
 clear cX cY
 refine wp_region_held_drew (S := fun D => D.cell? ⟨B, 0, none⟩ = some (.int .u32 (a : Int)) ∧ D.cell? ⟨B, 1, none⟩ = some (.int .u32 (b : Int)) ∧ D.cell? ⟨B + 1, 0, none⟩ = some (.int .u32 (c : Int)) ∧ D.cell? ⟨B + 1, 1, none⟩ = some (.int .u32 (d : Int))) (by kernel_rfl) (HS.out _ (Turn.drew (Turn.refl _ w4))) ?_
 intro hS0
 refine tkH (i := 0) (d := 27) (v := ?_) rfl (Or.inl ⟨by rfl, ?_⟩) hS0 ?_
 rotate_left
 ·intro w hSw; (try dsimp only at hSw); go_simp; try with_reducible rfl
 try simp only [Act.put, pq]
 refine tkH (i := 1) (d := 28) (v := ?_) rfl (Or.inl ⟨by rfl, ?_⟩) hS0 ?_
 rotate_left
 ·intro w hSw; (try dsimp only at hSw); go_simp; try with_reducible rfl
 try simp only [Act.put, pq]
 refine tkH (i := 2) (d := 29) (v := ?_) rfl (Or.inl ⟨by rfl, ?_⟩) hS0 ?_
 rotate_left
 ·intro w hSw; (try dsimp only at hSw); go_simp; try with_reducible rfl
 try simp only [Act.put, pq]
 refine tkH (i := 3) (d := 30) (v := ?_) rfl (Or.inl ⟨by rfl, ?_⟩) hS0 ?_
 rotate_left
 ·intro w hSw; (try dsimp only at hSw); go_simp; try with_reducible rfl
 try simp only [Act.put, pq]
 refine wpAnyH_ready (rs := [4]) (by kernel_rfl) (by simp) ?_
 refine AllReadyH.cons rfl (fun K hK => ?_) AllReadyH.nil
 (try rw [if_pos (show Region.wanted _ _ = true from rfl)])
 go_simp
 refine (HHA.out _).mono ?_
 rintro e w5 ⟨rfl, hN⟩
 have hw5 : Ext w4 w5 := Turn.trans (Turn.drew (Turn.refl _ w4)) hN
 refine hK.out _ _ (HS.out _ (Ext.of hw5)) (fun hS1 => ?_)
 clear hK K hN
 refine tkH (i := 5) (d := 32) (v := ?_) rfl (Or.inl ⟨by rfl, ?_⟩) hS1 ?_
 rotate_left
 ·intro w hSw; (try dsimp only at hSw); go_simp; try with_reducible rfl
 try simp only [Act.put, pq]
 refine wpAnyH_ready (rs := [6]) (by kernel_rfl) (by simp) ?_
 refine AllReadyH.cons rfl (fun K hK => ?_) AllReadyH.nil
 (try rw [if_pos (show Region.wanted _ _ = true from rfl)])
 go_simp
 refine (HMX.out _).mono ?_
 rintro e w6 ⟨rfl, hN⟩
 have hw6 : Ext w4 w6 := Turn.trans hw5 hN
 have z6 := hw6.keep HZ4.out
 refine hK.out _ _ (HS.out _ (Ext.of hw6)) (fun hS2 => ?_)
 clear hK K hN
 refine wpAnyH_ready (rs := [7]) (by kernel_rfl) (by simp) ?_
 refine AllReadyH.cons rfl (fun K hK => ?_) AllReadyH.nil
 (try rw [if_pos (show Region.wanted _ _ = true from rfl)])
 refine wp_store_row 24 (.tmp 6) (.tmp 33) rfl (B + 2) #[.int .u32 (u1 : Int), .int .u32 (u2 : Int)] rfl rfl _ _ z6 (by kernel_rfl) rfl (by kernel_rfl) ?_
 have hT9 := Turn.setRow w6 (B + 2) #[.int .u32 (u1 : Int), .int .u32 (u2 : Int)]
 refine hK.out _ _ (HS.out _ ((Ext.of hw6).trans hT9)) (fun hS3 => ?_)
 clear hK K
 change wpAnyH _ _ _ _ _ _ _ (Act.put _ none _) _
 simp only [Act.put]
 refine tkH (i := 8) (d := 7) (v := ?_) rfl (Or.inl ⟨by rfl, ?_⟩) hS3 ?_
 rotate_left
 ·intro w hSw; (try dsimp only at hSw); go_simp; try with_reducible rfl
 try simp only [Act.put, pq]
 refine wpAnyH_done (by kernel_rfl) ?_ _
 have E6 := E4.trans hw6
 clear hS0 hS1 hS2 hS3 HS
 have HZ6 := Lib.hid z6
 clear z6
 go_wp2
 refine bodyPost_ret (snd_result2 (p := 6) (u := 7) rfl rfl (setRow_heap _ _ _ _ _ _ HZ6.out) (by kernel_rfl)) rfl ?_
 exact ⟨rfl, E6.after hT9 (fun b h1 e => by have := HB.out; omega)⟩


/-- What out holds, ahead of the row k. -/
def thenF (X Y : Bin2) (k : Nat) : Nat → Nat := fun a => if a < k then rowM (comp X Y) a else 0
def thenG (X Y : Bin2) (k : Nat) (pre : List Nat) : Nat → Nat := fun a => if a = k then partB Y pre else thenF X Y k a
theorem thenG_nil (X Y : Bin2) (k : Nat) : thenG X Y k [] = thenF X Y k := by
 funext a; unfold thenG thenF
 by_cases h : a = k
 ·subst h; simp [partB_nil]
 ·rw [if_neg h]
theorem thenG_all (X Y : Bin2) (k : Nat) : thenG X Y k (evs (rowM X k)) = thenF X Y (k + 1) := by
 funext a; unfold thenG thenF
 by_cases h : a = k
 ·subst h; rw [if_pos rfl, if_pos (by omega), evs_rowM, partB_all]
 ·rw [if_neg h]
  by_cases h2 : a < k
  ·rw [if_pos h2, if_pos (by omega)]
  ·rw [if_neg h2, if_neg (by omega)]
theorem thenG_snoc (X Y : Bin2) (k : Nat) (pre : List Nat) (b : Nat) : (fun i => if i = k then partB Y pre ||| rowM Y b else thenG X Y k pre i) = thenG X Y k (pre ++ [b]) := by
 funext a; unfold thenG
 by_cases h : a = k
 ·subst h; rw [if_pos rfl, if_pos rfl, partB_snoc]
 ·rw [if_neg h, if_neg h, if_neg h]
theorem rowM_lt (X : Bin2) (a : Nat) : rowM X a < 8589934592 := by
 have := mask_lt 33 (X a); simpa [rowM] using this
theorem partB_lt (Y : Bin2) (pre : List Nat) : partB Y pre < 8589934592 := by
 have := mask_lt 33 (fun c => pre.any fun b => Y b c); simpa [partB] using this

theorem then_any {w : World} {bx by' : Nat} {X Y : Bin2} (hx : RowsAt w bx (rowM X)) (hy : RowsAt w by' (rowM Y)) (hT : Tab w) :
  Calls Tryz.prog 254 #[.pointer (some ⟨bx, 0, none⟩), .pointer (some ⟨by', 0, none⟩)] w fun e w' => e = .returned (.agg (rowArr (rowM (comp X Y)))) ∧ Ext w w' := by
 have z1 := zero_rel
 have z2 := relArr_size noB
 have z3 := relArr_ne noB
 have hb0 : 0 < w.heap.size := by have := hx.lt; omega
 refine calls_of_wp_marks Tryz.func254 rfl ?_
 simp only [Tryz.ntmps254, List.size_toArray, List.length_cons, List.length_nil, Nat.reduceAdd, Nat.reduceSub, Array.replicate_succ, Array.replicate_zero, List.push_toArray, List.append_toArray, List.nil_append, List.cons_append]
 go_wp2
 clear z1 z2 z3
 obtain ⟨B, hB⟩ : ∃ B, w.heap.size = B := ⟨_, rfl⟩
 have hp : (((w.alloc (.cells #[.pointer (some ⟨by', 0, none⟩)] 275)).alloc (.cells (relArr noB) 223)).alloc (.cells (relArr noB) 223)).heap[B]? = some (.cells #[.pointer (some ⟨by', 0, none⟩)] 275 (0, 0)) := by
  subst hB; exact new_keep (new_keep (new_at rfl))
 have hr : RowsAt (((w.alloc (.cells #[.pointer (some ⟨by', 0, none⟩)] 275)).alloc (.cells (relArr noB) 223)).alloc (.cells (relArr noB) 223)) (B + 1) (fun _ => 0) := by
  subst hB
  refine (new_keep (new_at (by simp))).trans ?_
  rw [rowArr_rel, rowArr_congr fun a _ => rowM_no a]
 have hv : RowsAt (((w.alloc (.cells #[.pointer (some ⟨by', 0, none⟩)] 275)).alloc (.cells (relArr noB) 223)).alloc (.cells (relArr noB) 223)) (B + 1 + 1) (thenF X Y 0) := by
  subst hB
  refine (new_at (by simp)).trans ?_
  rw [rowArr_rel, rowArr_congr (g := thenF X Y 0) fun a _ => by rw [rowM_no]; simp [thenF]]
 have hE : Ext w (((w.alloc (.cells #[.pointer (some ⟨by', 0, none⟩)] 275)).alloc (.cells (relArr noB) 223)).alloc (.cells (relArr noB) 223)) := (((Turn.refl _ w).alloc _).alloc _).alloc _
 generalize (((w.alloc (.cells #[.pointer (some ⟨by', 0, none⟩)] 275)).alloc (.cells (relArr noB) 223)).alloc (.cells (relArr noB) 223)) = w1 at hp hr hv hE ⊢
 have hxl := hx.lt
 have hyl := hy.lt
 rw [hB] at hxl hyl ⊢
 have HB := Lib.hid hB
 have hT0 := hT
 clear hB
 refine wp_loop (fun a W => ∃ (k : Nat) (ds : List Deferred), k ≤ 33 ∧ a.defers = ds ∧ (a.tmps.size = 31 ∧ a.tmps.getD 0 undef = .pointer (some ⟨bx, 0, none⟩) ∧ a.tmps.getD 3 undef = .pointer (some ⟨B, 0, none⟩) ∧ a.tmps.getD 4 undef = .pointer (some ⟨B + 1, 0, none⟩) ∧ a.tmps.getD 5 undef = .pointer (some ⟨B + 1 + 1, 0, none⟩) ∧ a.tmps.getD 9 undef = .pointer (some ⟨bx, 0, none⟩) ∧ a.tmps.getD 10 undef = .int .i64 k) ∧ Marks B ds W ∧
   W.heap[B]? = some (.cells #[.pointer (some ⟨by', 0, none⟩)] 275 (0, 0)) ∧ RowsAt W (B + 1) (fun _ => 0) ∧ RowsAt W (B + 1 + 1) (thenF X Y k) ∧ Ext w W)
  (fun a _ => 33 - (intOf (a.tmps.getD 10 undef)).toNat) ?_ ?_
 ·exact ⟨0, [], by omega, rfl, ⟨rfl, rfl, rfl, rfl, rfl, rfl, rfl⟩, trivial, hp, hr, hv, hE⟩
 clear hp hr hv hE
 rintro ⟨t, ds⟩ W ⟨k, dz, hk, hds, ⟨hsz, f0, f3, f4, f5, f9, f10⟩, hM, hp, hr, hv, hE⟩
 subst hds
 obtain ⟨u', hu⟩ := frame_fun hsz
 obtain ⟨u, rfl⟩ : ∃ x, x = u' := ⟨_, rfl⟩
 have hu' : t = #[u 0, u 1, u 2, u 3, u 4, u 5, u 6, u 7, u 8, u 9, u 10, u 11, u 12, u 13, u 14, u 15, u 16, u 17, u 18, u 19, u 20, u 21, u 22, u 23, u 24, u 25, u 26, u 27, u 28, u 29, u 30] := hu
 clear hu
 subst hu'
 change u 0 = _ at f0
 change u 3 = _ at f3
 change u 4 = _ at f4
 change u 5 = _ at f5
 change u 9 = _ at f9
 change u 10 = _ at f10
 rw [f0, f3, f4, f5, f9, f10]
 clear f0 f3 f4 f5 f9 f10 hsz
 have hxW := hx.keep hE id
 have hyW := hy.keep hE id
 have hTW := hT0.keep hE id
 have hvl := hv.lt
 by_cases hk2 : k < 33
 ·have h1 : (k : Int) < 33 := by omega
  have c1 := hxW.cell hk2
  have HS : Hid (∀ D, Ext W D → D.cell? ⟨bx, k, none⟩ = some (.int .u64 (rowM X k))) := Lib.hid fun D hD => hD.cell_some c1 id
  have hml := rowM_lt X k
  have hMl := hM.lt
  go_wp2
  go_region_held3 (fun w' => w'.cell? ⟨bx, k, none⟩ = some (.int .u64 (rowM X k)))
   ((refine HS.out _ ?_; repeat' (first | exact Turn.refl _ _ | refine Turn.drew ?_ | refine Turn.alloc ?_ _ | refine Turn.setCell ?_ (.inl (by simp)) _))) (first | fail)
  go_wp2_with (go_at_call 195; refine (all_any _ _).mono ?_; rintro e w' ⟨rfl, rfl⟩)
  have hb1 : SBox (((W.alloc (.cells #[.int .i64 k] 3)).alloc (.cells #[.int .u64 (rowM X k)] 221)).drew) (W.heap.size + 1) (rowM X k) := drew_keep (new_at (by simp))
  have hE1 : Ext W (((W.alloc (.cells #[.int .i64 k] 3)).alloc (.cells #[.int .u64 (rowM X k)] 221)).drew) := (((Turn.refl _ _).alloc _).alloc _).drew
  have hk1 : (((W.alloc (.cells #[.int .i64 k] 3)).alloc (.cells #[.int .u64 (rowM X k)] 221)).drew).heap[W.heap.size]? = some (.cells #[.int .i64 k] 3 (0, 0)) := drew_keep (new_keep (new_at rfl))
  have hs1 : (((W.alloc (.cells #[.int .i64 k] 3)).alloc (.cells #[.int .u64 (rowM X k)] 221)).drew).heap.size = W.heap.size + 2 := by simp
  generalize (((W.alloc (.cells #[.int .i64 k] 3)).alloc (.cells #[.int .u64 (rowM X k)] 221)).drew) = W1 at hb1 hE1 hk1 hs1 ⊢
  rw [← thenG_nil] at hv
  clear HS c1
  refine wp_range (xs := evs (rowM X k)) (S := (· = W.heap.size + 1)) (K := fun b' => b' = W.heap.size + 1 ∨ b' = 0) rfl (enters_of Tryz.func203 (by kernel_rfl) rfl)
   (all_iter _ (by omega) (W.heap.size + 1) (by omega) W1 hb1 (hTW.keep hE1 id)) (fun _ h => .inl h) (fun b' h => by omega) (fun _ => rfl)
   (fun pre V => RowsAt V (B + 1 + 1) (thenG X Y k pre) ∧ V.heap[B]? = some (.cells #[.pointer (some ⟨by', 0, none⟩)] 275 (0, 0)) ∧ RowsAt V (B + 1) (fun _ => 0) ∧ V.heap[W.heap.size]? = some (.cells #[.int .i64 k] 3 (0, 0)) ∧ Ext w V ∧ Marks B ds V)
   (fun _ _ _ => False) ?hI ?hIx ?h0 (fun i t => (t.setIfInBounds 18 (.int .i64 i)).setIfInBounds 8 (.int .i64 i)) ?assign ?body ?done ?stop
  case hI =>
   rintro pre P Q ⟨i1, i2, i3, i4, i5, i6⟩ ht
   exact ⟨i1.keep ht (by omega), ht.heap i2 (by omega), i3.keep ht (by omega), ht.heap i4 (by omega), i5.after ht (fun b' h1 h2 => by have := HB.out; omega), i6.keepC hMl ht (fun b' h => .inl (by omega))⟩
  case hIx => exact fun _ _ _ _ h _ => h
  case h0 =>
   intro V hV _
   have hEV : Ext W V := hE1.trans hV
   exact ⟨hv.keep hEV id, hEV.heap hp id, hr.keep hEV id, hV.heap hk1 id, hE.trans hEV, hM.keepC hMl hEV (fun _ h => h.elim)⟩
  case assign =>
   intro i V K hK
   gi_wp2
   exact hK
  case body =>
   rintro pre i rest V hx' hsz ht ⟨i1, i2, i3, i4, i5, i6⟩
   simp only [pq]
   have hi33 : i < 33 := by
    have : i ∈ evs (rowM X k) := by rw [hx']; simp
    rw [evs_rowM] at this
    exact List.mem_range.1 (List.mem_filter.1 this).1
   have hi1 : (i : Int) < 33 := by omega
   have hyV := hy.keep i5 id
   have cK := cell_of_one i4
   have cP := cell_of_one i2
   have cO := i1.cell (a := k) hk2
   have fO := i1.free k
   have cY := hyV.cell hi33
   have e1 : thenG X Y k pre k = partB Y pre := by unfold thenG; rw [if_pos rfl]
   rw [e1] at cO
   have hpl := partB_lt Y pre
   have hyl2 := rowM_lt Y i
   have oA := u64_or_nat (partB Y pre) (rowM Y i) (by omega) (by omega)
   have hst := i1.store k (partB Y pre ||| rowM Y i)
   rw [thenG_snoc] at hst
   have hTs := Turn.set1 V (B + 1 + 1) k (.int .u64 ((partB Y pre ||| rowM Y i : Nat) : Int))
   have hfin : Turn (fun b' => ¬ ((b' = W.heap.size + 1 ∨ b' = 0) ∨ b' = W1.heap.size ∨ b' = W1.heap.size + 1)) V ((V.setCell ⟨B + 1 + 1, k, none⟩ (.int .u64 ((partB Y pre ||| rowM Y i : Nat) : Int))).drew) :=
    (hTs.mono (fun b' _ e => by omega)).drew
   have hI2 : RowsAt ((V.setCell ⟨B + 1 + 1, k, none⟩ (.int .u64 ((partB Y pre ||| rowM Y i : Nat) : Int))).drew) (B + 1 + 1) (thenG X Y k (pre ++ [i])) ∧ ((V.setCell ⟨B + 1 + 1, k, none⟩ (.int .u64 ((partB Y pre ||| rowM Y i : Nat) : Int))).drew).heap[B]? = some (.cells #[.pointer (some ⟨by', 0, none⟩)] 275 (0, 0)) ∧ RowsAt ((V.setCell ⟨B + 1 + 1, k, none⟩ (.int .u64 ((partB Y pre ||| rowM Y i : Nat) : Int))).drew) (B + 1) (fun _ => 0) ∧ ((V.setCell ⟨B + 1 + 1, k, none⟩ (.int .u64 ((partB Y pre ||| rowM Y i : Nat) : Int))).drew).heap[W.heap.size]? = some (.cells #[.int .i64 k] 3 (0, 0)) ∧ Ext w ((V.setCell ⟨B + 1 + 1, k, none⟩ (.int .u64 ((partB Y pre ||| rowM Y i : Nat) : Int))).drew) ∧ Marks B ds ((V.setCell ⟨B + 1 + 1, k, none⟩ (.int .u64 ((partB Y pre ||| rowM Y i : Nat) : Int))).drew) :=
    ⟨hst, hTs.drew.heap i2 (by omega), i3.keep hTs.drew (by omega), hTs.drew.heap i4 (by omega), i5.after hTs.drew (fun b' h1 h2 => by have := HB.out; omega), i6.keepC hMl hTs.drew (fun b' h => .inr (.inr ⟨_, by subst h; exact i1, rfl⟩))⟩
   have HF := Lib.hid hfin; have HI2 := Lib.hid hI2; have HX := Lib.hid hx'; have HE1 := Lib.hid e1
   clear hfin hI2 hx' e1 hst hTs i1 i2 i3 i4 i5 i6 hyV hE1 hE hM hv hr hp hxW hyW ht
   gi_wp2
   refine wpIn_region_still_tail 9 (by kernel_rfl) (by kernel_rfl) (by kernel_rfl) (by rintro ⟨_, _, h⟩; exact h) ?_
   simp only [List.take_succ_cons, List.take_zero, List.drop_succ_cons, List.drop_zero]
   repeat still_step
   refine wpStill_nil ?_
   go_wp2
   exact ⟨HF.out, HI2.out⟩
  case done =>
   rintro V ⟨i1, i2, i3, i4, i5, i6⟩ ht hD
   rw [thenG_all] at i1
   have hDlt : W1.heap.size < V.heap.size := (Array.getElem?_eq_some_iff.1 hD).1
   clear hE1 hE hM hv hr hp hxW hyW
   go_wp2
   exact ⟨⟨k + 1, _, by omega, rfl, ⟨rfl, rfl, rfl, rfl, rfl, rfl, rfl⟩, Marks.cons i6 (by omega) hD (fun e he ht => by have := hMl e he _ ht; omega), i2, i3, i1, i5⟩, by simp [intOf]; omega⟩
  case stop => exact fun _ _ _ _ _ _ h => h.elim
 ·obtain rfl : k = 33 := by omega
  have h1 : ¬ (((33 : Nat) : Int) < 33) := by omega
  have e1 : rowArr (thenF X Y 33) = rowArr (rowM (comp X Y)) := rowArr_congr fun a ha => by unfold thenF; rw [if_pos ha]
  have hrow := RowsAt.row (g := rowM (comp X Y)) hr
  have hTs := Turn.setRow W (B + 1) (rowArr (rowM (comp X Y)))
  have hE2 : Ext w (W.setRow (B + 1) (rowArr (rowM (comp X Y)))) := hE.after hTs (fun b' h1 h2 => by have := HB.out; omega)
  have hM2 : Marks B ds (W.setRow (B + 1) (rowArr (rowM (comp X Y)))) := hM.keep hTs (fun b hb o ho => by
   subst hb; have : W.heap[B + 1]? = _ := hr; rw [this] at ho; cases ho; rfl)
  have hv' : RowsAt W (B + 1 + 1) (rowM (comp X Y)) := by unfold RowsAt; rw [← e1]; exact hv
  have HM2 := Lib.hid hM2; have HE2 := Lib.hid hE2; have HROW := Lib.hid hrow
  clear hM2 hE2 hrow hTs e1 hv
  go_wp2_with (first
   | (refine wpList_load_row rfl 223 (.tmp 5) rfl (B + 1 + 1) rfl _ _ _ _ hv' Tryz.underlying223 rfl (Tryz.relInfo _) ?_)
   | (refine wpList_store_row rfl 223 (.tmp 4) (.tmp 30) rfl (B + 1) (rowArr (rowM (comp X Y))) rfl rfl _ _ hr (Tryz.relInfo _) (by rw [rowArr_size, rowArr_size]) (rowArr_one _) ?_))
  refine leavesM (v := .agg (rowArr (rowM (comp X Y)))) _ _ HM2.out (fun w' ht hs => ⟨rel_result rfl rfl (HROW.out.keep ht (Shut.not HROW.out rfl)), rfl, HE2.out.after ht (fun b' h2 h3 => by have := h3.1; have := HB.out; omega)⟩)
end Go.Proofs.YtamkkhlabfahmaaGreatDoor

namespace Go.Proofs.YtamkkhlabfahmaaGreatDoor
open Go.RowKit Go.Ab

/-- x, the rows below k joined with those of y. -/
def orF (X Y : Bin2) (k : Nat) : Nat → Nat := fun a => if a < k then rowM (orB X Y) a else rowM X a
theorem orF_step (X Y : Bin2) (k : Nat) : (fun i => if i = k then rowM X k ||| rowM Y k else orF X Y k i) = orF X Y (k + 1) := by
 funext a; unfold orF
 by_cases h : a = k
 ·subst h; rw [if_pos rfl, if_pos (by omega), rowM_or]
 ·rw [if_neg h]
  by_cases h2 : a < k
  ·rw [if_pos h2, if_pos (by omega)]
  ·rw [if_neg h2, if_neg (by omega)]

theorem or_any {w : World} {bx by' : Nat} {X Y : Bin2} (hx : RowsAt w bx (rowM X)) (hy : RowsAt w by' (rowM Y)) (hne : bx ≠ by') :
  Calls Tryz.prog 251 #[.pointer (some ⟨bx, 0, none⟩), .pointer (some ⟨by', 0, none⟩)] w fun e w' => (∃ v, e = .returned v) ∧ Turn (· = bx) w w' ∧ RowsAt w' bx (rowM (orB X Y)) := by
 go_enter Tryz.func251, Tryz.ntmps251
 go_wp2
 have hx0 : RowsAt w bx (orF X Y 0) := by
  have : orF X Y 0 = rowM X := by funext a; simp [orF]
  rw [this]; exact hx
 refine wp_loop (fun a W => ∃ (k : Nat), k ≤ 33 ∧ a.defers = [] ∧ (a.tmps.size = 23 ∧ a.tmps.getD 0 undef = .pointer (some ⟨bx, 0, none⟩) ∧ a.tmps.getD 6 undef = .pointer (some ⟨by', 0, none⟩) ∧ a.tmps.getD 7 undef = .int .i64 k) ∧ RowsAt W bx (orF X Y k) ∧ Turn (· = bx) w W)
  (fun a _ => 33 - (intOf (a.tmps.getD 7 undef)).toNat) ?_ ?_
 ·exact ⟨0, by omega, rfl, ⟨rfl, rfl, rfl, rfl⟩, hx0, Turn.refl _ _⟩
 clear hx0
 rintro ⟨t, _⟩ W ⟨k, hk, hds, ⟨hsz, f0, f6, f7⟩, hv, hE⟩
 subst hds
 obtain ⟨u', hu⟩ := frame_fun hsz
 obtain ⟨u, rfl⟩ : ∃ x, x = u' := ⟨_, rfl⟩
 have hu' : t = #[u 0, u 1, u 2, u 3, u 4, u 5, u 6, u 7, u 8, u 9, u 10, u 11, u 12, u 13, u 14, u 15, u 16, u 17, u 18, u 19, u 20, u 21, u 22] := hu
 clear hu
 subst hu'
 change u 0 = _ at f0
 change u 6 = _ at f6
 change u 7 = _ at f7
 rw [f0, f6, f7]
 clear f0 f6 f7 hsz
 have hyW := hy.keep hE (fun h => hne h.symm)
 by_cases hk2 : k < 33
 ·have h1 : (k : Int) < 33 := by omega
  have c1 := hyW.cell hk2
  have c2 := hv.cell hk2
  have f2 := hv.free k
  have e1 : orF X Y k k = rowM X k := by unfold orF; rw [if_neg (by omega)]
  rw [e1] at c2
  have l1 := rowM_lt X k
  have l2 := rowM_lt Y k
  have oA := u64_or_nat (rowM X k) (rowM Y k) (by omega) (by omega)
  have hst := hv.store k (rowM X k ||| rowM Y k)
  rw [orF_step] at hst
  have hTs : ∀ m, Turn (· = bx) w ((W.drewN m).setCell ⟨bx, k, none⟩ (.int .u64 ((rowM X k ||| rowM Y k : Nat) : Int))) := fun m => (hE.drewN m).setCell (p := ⟨bx, k, none⟩) (.inr rfl) _
  have HST := Lib.hid hst; have HTS := Lib.hid hTs; have HE1 := Lib.hid e1
  clear hst hTs e1 hv hE hyW
  go_wp2
  go_quiet (fail)
  go_wp2
  refine region_still 9 (by kernel_rfl) (by kernel_rfl) ?_
  simp only [List.take_succ_cons, List.take_zero, List.drop_succ_cons, List.drop_zero]
  repeat still_step
  refine wpStill_nil ?_
  go_wp2
  exact ⟨⟨k + 1, by omega, by first | rfl | trivial, ⟨rfl, rfl, rfl, rfl⟩, HST.out, HTS.out _⟩, by simp [intOf]; omega⟩
 ·obtain rfl : k = 33 := by omega
  have h1 : ¬ (((33 : Nat) : Int) < 33) := by omega
  have hv' : RowsAt W bx (rowM (orB X Y)) := by
   have e1 : rowArr (orF X Y 33) = rowArr (rowM (orB X Y)) := rowArr_congr fun a ha => by unfold orF; rw [if_pos ha]
   unfold RowsAt; rw [← e1]; exact hv
  have HV := Lib.hid hv'
  clear hv hv'
  go_wp2
  go_end0
  exact ⟨⟨_, rfl⟩, hE, HV.out⟩

theorem i64_and1 (k : Nat) (hk : k < 9223372036854775808) : (bits .and .i64 (k : Int) 1 == 1) = decide (k % 2 = 1) := by
 have e : bits .and .i64 (k : Int) 1 = ((k % 2 : Nat) : Int) := by
  show IntKind.i64.wrap ((BitVec.ofInt 64 (k : Int) &&& BitVec.ofInt 64 ((1 : Nat) : Int)).toNat : Int) = _
  rw [BitVec.toNat_and, ofInt_u64 _ (by omega), ofInt_u64 1 (by omega), Nat.and_one_is_mod]
  exact IntWalk.i64_in _ (by omega)
 rw [e]
 rcases Nat.mod_two_eq_zero_or_one k with h | h <;> simp [h]

theorem power_any {n : Nat} (hn : n ≤ 32) {X : Bin2} (hX : Mono n X) (k : Nat) (hk : k ≤ 64) (w : World) (hT : Tab w) :
  Calls Tryz.prog 247 #[.agg (rowArr (rowM X)), .int .i64 k, .int .i64 n] w fun e w' => e = .returned (.agg (rowArr (rowM (powB X n k)))) ∧ Ext w w' := by
 have z1 := zero_rel
 have z2 := relArr_size noB
 have z3 := relArr_ne noB
 have z4 := rowArr_size (rowM X)
 go_enter Tryz.func247, Tryz.ntmps247
 go_wp2_with fail
 clear z4
 obtain ⟨B, hB⟩ : ∃ B, w.heap.size = B := ⟨_, rfl⟩
 have hx : RowsAt ((w.alloc (.cells (rowArr (rowM X)) 223)).alloc (.cells (relArr noB) 223)) B (rowM X) := by
  subst hB; exact new_keep (new_at rfl)
 have hr : RowsAt ((w.alloc (.cells (rowArr (rowM X)) 223)).alloc (.cells (relArr noB) 223)) (B + 1) (fun _ => 0) := by
  subst hB
  refine (new_at (by simp)).trans ?_
  rw [rowArr_rel, rowArr_congr fun a _ => rowM_no a]
 have hE : Ext w ((w.alloc (.cells (rowArr (rowM X)) 223)).alloc (.cells (relArr noB) 223)) := ((Turn.refl _ w).alloc _).alloc _
 generalize ((w.alloc (.cells (rowArr (rowM X)) 223)).alloc (.cells (relArr noB) 223)) = w1 at hx hr hE ⊢
 rw [hB]
 have HB := Lib.hid hB
 clear hB
 refine (identity_any n hn w1).mono ?_
 rintro e w2 ⟨rfl, hE2⟩
 have hx2 := hx.keep hE2 id
 have hr2 := hr.keep hE2 id
 have hE02 := hE.trans hE2
 have hO0 : (w2.alloc (.cells (relArr noB) 223)).heap[w2.heap.size]? = some (.cells (relArr noB) 223 (0, 0)) := new_at rfl
 go_wp2_with (refine wpList_store_row rfl 223 (.tmp 7) (.tmp 9) rfl w2.heap.size (rowArr (rowM (idB n))) rfl rfl _ _ hO0 (Tryz.relInfo _) (by rw [relArr_size, rowArr_size]) (rowArr_one _) ?_)
 obtain ⟨O, hO⟩ : ∃ O, w2.heap.size = O := ⟨_, rfl⟩
 have hO1 : RowsAt ((w2.alloc (.cells (relArr noB) 223)).setRow w2.heap.size (rowArr (rowM (idB n)))) w2.heap.size (rowM (idB n)) := setRow_heap _ _ _ _ _ _ hO0
 have hE3 : Ext w2 ((w2.alloc (.cells (relArr noB) 223)).setRow w2.heap.size (rowArr (rowM (idB n)))) := ((Turn.refl _ w2).alloc _).after (Turn.setRow _ _ _) (fun b' h1 h2 => by omega)
 have hl2 := hr2.lt
 generalize ((w2.alloc (.cells (relArr noB) 223)).setRow w2.heap.size (rowArr (rowM (idB n)))) = w3 at hO1 hE3 ⊢
 rw [hO] at hO1 hl2 ⊢
 have hx3 := hx2.keep hE3 id
 have hr3 := hr2.keep hE3 id
 have hE03 := hE02.trans hE3
 have hT3 := hT.keep hE03 id
 have hBg : 0 < B := by
  have := hT 0 (by decide)
  rw [← HB.out]
  apply Nat.lt_of_not_le; intro h
  simp [World.cell?, Array.getElem?_eq_none h] at this
 clear hx hr hE hE2 hx2 hr2 hE02 hO0 hE3 hO z1 z2 z3
 refine wp_loop (fun a W => ∃ (j : Nat) (Y out : Bin2), j ≤ 64 ∧ a.defers = [] ∧ (a.tmps.size = 20 ∧ a.tmps.getD 1 undef = .int .i64 j ∧ a.tmps.getD 3 undef = .pointer (some ⟨B, 0, none⟩) ∧ a.tmps.getD 6 undef = .pointer (some ⟨B + 1, 0, none⟩) ∧ a.tmps.getD 7 undef = .pointer (some ⟨O, 0, none⟩)) ∧
   (Mono n Y ∧ Mono n out ∧ comp out (powB Y n j) = powB X n k) ∧ RowsAt W B (rowM Y) ∧ RowsAt W (B + 1) (fun _ => 0) ∧ RowsAt W O (rowM out) ∧ Ext w W)
  (fun a _ => (intOf (a.tmps.getD 1 undef)).toNat) ?_ ?_
 ·exact ⟨k, X, idB n, hk, rfl, ⟨rfl, rfl, rfl, rfl, rfl⟩, ⟨hX, Mono.id n, id_comp hn (Mono.pow hX k)⟩, hx3, hr3, hO1, hE03⟩
 clear hx3 hr3 hO1 hE03 hT3
 rintro ⟨t, _⟩ W ⟨j, Y, out, hj, hds, ⟨hsz, f1, f3, f6, f7⟩, hpl, hY, hr, hO, hE⟩
 subst hds
 obtain ⟨u', hu⟩ := frame_fun hsz
 obtain ⟨u, rfl⟩ : ∃ x, x = u' := ⟨_, rfl⟩
 have hu' : t = #[u 0, u 1, u 2, u 3, u 4, u 5, u 6, u 7, u 8, u 9, u 10, u 11, u 12, u 13, u 14, u 15, u 16, u 17, u 18, u 19] := hu
 clear hu
 subst hu'
 change u 1 = _ at f1
 change u 3 = _ at f3
 change u 6 = _ at f6
 change u 7 = _ at f7
 rw [f1, f3, f6, f7]
 clear f1 f3 f6 f7 hsz
 obtain ⟨hmY, hmo, hpw⟩ := hpl
 have hTW := hT.keep hE id
 have hNB : Turn (fun b => b = B ∨ b = O) W W := Turn.refl _ _
 have hwl : w.heap.size ≤ O ∧ w.heap.size ≤ B := by have := HB.out; omega
 have HWL := Lib.hid hwl
 clear hwl
 by_cases hj0 : j = 0
 ·subst hj0
  rw [show powB Y n 0 = idB n from rfl, comp_id hn hmo] at hpw
  subst hpw
  have hrow := RowsAt.row (g := rowM (powB X n k)) hr
  have hE2 : Ext w (W.setRow (B + 1) (rowArr (rowM (powB X n k)))) := hE.after (Turn.setRow W (B + 1) _) (fun b' h1 h2 => by have := HB.out; omega)
  go_wp2_with (first
   | (refine wpList_load_row rfl 223 (.tmp 7) rfl O rfl _ _ _ _ hO Tryz.underlying223 rfl (Tryz.relInfo _) ?_)
   | (refine wpList_store_row rfl 223 (.tmp 6) (.tmp 19) rfl (B + 1) (rowArr (rowM (powB X n k))) rfl rfl _ _ hr (Tryz.relInfo _) (by rw [rowArr_size, rowArr_size]) (rowArr_one _) ?_))
  exact bodyPost_ret (v := .agg (rowArr (rowM (powB X n k)))) (rel_result rfl rfl hrow) rfl ⟨rfl, hE2⟩
 ·have hj1 : (0 : Int) < (j : Int) := by omega
  have hj2 : (j : Int) ≤ 64 := by omega
  have hbit := i64_and1 j (by omega)
  have HPW := Lib.hid hpw
  clear hpw
  by_cases h1 : j % 2 = 1
  ·rw [decide_eq_true h1] at hbit
   have H1 := Lib.hid h1
   clear h1
   go_wp2_with fail
   refine (then_any hO hY hTW).mono ?_
   rintro e W2 ⟨rfl, hE2⟩
   have hO2 := hO.keep hE2 id
   go_wp2_with (refine wpList_store_row rfl 223 (.tmp 7) (.tmp 17) rfl O (rowArr (rowM (comp out Y))) rfl rfl _ _ hO2 (Tryz.relInfo _) (by rw [rowArr_size, rowArr_size]) (rowArr_one _) ?_)
   have hTs := Turn.setRow W2 O (rowArr (rowM (comp out Y)))
   have hO3 := RowsAt.row (g := rowM (comp out Y)) hO2
   have hY3 := (hY.keep hE2 id).keep hTs (by omega)
   have hr3 := (hr.keep hE2 id).keep hTs (by omega)
   have hE3 := (hE.trans hE2).after hTs (fun b' h1 h2 => by have := HWL.out.1; omega)
   generalize (W2.setRow O (rowArr (rowM (comp out Y)))) = W3 at hO3 hY3 hr3 hE3 ⊢
   have hT3 := hT.keep hE3 id
   clear hTs hO2 hE2 hO hY hr hE hTW hNB
   go_wp2_with fail
   refine (then_any hY3 hY3 hT3).mono ?_
   rintro e W4 ⟨rfl, hE4⟩
   have hY4 := hY3.keep hE4 id
   go_wp2_with (refine wpList_store_row rfl 223 (.tmp 3) (.tmp 18) rfl B (rowArr (rowM (comp Y Y))) rfl rfl _ _ hY4 (Tryz.relInfo _) (by rw [rowArr_size, rowArr_size]) (rowArr_one _) ?_)
   have hTs := Turn.setRow W4 B (rowArr (rowM (comp Y Y)))
   have hY5 := RowsAt.row (g := rowM (comp Y Y)) hY4
   have hO5 := (hO3.keep hE4 id).keep hTs (by omega)
   have hr5 := (hr3.keep hE4 id).keep hTs (by omega)
   have hE5 := (hE3.trans hE4).after hTs (fun b' h1 h2 => by have := HWL.out.2; omega)
   generalize (W4.setRow B (rowArr (rowM (comp Y Y)))) = W5 at hY5 hO5 hr5 hE5 ⊢
   clear hTs hY4 hE4 hY3 hr3 hE3 hO3
   have hp2 : comp (comp out Y) (powB (comp Y Y) n (j / 2)) = powB X n k := by
    rw [pow_two hn hmY, comp_assoc, ← HPW.out]
    congr 1
    have : j = 2 * (j / 2) + 1 := by have := H1.out; omega
    rw [show powB Y n j = powB Y n (2 * (j / 2) + 1) from congrArg _ this]; rfl
   have HP2 := Lib.hid hp2
   clear hp2
   go_wp2
   exact ⟨⟨j / 2, comp Y Y, comp out Y, by omega, by first | rfl | trivial, ⟨rfl, rfl, rfl, rfl, rfl⟩, ⟨hmY.comp hmY, hmo.comp hmY, HP2.out⟩, hY5, hr5, hO5, hE5⟩, by simp [intOf]; omega⟩
  ·rw [decide_eq_false h1] at hbit
   have H1 := Lib.hid h1
   clear h1
   go_wp2_with fail
   refine (then_any hY hY hTW).mono ?_
   rintro e W4 ⟨rfl, hE4⟩
   have hY4 := hY.keep hE4 id
   go_wp2_with (refine wpList_store_row rfl 223 (.tmp 3) (.tmp 18) rfl B (rowArr (rowM (comp Y Y))) rfl rfl _ _ hY4 (Tryz.relInfo _) (by rw [rowArr_size, rowArr_size]) (rowArr_one _) ?_)
   have hTs := Turn.setRow W4 B (rowArr (rowM (comp Y Y)))
   have hY5 := RowsAt.row (g := rowM (comp Y Y)) hY4
   have hO5 := (hO.keep hE4 id).keep hTs (by omega)
   have hr5 := (hr.keep hE4 id).keep hTs (by omega)
   have hE5 := (hE.trans hE4).after hTs (fun b' h1 h2 => by have := HWL.out.2; omega)
   generalize (W4.setRow B (rowArr (rowM (comp Y Y)))) = W5 at hY5 hO5 hr5 hE5 ⊢
   clear hTs hY4 hE4 hY hr hE hO
   have hp2 : comp out (powB (comp Y Y) n (j / 2)) = powB X n k := by
    rw [pow_two hn hmY, ← HPW.out]
    congr 2
    have := H1.out; omega
   have HP2 := Lib.hid hp2
   clear hp2
   go_wp2
   exact ⟨⟨j / 2, comp Y Y, out, by omega, by first | rfl | trivial, ⟨rfl, rfl, rfl, rfl, rfl⟩, ⟨hmY.comp hmY, hmo, HP2.out⟩, hY5, hr5, hO5, hE5⟩, by simp [intOf]; omega⟩
end Go.Proofs.YtamkkhlabfahmaaGreatDoor
