/- pats.relation in memory; identity. -/
import Derived.Test.YtapfoaiibjdfnaaDoorSetAll
import Derived.Laws.Rows
import Derived.Laws.Tables
import Derived.Deep.WholeRow
namespace Go.Proofs.YtapfoaiibjdfnaaDoor
open Go.RowKit Go.Ab

/-- The 33 cells of a relation; a name that the walk does not open. -/
def relArr (M : Bin2) : Array Value := ((List.range 33).map fun a => Value.int .u64 (rowM M a)).toArray
theorem relArr_size (M : Bin2) : (relArr M).size = 33 := by simp [relArr]
theorem relArr_ne (M : Bin2) : (relArr M = #[]) = False := by
  apply eq_false; intro h; have := relArr_size M; rw [h] at this; simp at this
theorem relArr_one (M : Bin2) : (relArr M).all (·.oneCell') = true := by
  rw [Array.all_eq_true']
  intro v hv
  simp only [relArr, List.mem_toArray, List.mem_map] at hv
  obtain ⟨_, _, rfl⟩ := hv; rfl
theorem relArr_get (M : Bin2) {a : Nat} (h : a < 33) : (relArr M)[a]? = some (.int .u64 (rowM M a)) := by simp [relArr, h]
theorem relArr_no : relArr noB = (Array.replicate 33 (Value.int .u64 0)) := by
  unfold relArr
  have : (fun a => Value.int .u64 ((rowM noB a : Nat) : Int)) = fun _ => Value.int .u64 0 := by funext a; rw [rowM_no]; rfl
  rw [this]; rfl
theorem zero_rel (w : World) : (zeroValue 68).run Tryd.prog w = .ok (.agg (relArr noB)) w := by
  rw [relArr_no]; kernel_rfl

/-- Rows from a function. -/
def rowArr (f : Nat → Nat) : Array Value := ((List.range 33).map fun a => Value.int .u64 (f a)).toArray
theorem rowArr_rel (M : Bin2) : relArr M = rowArr (rowM M) := rfl
theorem rowArr_set (f : Nat → Nat) (a v : Nat) : (rowArr f).setIfInBounds a (.int .u64 (v : Int)) = rowArr fun i => if i = a then v else f i := by
  unfold rowArr
  rw [List.setIfInBounds_toArray]
  congr 1
  apply List.ext_getElem?
  intro i
  simp only [List.getElem?_set, List.getElem?_map, List.length_map, List.length_range]
  by_cases hx : a = i
  · subst hx
    by_cases hm : a < 33
    · simp [hm]
    · simp [hm]
  · rw [if_neg hx]
    by_cases hm : i < 33
    · simp [hm, Ne.symm hx]
    · simp [hm]
theorem rowArr_congr {f g : Nat → Nat} (h : ∀ a, a < 33 → f a = g a) : rowArr f = rowArr g := by
  unfold rowArr
  rw [List.map_congr_left fun a ha => by rw [h a (List.mem_range.1 ha)]]
theorem rowArr_get (f : Nat → Nat) {a : Nat} (h : a < 33) : (rowArr f)[a]? = some (.int .u64 (f a)) := by simp [rowArr, h]
theorem rowArr_size (f : Nat → Nat) : (rowArr f).size = 33 := by simp [rowArr]

/-- Block b holds these rows. -/
def RowsAt (w : World) (b : Nat) (f : Nat → Nat) : Prop := w.heap[b]? = some (.cells (rowArr f) 68 (0, 0))
theorem RowsAt.cell {w : World} {b : Nat} {f : Nat → Nat} (h : RowsAt w b f) {a : Nat} (ha : a < 33) : w.cell? ⟨b, a, none⟩ = some (.int .u64 (f a)) := by
  rw [cell_of_row w b a _ _ _ h, rowArr_get f ha]
theorem RowsAt.free {w : World} {b : Nat} {f : Nat → Nat} (h : RowsAt w b f) (a : Nat) : w.frozen? ⟨b, a, none⟩ = false := frozen_of_row w b a _ _ h
theorem RowsAt.keep {S : Nat → Prop} {A B : World} {b : Nat} {f : Nat → Nat} (h : RowsAt A b f) (ht : Turn S A B) (hS : ¬ S b) : RowsAt B b f := ht.heap h hS
theorem RowsAt.lt {w : World} {b : Nat} {f : Nat → Nat} (h : RowsAt w b f) : b < w.heap.size := (Array.getElem?_eq_some_iff.1 h).1
theorem RowsAt.store {w : World} {b : Nat} {f : Nat → Nat} (h : RowsAt w b f) (a v : Nat) : RowsAt (w.setCell ⟨b, a, none⟩ (.int .u64 (v : Int))) b (fun i => if i = a then v else f i) := by
  unfold RowsAt
  rw [heap_setCell_same w b a _ _ _ h, rowArr_set]
theorem RowsAt.row {w : World} {b : Nat} {f g : Nat → Nat} (h : RowsAt w b f) : RowsAt (w.setRow b (rowArr g)) b g := setRow_heap w b _ _ _ _ h
theorem Turn.setRow (A : World) (b : Nat) (cs : Array Value) : Turn (· = b) A (A.setRow b cs) :=
  ⟨rfl, rfl, rfl, by simp, fun i _ hi => by
    show (A.heap.modify b _)[i]? = _
    rw [Array.getElem?_modify, if_neg (fun e => hi e.symm)]⟩
theorem Tryd.relInfo (f : Nat → Nat) : (Tryd.prog.info? 68).map (·.size) = some (rowArr f).size := by
  rw [rowArr_size]; kernel_rfl
theorem rowArr_one (f : Nat → Nat) : (rowArr f).all (·.oneCell') = true := by
  rw [Array.all_eq_true']
  intro v hv
  simp only [rowArr, List.mem_toArray, List.mem_map] at hv
  obtain ⟨_, _, rfl⟩ := hv; rfl

theorem pow_u64 {k : Nat} (hk : k < 64) : IntKind.u64.wrap (2 ^ k) = ((2 ^ k : Nat) : Int) := by
  have hp : 2 ^ k < 18446744073709551616 := by
    have := Nat.pow_lt_pow_right (a := 2) (by decide) hk
    simpa using this
  rw [IntKind.wrap_u64]
  have e : ((2 : Int) ^ k) = ((2 ^ k : Nat) : Int) := by simp
  rw [e]
  generalize 2 ^ k = P at hp
  omega

/-- The result's block, and the variable's. -/
theorem rel_result {fn : Func} {p : Tmp} (h : fn.results = #[.cell p 68]) {tmps : Array Value} {w : World} {g : Nat} {f : Nat → Nat} (hp : tmps.getD p undef = .pointer (some ⟨g, 0, none⟩)) (hg : RowsAt w g f) :
    (results fn tmps).run Tryd.prog w = .ok (.agg (rowArr f)) w :=
  results_cell_row h tmps w g _ _ _ _ hp hg Tryd.underlying68 rfl (Tryd.relInfo f)

set_option maxRecDepth 100000 in
set_option maxHeartbeats 4000000 in
theorem identity_any (n : Nat) (hn : n ≤ 32) (w : World) :
    Calls Tryd.prog 110 #[.int .i64 n] w fun e w' => e = .returned (.agg (rowArr (rowM (idB n)))) ∧ Ext w w' := by
  have z1 := zero_rel
  have z2 := relArr_size noB
  have z3 := relArr_ne noB
  go_enter Tryd.func110, Tryd.ntmps110
  go_wp2
  clear z1 z2 z3
  obtain ⟨B, hB⟩ : ∃ B, w.heap.size = B := ⟨_, rfl⟩
  have hr : RowsAt ((w.alloc (.cells (relArr noB) 68)).alloc (.cells (relArr noB) 68)) B (fun _ => 0) := by
    subst hB
    refine new_keep (new_at rfl) |>.trans ?_
    rw [rowArr_rel, rowArr_congr fun a _ => rowM_no a]
  have hv : RowsAt ((w.alloc (.cells (relArr noB) 68)).alloc (.cells (relArr noB) 68)) (B + 1) (fun a => if a < 0 then 2 ^ a else 0) := by
    subst hB
    refine (new_at (by simp)).trans ?_
    rw [rowArr_rel, rowArr_congr (g := fun a => if a < 0 then 2 ^ a else 0) fun a _ => by rw [rowM_no]; simp]
  have hE : Ext w ((w.alloc (.cells (relArr noB) 68)).alloc (.cells (relArr noB) 68)) := ((Turn.refl _ w).alloc _).alloc _
  generalize ((w.alloc (.cells (relArr noB) 68)).alloc (.cells (relArr noB) 68)) = w1 at hr hv hE ⊢
  rw [hB]
  have HB := Lib.hid hB
  clear hB
  refine wp_loop (fun a W => ∃ (k : Nat), k ≤ n + 1 ∧ a.defers = [] ∧ (a.tmps.size = 16 ∧ a.tmps.getD 2 undef = .pointer (some ⟨B, 0, none⟩) ∧ a.tmps.getD 3 undef = .pointer (some ⟨B + 1, 0, none⟩) ∧ a.tmps.getD 6 undef = .int .i64 ((n : Int) + 1) ∧ a.tmps.getD 7 undef = .int .i64 k) ∧ RowsAt W B (fun _ => 0) ∧ RowsAt W (B + 1) (fun a => if a < k then 2 ^ a else 0) ∧ Ext w W)
    (fun a _ => n + 1 - (intOf (a.tmps.getD 7 undef)).toNat) ?_ ?_
  · exact ⟨0, by omega, rfl, ⟨rfl, rfl, rfl, rfl, rfl⟩, hr, hv, hE⟩
  clear hr hv hE
  rintro ⟨t, _⟩ W ⟨k, hk, hds, ⟨hsz, f2, f3, f6, f7⟩, hr, hv, hE⟩
  subst hds
  obtain ⟨u', hu⟩ := frame_fun hsz
  obtain ⟨u, rfl⟩ : ∃ x, x = u' := ⟨_, rfl⟩
  have hu' : t = #[u 0, u 1, u 2, u 3, u 4, u 5, u 6, u 7, u 8, u 9, u 10, u 11, u 12, u 13, u 14, u 15] := hu
  clear hu
  subst hu'
  change u 2 = _ at f2
  change u 3 = _ at f3
  change u 6 = _ at f6
  change u 7 = _ at f7
  rw [f2, f3, f6, f7]
  clear f2 f3 f6 f7 hsz
  by_cases hkn : k < n + 1
  · have h1 : (k : Int) < (n : Int) + 1 := by omega
    have h2 : (k : Int) < 33 := by omega
    have h3 : (k : Int) < 64 := by omega
    have c1 := hv.cell (a := k) (by omega)
    have f1 := hv.free k
    have hw := pow_u64 (k := k) (by omega)
    have hs := hv.store k (2 ^ k)
    have hfe : (fun i => if i = k then 2 ^ k else if i < k then 2 ^ i else 0) = fun a => if a < k + 1 then 2 ^ a else 0 := by
      funext i
      by_cases e : i = k
      · subst e; simp
      · rw [if_neg e]
        by_cases h : i < k
        · rw [if_pos h, if_pos (by omega)]
        · rw [if_neg h, if_neg (by omega)]
    rw [hfe] at hs
    have hr2 := hr.keep (Turn.set1 W (B + 1) k (.int .u64 ((2 ^ k : Nat) : Int))) (by omega)
    have hE2 : Ext w (W.setCell ⟨B + 1, k, none⟩ (.int .u64 ((2 ^ k : Nat) : Int))) := hE.after (Turn.set1 W (B + 1) k _) (fun b' h1 h2 => by have := HB.out; omega)
    have HS := Lib.hid hs; have HR := Lib.hid hr2; have HE := Lib.hid hE2
    clear hfe hs hr2 hE2 hr hv hE
    go_wp2
    exact ⟨⟨k + 1, by omega, by first | rfl | trivial, ⟨rfl, rfl, rfl, rfl, rfl⟩, HR.out, HS.out, HE.out⟩, by simp [intOf]; omega⟩
  · obtain rfl : k = n + 1 := by omega
    have h1 : ¬ (((n + 1 : Nat) : Int) < (n : Int) + 1) := by omega
    have hrow := RowsAt.row (g := fun a => if a < n + 1 then 2 ^ a else 0) hr
    have hE2 : Ext w (W.setRow B (rowArr fun a => if a < n + 1 then 2 ^ a else 0)) := hE.after (Turn.setRow W B _) (fun b' h1 h2 => by have := HB.out; omega)
    go_wp2_with (first
      | (refine wpList_load_row rfl 68 (.tmp 3) rfl (B + 1) rfl _ _ _ _ hv Tryd.underlying68 rfl (Tryd.relInfo _) ?_)
      | (refine wpList_store_row rfl 68 (.tmp 2) (.tmp 15) rfl B (rowArr fun a => if a < n + 1 then 2 ^ a else 0) rfl rfl _ _ hr (Tryd.relInfo _) (by rw [rowArr_size, rowArr_size]) (rowArr_one _) ?_))
    refine bodyPost_ret (v := .agg (rowArr fun a => if a < n + 1 then 2 ^ a else 0)) (rel_result rfl rfl hrow) rfl ⟨?_, hE2⟩
    rw [rowArr_congr (g := rowM (idB n)) fun a _ => ?_]
    by_cases h : a < n + 1
    · rw [if_pos h, rowM_id hn (by omega)]
    · rw [if_neg h, rowM_out (Mono.id n) (by omega)]
end Go.Proofs.YtapfoaiibjdfnaaDoor
