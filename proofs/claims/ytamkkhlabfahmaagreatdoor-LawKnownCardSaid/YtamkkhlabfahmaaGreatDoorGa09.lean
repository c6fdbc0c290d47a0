/- slices.Collect over a set; pats.Ends. slices.Collect over a set; pats.Ends. Patterns of one's own: rows of nodes, no block twice. No program is named. law.around, hits: the places that are hit, one after the other; law.hit. law.hit. -/
import Derived.Test.YtamkkhlabfahmaaGreatDoorGa08
import Derived.Test.YtamkkhlabfahmaaGreatDoorGa06
import Derived.Test.YtamkkhlabfahmaaGreatDoorGa00
import Derived.BigQuiet
import Derived.IntWalk
set_option maxRecDepth 100000
set_option maxHeartbeats 8000000
namespace Go.Proofs.YtamkkhlabfahmaaGreatDoor
open Go.RowKit Go.Ab
attribute [local go_sem] Oper.semAt_some wide_fn wide_depth

theorem append_seq {w : World} {bx v : Nat} (hv : v < 18446744073709551616) (hbx : bx ≠ 0) (hb : SBox w bx v) (hT : Tab w) (hl : (evs v).length ≤ 64) :
  Calls Tryz.prog 153 #[.slice none 0 0, .func (.func 203) #[] #[.pointer (some ⟨bx, 0, none⟩)]] w fun e w' => ∃ u, e = .returned u ∧ w'.ownsRow w.heap.size 3 1 u (evs v).length (natV (evs v)) ∧ Turn (· = bx) w w' := by
 refine calls_of_wp_marks Tryz.func153 rfl ?_
 simp only [Tryz.ntmps153, List.size_toArray, List.length_cons, List.length_nil, Nat.reduceAdd, Nat.reduceSub, Array.replicate_succ, Array.replicate_zero, List.push_toArray, List.append_toArray, List.nil_append, List.cons_append]
 go_wp2
 obtain ⟨B, hB⟩ : ∃ B, w.heap.size = B := ⟨_, rfl⟩
 have hbl : bx < B := by rw [← hB]; exact (Array.getElem?_eq_some_iff.1 hb).1
 have htl : 0 < B := by rw [← hB]; exact tab_lt hT
 have hL1 : (w.alloc (.cells #[.slice none 0 0] 46)).heap[B]? = some (.cells #[.slice none 0 0] 46 (0, 0)) := new_at hB.symm
 have hE1 : Ext w (w.alloc (.cells #[.slice none 0 0] 46)) := (Turn.refl _ w).alloc _
 have hs1 : (w.alloc (.cells #[.slice none 0 0] 46)).heap.size = B + 1 := by rw [← hB]; simp
 generalize (w.alloc (.cells #[.slice none 0 0] 46)) = w1 at hL1 hE1 hs1 ⊢
 have hb1 : SBox w1 bx v := hE1.keep hb
 have hT1 := hT.keep hE1 id
 rw [hB]
 have HB := Lib.hid hB
 clear hB
 refine wp_range (xs := evs v) (S := (· = bx)) (K := fun b' => b' = bx ∨ b' = 0) rfl (enters_of Tryz.func203 (by kernel_rfl) rfl)
  (all_iter _ hv bx hbx w1 hb1 hT1) (fun _ h => .inl h) (fun b' h => by omega) (fun _ => rfl)
  (fun pre V => ∃ u, V.heap[B]? = some (.cells #[u] 46 (0, 0)) ∧ V.ownsRow B 3 1 u pre.length (natV pre) ∧ (∀ g, u.ownBlock = some g → g ≠ B ∧ g ≠ B + 1 ∧ g ≠ B + 2) ∧ Turn (· = bx) w V)
  (fun _ _ _ => False) ?hI ?hIx ?h0 (fun i t => (t.setIfInBounds 7 (.int .i64 i)).setIfInBounds 5 (.int .i64 i)) ?assign ?body ?done ?stop
 case hI =>
  rintro pre P Q ⟨u, i1, i2, i3, i4⟩ ht0
  have ht : Turn (fun b => b = bx ∨ b = B + 2) P Q := ht0.mono (fun b _ h => by omega)
  exact ⟨u, ht.heap i1 (by omega), own_keep i2 ht (fun b hb e => by have := i3 b hb; have := (i2.lt _ hb).1; omega), i3, i4.after ht (fun b' h1 h2 => by have := HB.out; omega)⟩
 case hIx => exact fun _ _ _ _ h _ => h
 case h0 =>
  intro V hV _
  exact ⟨.slice none 0 0, hV.keep hL1, World.ownsRow_nil _ _ _ _, (fun g hg => by cases hg), Ext.of (Turn.trans hE1 hV)⟩
 case assign =>
  intro i V K hK
  gi_wp2
  exact hK
 case body =>
  rintro pre i rest V hx hsz ht ⟨u, i1, i2, i3, i4⟩
  simp only [pq]
  have hpl : pre.length < 64 := by
   have := congrArg List.length hx
   simp at this
   omega
  have cL := cell_of_one i1
  have fL := free_of_one i1
  have hBV : B < V.heap.size := (Array.getElem?_eq_some_iff.1 i1).1
  have hX := Lib.hid hx
  clear hx
  refine wpIn_block ?_
  refine wpIn_region_plain (by kernel_rfl) (by rintro ⟨_, _, h⟩; exact h) ?_
  have I1 := Lib.hid i1
  clear i1
  go_wp2_with (at_builtin; refine append_row rfl (.tmp 8) (.tmp 10) 46 rfl B 3 _ 1 8 Tryz.underlying46 Tryz.infoI rfl (by decide) _ _ _ rfl (own_ext i2 ((Turn.refl _ V).alloc _)) ⟨V.heap.size, 0, none⟩ 1 1 [.int .i64 i] rfl rfl (new_cells' rfl) ?c2 ?c3 ?c4 ?c5 ?_)
  case c2 => first | rfl | (intro u hu; simp at hu; rcases hu with rfl; rfl)
  case c3 => unfold maxLen; omega
  case c4 => omega
  case c5 => simp; omega
  intro ao' c' w5 hO5 hT5 hB5
  have hT6 : Turn (fun b' => u.ownBlock = some b') V w5 := Turn.trans (Turn.alloc (Turn.refl _ V) _) hT5
  have hL5 := hT6.heap I1.out (fun e => (i3 _ e).1 rfl)
  have hE5 : Turn (· = bx) w w5 := i4.after hT6 (fun b' h1 e => by have := (i2.lt _ e).1; have := HB.out; omega)
  have hg5 : ∀ g, (Value.slice ao' (pre.length + 1) c').ownBlock = some g → g ≠ B ∧ g ≠ B + 1 ∧ g ≠ B + 2 := by
   intro g hg
   rcases hB5 with e | e
   ·exact i3 g (e ▸ hg)
   ·rw [hg] at e; cases e; omega
  have cL5 := cell_of_one hL5
  have fL5 := free_of_one hL5
  have hT7 := Turn.set1 w5 B 0 (.slice ao' (pre.length + 1) c')
  have hL7 : (w5.setCell ⟨B, 0, none⟩ (.slice ao' (pre.length + 1) c')).heap[B]? = some (.cells #[.slice ao' (pre.length + 1) c'] 46 (0, 0)) := by
   simp only [World.setCell, Array.getElem?_modify, hL5]
   simp
  have hKV : Turn (fun b => ¬ ((b = bx ∨ b = 0) ∨ b = B + 1 ∨ b = B + 1 + 1)) V (w5.setCell ⟨B, 0, none⟩ (.slice ao' (pre.length + 1) c')) :=
   (hT6.mono (fun b' _ e => by have := i3 _ e; have := (i2.lt _ e).1; omega)).trans (hT7.mono (fun b' _ e => by omega))
  have hfin : ∃ u, (w5.setCell ⟨B, 0, none⟩ (.slice ao' (pre.length + 1) c')).heap[B]? = some (.cells #[u] 46 (0, 0)) ∧ (w5.setCell ⟨B, 0, none⟩ (.slice ao' (pre.length + 1) c')).ownsRow B 3 1 u (pre ++ [i]).length (natV (pre ++ [i])) ∧ (∀ g, u.ownBlock = some g → g ≠ B ∧ g ≠ B + 1 ∧ g ≠ B + 2) ∧ Turn (· = bx) w (w5.setCell ⟨B, 0, none⟩ (.slice ao' (pre.length + 1) c')) := by
   refine ⟨_, hL7, ?_, hg5, hE5.after hT7 (fun b h1 h2 => by have := HB.out; omega)⟩
   rw [natV_append, List.length_append]
   exact own_keep hO5 hT7 (fun b hb e => (hg5 b hb).1 e)
  have HKV := Lib.hid hKV; have HFIN := Lib.hid hfin
  clear hKV hfin hL7 hT7 hg5 hE5 hT6 hT5 hO5 hB5 cL fL i2 i3 i4 ht
  go_wp2
  exact ⟨HKV.out, HFIN.out⟩
 case done =>
  rintro V ⟨u, i1, i2, i3, i4⟩ ht hD
  have cL := cell_of_one i1
  clear hE1 hb1 hT1 hL1
  go_wp2
  have hm : Marks B ({ target := .collected w1.heap.size, args := #[] } :: []) V := Marks.cons (base := B) trivial (by omega) hD (fun e he => by cases he)
  refine bodyPostM_ret hm (fun w' => results_tmp rfl _ _ _) (fun w' ht' hs => ⟨u, rfl, ?_, ?_⟩)
  ·rw [HB.out]
   exact own_keep i2 ht' (fun b hb e => by obtain ⟨cur, hc⟩ := own_block_ty i2 hb; exact Shut.not hc rfl e)
  ·exact i4.after ht' (fun b' h2 h3 => by have := h3.1; have := HB.out; omega)
 case stop => exact fun _ _ _ _ _ _ h => h.elim


theorem collect_any {w : World} {bx v : Nat} (hv : v < 18446744073709551616) (hbx : bx ≠ 0) (hb : SBox w bx v) (hT : Tab w) (hl : (evs v).length ≤ 64) :
  Calls Tryz.prog 110 #[.func (.func 203) #[] #[.pointer (some ⟨bx, 0, none⟩)]] w fun e w' => ∃ u, e = .returned u ∧ w'.ownsRow w.heap.size 3 1 u (evs v).length (natV (evs v)) ∧ Turn (· = bx) w w' := by
 go_enter Tryz.func110, Tryz.ntmps110
 go_wp2_with fail
 refine (append_seq hv hbx hb hT hl).mono ?_
 rintro e w2 ⟨u, rfl, h1, h2⟩
 go_wp2
 go_ret
 exact ⟨_, rfl, h1, h2⟩
theorem evs_row (R : Bin2) (a : Nat) : evs (rowM R a) = (List.range 33).filter (R a) := evs_rowM R a
/-- Nothing is matched beyond the word. -/
theorem rng_filter {R : Bin2} {a n : Nat} (hn : n ≤ 32) (hR : ∀ b, R a b = true → b ≤ n) : (List.range 33).filter (R a) = (List.range (n + 1)).filter (fun b => R a b) := by
 have e : List.range 33 = List.range (n + 1) ++ (List.range (32 - n)).map (n + 1 + ·) := by
  rw [← List.range_add, show n + 1 + (32 - n) = 33 by omega]
 rw [e, List.filter_append]
 have : ((List.range (32 - n)).map (n + 1 + ·)).filter (R a) = [] := by
  rw [List.filter_eq_nil_iff]
  intro x hx h
  obtain ⟨i, _, rfl⟩ := List.mem_map.1 hx
  have := hR _ h
  omega
 rw [this, List.append_nil]

theorem ends_any {K : Nat → Prop} {w : World} {p : Pat} {cs : List Value} {v : Value} {ws : Wd} (hp : PatAt K w p cs) (hK : ∀ g, K g → g < w.heap.size) (hv : WordAt w v ws) (hT : Tab w) (at' : Int) :
  Calls Tryz.prog 180 #[.agg cs.toArray, v, .int .i64 at'] w fun e w' => ∃ u, e = .returned (.tuple #[u, .int .i64 (placeE p ws at')]) ∧ w'.ownsRow w.heap.size 3 1 u (endL p ws at').length (natV (endL p ws at')) ∧ Ext w w' := by
 have hmono : Mono ws.length (relR p ws) := by
  unfold relR
  split
  ·exact relP_mono ws p
  ·exact Mono.no _
 have HT := Lib.hid hT
 have hre := fun (V : World) (hE : Ext w V) => relate_any (K := K) (hp.ext hE) (fun g hg => Nat.lt_of_lt_of_le (hK g hg) hE.size) (hv.ext hE) (hT.keep hE id)
 obtain ⟨ao, cap, rfl, hlc, hcm, _⟩ := patAt_cells hp
 obtain ⟨bo, bcap, rfl, hbm⟩ := hv.slice
 clear hp hlc hcm hv hT hK
 have HRE := Lib.hid hre
 clear hre
 obtain ⟨z, hz⟩ : ∃ z, relE p ws = z := ⟨_, rfl⟩
 obtain ⟨R, hR⟩ : ∃ R, relR p ws = R := ⟨_, rfl⟩
 obtain ⟨n, hN⟩ : ∃ n, ws.length = n := ⟨_, rfl⟩
 have HP : Hid (placeE p ws at' = if z = 0 then exE n at' else z) := Lib.hid (by unfold placeE; rw [hz, hN])
 have HL : Hid (endL p ws at' = if placeE p ws at' = 0 then (List.range (n + 1)).filter (fun b => R at'.toNat b) else []) := Lib.hid (by unfold endL; rw [hR, hN])
 have hn32 : z = 0 → n ≤ 32 := fun h => by
  subst hz; subst hN
  exact relE_len h
 rw [hz] at HRE
 rw [hR] at HRE hmono
 rw [hN] at HRE hbm hmono ⊢
 have HMO := Lib.hid hmono
 clear hmono
 clear hz hR hN
 have HNL := Lib.hid hn32
 clear hn32
 unfold patCells at HRE ⊢
 have z1 := zero_rel
 have z2 := relArr_size noB
 have z3 := relArr_ne noB
 go_enter Tryz.func180, Tryz.ntmps180
 go_wp2_with fail
 refine (HRE.out _ ((Turn.refl _ w).alloc _)).mono ?_
 rintro e w2 ⟨rfl, hE2⟩
 have hE02 : Ext w w2 := Turn.trans ((Turn.refl _ w).alloc _) hE2
 clear hE2
 have hR0 : (w2.alloc (.cells (relArr noB) 223)).heap[w2.heap.size]? = some (.cells (relArr noB) 223 (0, 0)) := new_at rfl
 have hR3 : RowsAt ((w2.alloc (.cells (relArr noB) 223)).setRow w2.heap.size (rowArr (rowM R))) w2.heap.size (rowM R) := setRow_heap _ _ _ _ _ _ hR0
 have hE3 : Ext w ((w2.alloc (.cells (relArr noB) 223)).setRow w2.heap.size (rowArr (rowM R))) := hE02.trans (((Turn.refl _ w2).alloc _).after (Turn.setRow _ _ _) (fun b' h1 h2 => by omega))
 go_upto_region 2 with (refine wpList_store_row rfl 223 (.tmp 8) (.tmp 14) rfl w2.heap.size (rowArr (rowM R)) rfl rfl _ _ hR0 (Tryz.relInfo _) (by rw [relArr_size, rowArr_size]) (rowArr_one _) ?_)
 generalize ((w2.alloc (.cells (relArr noB) 223)).setRow w2.heap.size (rowArr (rowM R))) = w3 at hR3 hE3 ⊢
 generalize w2.heap.size = b at hR3 ⊢
 clear hR0 hE02 z1 z2 z3
 by_cases hz0 : z = 0
 ·have hn := HNL.out hz0
  rw [if_pos hz0] at HP
  subst hz0
  go_wp2_with fail
  refine (exists_any _ _ _ _ _).mono ?_
  rintro e w4 ⟨rfl, rfl⟩
  by_cases hin : at' < 0 ∨ (n : Int) < at'
  ·have hex : exE n at' = 3 := by unfold exE; rw [if_pos hin]
   rw [hex] at HP ⊢
   clear hex
   go_wp2
   refine bodyPost_ret (results_two rfl _ _ _) rfl ⟨_, by rw [HP.out]; rfl, ?_, hE3⟩
   rw [HL.out, HP.out, if_neg (by decide)]
   exact World.ownsRow_nil _ _ _ _
  ·have hex : exE n at' = 0 := by unfold exE; rw [if_neg hin]
   rw [hex] at HP ⊢
   obtain ⟨m, rfl⟩ : ∃ m : Nat, at' = m := ⟨at'.toNat, by omega⟩
   have HL2 : Hid (endL p ws m = (List.range (n + 1)).filter (fun b => R m b)) := Lib.hid (by rw [HL.out, HP.out]; rfl)
   have hmn : m ≤ n := by omega
   have c0 := hR3.cell (a := m) (by omega)
   have hl := rowM_lt R m
   have hrg : (List.range 33).filter (R m) = (List.range (n + 1)).filter (fun b => R m b) := rng_filter hn (fun b hb => (HMO.out m b hb).2)
   have HRG := Lib.hid hrg
   clear hex HL hin hrg
   go_wp2_with (go_at_call 195; refine (all_any _ _).mono ?_; rintro e w' ⟨rfl, rfl⟩)
   have hTl := tab_lt HT.out
   have hs4 := hE3.size
   have hE4 : Ext w (w4.alloc (.cells #[.int .u64 (rowM R m : Int)] 221)) := Turn.alloc hE3 _
   have hlen : (evs (rowM R m)).length ≤ 64 := by
    rw [evs_row]
    have := List.length_filter_le (R m) (List.range 33)
    simp at this
    omega
   refine (collect_any (v := rowM R m) (bx := w4.heap.size) (by omega) (by omega) (new_at rfl) (HT.out.keep hE4 id) hlen).mono ?_
   rintro e w6 ⟨u, rfl, hO6, hT6⟩
   rw [evs_row, HRG.out, ← HL2.out] at hO6
   have hE6 : Ext w w6 := hE4.after hT6 (fun b' h1 h2 => by omega)
   have hO7 := own_base hO6 hE4.size
   clear hO6 hT6 hE4 hlen
   go_wp2
   exact bodyPost_ret (results_two rfl _ _ _) rfl ⟨_, by rw [HP.out]; rfl, hO7, hE6⟩
 ·have hz1 : (z == 0) = false := by rw [beq_eq_false_iff_ne]; exact hz0
  rw [if_neg hz0] at HP
  go_wp2
  refine bodyPost_ret (results_two rfl _ _ _) rfl ⟨_, by rw [HP.out]; rfl, ?_, hE3⟩
  rw [HL.out, HP.out, if_neg hz0]
  exact World.ownsRow_nil _ _ _ _
end Go.Proofs.YtamkkhlabfahmaaGreatDoor

namespace Go.Ab
open Go.RowKit

/-- The seven cells of element j. -/
def chunk (xs : List Value) (j : Nat) : List Value := (xs.drop (j * 7)).take 7
theorem chunk_get {xs : List Value} {j i : Nat} (hi : i < 7) : (chunk xs j)[i]? = xs[j * 7 + i]? := by
 unfold chunk
 rw [List.getElem?_take_of_lt hi, List.getElem?_drop]
theorem chunk_some {xs : List Value} {j i : Nat} {v : Value} (h : (chunk xs j)[i]? = some v) : xs[j * 7 + i]? = some v := by
 have hl : i < (chunk xs j).length := (List.getElem?_eq_some_iff.1 h).1
 have : i < 7 := by unfold chunk at hl; rw [List.length_take] at hl; omega
 rw [← chunk_get this]; exact h
theorem chunk_append {xs ys : List Value} {n j : Nat} (hl : xs.length = n * 7) (hj : j < n) : chunk (xs ++ ys) j = chunk xs j := by
 unfold chunk
 rw [List.drop_append_of_le_length (by omega), List.take_append_of_le_length (by rw [List.length_drop]; omega)]
theorem chunk_new {xs ys : List Value} {n : Nat} (hl : xs.length = n * 7) (hy : ys.length = 7) : chunk (xs ++ ys) n = ys := by
 unfold chunk
 rw [← hl, List.drop_left, List.take_of_length_le (by omega)]
theorem chunk_length {xs : List Value} {n j : Nat} (hl : xs.length = n * 7) (hj : j < n) : (chunk xs j).length = 7 := by
 unfold chunk
 rw [List.length_take, List.length_drop]; omega
theorem own_chunk {w : World} {base : Nat} {e : TypeId} {g n cap : Nat} {xs : List Value} (h : w.ownsRow base e 7 (.slice (some ⟨g, 0, none⟩) n cap) n xs) (j : Nat) : w.rangeAt g (j * 7) (chunk xs j) :=
 own_range h fun _ _ hv => chunk_some hv

theorem overL_get : ∀ (vs cur : List Value) (o i : Nat), o + vs.length ≤ cur.length → (overL cur o vs)[i]? = if o ≤ i ∧ i < o + vs.length then vs[i - o]? else cur[i]?
 | [], cur, o, i, _ => by unfold overL; rw [if_neg (by simp only [List.length_nil]; omega)]
 | v :: vs, cur, o, i, h => by
  simp only [List.length_cons] at h ⊢
  unfold overL
  rw [overL_get vs _ _ _ (by rw [List.length_set]; omega)]
  by_cases h1 : o + 1 ≤ i ∧ i < o + 1 + vs.length
  ·rw [if_pos h1, if_pos (by omega), show i - o = (i - (o + 1)) + 1 by omega, List.getElem?_cons_succ]
  ·rw [if_neg h1]
   by_cases h2 : i = o
   ·subst h2
    rw [if_pos (by omega), Nat.sub_self, List.getElem?_set_self (by omega)]; rfl
   ·rw [if_neg (by omega), List.getElem?_set_ne (by omega)]

/-- An element written over. -/
theorem own_setMid {w : World} {base : Nat} {e : TypeId} {g n cap j : Nat} {xs cs : List Value} (h : w.ownsRow base e 7 (.slice (some ⟨g, 0, none⟩) n cap) n xs) (hj : j < n) (hc : cs.length = 7) :
  (w.setCells g (j * 7) cs).ownsRow base e 7 (.slice (some ⟨g, 0, none⟩) n cap) n (overL xs (j * 7) cs) := by
 have hl := h.1
 rcases h.2 with ⟨q, _⟩ | ⟨g', cap', cur, q, hb, hg, hnc, hcm, hcs, htake⟩
 ·cases q
 ·simp only [Value.slice.injEq, Option.some.injEq, Addr.mk.injEq] at q
  obtain ⟨⟨rfl, _, _⟩, _, rfl⟩ := q
  refine ⟨by rw [overL_length]; exact hl, .inr ⟨g, cap, _, rfl, hb, setCells_heap cs _ w cur hg, hnc, hcm, by simp [overL_length, hcs], ?_⟩⟩
  rw [show ((overL cur.toList (j * 7) cs).toArray.toList) = overL cur.toList (j * 7) cs from rfl, overL_take _ _ _ _ (by omega), htake]
theorem chunk_over {xs cs : List Value} {n j k : Nat} (hl : xs.length = n * 7) (hj : j < n) (hc : cs.length = 7) : chunk (overL xs (j * 7) cs) k = if k = j then cs else chunk xs k := by
 apply List.ext_getElem?
 intro i
 by_cases hi : i < 7
 ·rw [chunk_get hi, overL_get _ _ _ _ (by omega)]
  by_cases hk : k = j
  ·subst hk
   rw [if_pos (by omega), if_pos rfl]; congr 1; omega
  ·rw [if_neg (by omega), if_neg hk, chunk_get hi]
 ·have h1 : (chunk (overL xs (j * 7) cs) k)[i]? = none := by
   apply List.getElem?_eq_none
   unfold chunk; rw [List.length_take]; omega
  rw [h1]
  symm
  apply List.getElem?_eq_none
  split
  ·omega
  ·unfold chunk; rw [List.length_take]; omega

/-- These cells are this pattern; its rows are the call's own, no block is reached twice, and all lie in K. -/
inductive PatSep (T : TypeId) (w : World) : Pat → List Value → (Nat → Prop) → Prop
 | mk {k : Int} {pl mi : Nat} {nt : Bool} {mn mx : Int} {l : List Pat} {ao : Option Addr} {cap : Nat} {K : Nat → Prop} (xs : List Value) (Ks : Nat → Nat → Prop)
   (hpl : pl < 4294967296) (hmi : mi < 4294967296)
   (hO : w.ownsRow 0 T 7 (.slice ao l.length cap) l.length xs)
   (hg : ∀ g, (Value.slice ao l.length cap).ownBlock = some g → K g ∧ ∀ j, j < l.length → ¬ Ks j g)
   (hs : ∀ j b, j < l.length → Ks j b → K b)
   (hd : ∀ i j b, i < l.length → j < l.length → i ≠ j → Ks i b → ¬ Ks j b)
   (hc : ∀ j (h : j < l.length), PatSep T w l[j] (chunk xs j) (Ks j)) : PatSep T w (.node k pl mi nt mn mx l) (patCells k pl mi nt mn mx ao l.length cap) K

theorem PatSep.keep {T : TypeId} {S : Nat → Prop} {A B : World} (ht : Turn S A B) : ∀ {p : Pat} {cs : List Value} {K : Nat → Prop}, PatSep T A p cs K → (∀ b, K b → ¬ S b) → PatSep T B p cs K := by
 intro p cs K h
 induction h with
 | mk xs Ks hpl hmi hO hg hs hd hc ih =>
  intro hS
  exact .mk xs Ks hpl hmi (own_keep hO ht fun g hb => hS g (hg g hb).1) hg hs hd fun j h => ih j h fun b hb => hS b (hs j b h hb)
theorem PatSep.mono {T : TypeId} {w : World} {p : Pat} {cs : List Value} {K L : Nat → Prop} (h : PatSep T w p cs K) (hL : ∀ b, K b → L b) : PatSep T w p cs L := by
 cases h with
 | mk xs Ks hpl hmi hO hg hs hd hc => exact .mk xs Ks hpl hmi hO (fun g hb => ⟨hL g (hg g hb).1, (hg g hb).2⟩) (fun j b h1 h2 => hL b (hs j b h1 h2)) hd hc
theorem own_len {w : World} {base : Nat} {e : TypeId} {sz : Nat} {ao : Option Addr} {n cap : Nat} {xs : List Value} (h : w.ownsRow base e sz (.slice ao n cap) n xs) : n ≤ cap ∧ cap ≤ maxLen := by
 rcases h.2 with ⟨q, _⟩ | ⟨_, _, _, q, _, _, h1, h2, _⟩
 ·simp only [Value.slice.injEq] at q; simp [q.2.1, q.2.2]
 ·simp only [Value.slice.injEq] at q; obtain ⟨_, _, rfl⟩ := q; exact ⟨h1, h2⟩
theorem own_some {w : World} {base : Nat} {e : TypeId} {sz n cap : Nat} {ao : Option Addr} {xs : List Value} (h : w.ownsRow base e sz (.slice ao n cap) n xs) (hn : 0 < n) : ∃ g, ao = some ⟨g, 0, none⟩ := by
 rcases h.2 with ⟨q, _⟩ | ⟨g, _, _, q, _⟩
 ·simp only [Value.slice.injEq] at q; omega
 ·cases q; exact ⟨g, rfl⟩
theorem PatSep.at {T : TypeId} {w : World} : ∀ {p : Pat} {cs : List Value} {K : Nat → Prop}, PatSep T w p cs K → PatAt K w p cs := by
 intro p cs K h
 induction h with
 | @mk k pl mi nt mn mx l ao cap K xs Ks hpl hmi hO hg hs hd hc ih =>
  unfold PatAt
  obtain ⟨h1, h2⟩ := own_len hO
  refine ⟨ao, cap, rfl, hpl, hmi, h1, h2, PatsAt.mk fun j hj => ?_⟩
  obtain ⟨g, rfl⟩ := own_some hO (by omega)
  refine ⟨g, 0, chunk xs j, rfl, (hg g rfl).1, (hO.lt g rfl).2, by rw [Nat.zero_add, Nat.zero_add]; exact own_chunk hO j, PatAt.mono (fun b hb => hs j b hj hb) (ih j hj)⟩
end Go.Ab

namespace Go.Proofs.YtamkkhlabfahmaaGreatDoor
open Go.RowKit Go.Ab
attribute [local go_sem] Oper.semAt_some wide_fn wide_depth

/-- A law in a block of its own; a slice in a block of its own. -/
def LBox (w : World) (B : Nat) (l : LawD) : Prop := ∃ cs : List Value, w.heap[B]? = some (.cells cs.toArray 34 (0, 0)) ∧ LawAt w l cs
def SlBox (w : World) (B : Nat) (v : Value) : Prop := w.heap[B]? = some (.cells #[v] 32 (0, 0))
/-- The same, the cells named. -/
def LBx (w : World) (B : Nat) (l : LawD) (cs : List Value) : Prop := w.heap[B]? = some (.cells cs.toArray 34 (0, 0)) ∧ LawAt w l cs
theorem LBx.box {w : World} {B : Nat} {l : LawD} {cs : List Value} (h : LBx w B l cs) : LBox w B l := ⟨cs, h⟩
theorem LBx.ext {A B : World} {b : Nat} {l : LawD} {cs : List Value} (h : LBx A b l cs) (ht : Ext A B) : LBx B b l cs := ⟨ht.keep h.1, h.2.ext ht⟩
theorem LBox.ext {A B : World} {b : Nat} {l : LawD} (h : LBox A b l) (ht : Ext A B) : LBox B b l := by
 obtain ⟨cs, h1, h2⟩ := h
 exact ⟨cs, ht.keep h1, h2.ext ht⟩
theorem Tryz.lawInfo : (Tryz.prog.info? 34).map (·.size) = some 18 := by kernel_rfl
/-- The cells of a law, by kinds. -/
def lawC (nm : ByteArray) (k1 : Int) (p1 m1 : Nat) (n1 : Bool) (a1 b1 : Int) (s1 : Value) (k2 : Int) (p2 m2 : Nat) (n2 : Bool) (a2 b2 : Int) (s2 : Value) (iv ov : Value) (md : Int) : List Value :=
 [.string nm, .int .i64 k1, .int .u32 (p1 : Int), .int .u32 (m1 : Int), .bool n1, .int .i64 a1, .int .i64 b1, s1, .int .i64 k2, .int .u32 (p2 : Int), .int .u32 (m2 : Int), .bool n2, .int .i64 a2, .int .i64 b2, s2, iv, ov, .int .i64 md]
theorem law_open {w : World} {l : LawD} {cs : List Value} (h : LawAt w l cs) :
  ∃ (k1 : Int) (p1 m1 : Nat) (n1 : Bool) (a1 b1 : Int) (o1 : Option Addr) (c1 : Nat) (k2 : Int) (p2 m2 : Nat) (n2 : Bool) (a2 b2 : Int) (o2 : Option Addr) (c2 : Nat) (io : Option Addr) (ic : Nat) (oo : Option Addr) (oc : Nat),
   cs = lawC l.name k1 p1 m1 n1 a1 b1 (.slice o1 l.left.l.length c1) k2 p2 m2 n2 a2 b2 (.slice o2 l.right.l.length c2) (.slice io l.ifs.length ic) (.slice oo l.outs.length oc) l.mode ∧
   PatAt (fun g => g < w.heap.size) w l.left [.int .i64 k1, .int .u32 (p1 : Int), .int .u32 (m1 : Int), .bool n1, .int .i64 a1, .int .i64 b1, .slice o1 l.left.l.length c1] ∧
   PatAt (fun g => g < w.heap.size) w l.right [.int .i64 k2, .int .u32 (p2 : Int), .int .u32 (m2 : Int), .bool n2, .int .i64 a2, .int .i64 b2, .slice o2 l.right.l.length c2] ∧
   WordAt w (.slice io l.ifs.length ic) l.ifs ∧ OutsAt w (.slice oo l.outs.length oc) l.outs ∧ l.name.size ≤ maxLen ∧ l.left.l.length ≤ maxLen ∧ l.right.l.length ≤ maxLen ∧ l.ifs.length ≤ maxLen ∧ l.outs.length ≤ maxLen := by
 obtain ⟨lc, rc, iv, ov, rfl, h2, h3, h4, h5, h6⟩ := h
 obtain ⟨o1, c1, rfl, q1, q1', _⟩ := patAt_cells h3
 obtain ⟨o2, c2, rfl, q2, q2', _⟩ := patAt_cells h4
 obtain ⟨io, ic, rfl, hi⟩ := h5.slice
 obtain ⟨oo, oc, rfl, ho⟩ := h6.slice
 exact ⟨_, _, _, _, _, _, o1, c1, _, _, _, _, _, _, o2, c2, io, ic, oo, oc, rfl, h3, h4, h5, h6, h2, Nat.le_trans q1 q1', Nat.le_trans q2 q2', hi, ho⟩


theorem LBox.ifs {w : World} {B : Nat} {l : LawD} (h : LBox w B l) : ∃ io ic, w.cell? ⟨B, 15, none⟩ = some (.slice io l.ifs.length ic) ∧ WordAt w (.slice io l.ifs.length ic) l.ifs ∧ l.ifs.length ≤ maxLen := by
 obtain ⟨cs, h1, h2⟩ := h
 obtain ⟨_, _, _, _, _, _, _, _, _, _, _, _, _, _, _, _, io, ic, _, _, rfl, _, _, h3, _, _, _, _, h4, _⟩ := law_open h2
 exact ⟨io, ic, cell_of_row _ _ 15 _ _ _ h1, h3, h4⟩
theorem LBox.outs {w : World} {B : Nat} {l : LawD} (h : LBox w B l) : ∃ io ic, w.cell? ⟨B, 16, none⟩ = some (.slice io l.outs.length ic) ∧ OutsAt w (.slice io l.outs.length ic) l.outs ∧ l.outs.length ≤ maxLen := by
 obtain ⟨cs, h1, h2⟩ := h
 obtain ⟨_, _, _, _, _, _, _, _, _, _, _, _, _, _, _, _, _, _, io, ic, rfl, _, _, _, h3, _, _, _, _, h4⟩ := law_open h2
 exact ⟨io, ic, cell_of_row _ _ 16 _ _ _ h1, h3, h4⟩
theorem LBox.mode {w : World} {B : Nat} {l : LawD} (h : LBox w B l) : w.cell? ⟨B, 17, none⟩ = some (.int .i64 l.mode) := by
 obtain ⟨cs, h1, h2⟩ := h
 obtain ⟨_, _, _, _, _, _, _, _, _, _, _, _, _, _, _, _, _, _, _, _, rfl, _⟩ := law_open h2
 exact cell_of_row _ _ 17 _ _ _ h1
/-- The same with names for all that is in it. -/
theorem law_gen {w : World} {l : LawD} {cs : List Value} (h : LawAt w l cs) :
  ∃ (nm : ByteArray) (k1 : Int) (p1 m1 : Nat) (n1 : Bool) (a1 b1 : Int) (o1 : Option Addr) (N1 c1 : Nat) (k2 : Int) (p2 m2 : Nat) (n2 : Bool) (a2 b2 : Int) (o2 : Option Addr) (N2 c2 : Nat) (io : Option Addr) (N3 ic : Nat) (oo : Option Addr) (N4 oc : Nat) (md : Int),
   cs = [.string nm, .int .i64 k1, .int .u32 (p1 : Int), .int .u32 (m1 : Int), .bool n1, .int .i64 a1, .int .i64 b1, .slice o1 N1 c1, .int .i64 k2, .int .u32 (p2 : Int), .int .u32 (m2 : Int), .bool n2, .int .i64 a2, .int .i64 b2, .slice o2 N2 c2, .slice io N3 ic, .slice oo N4 oc, .int .i64 md] ∧
   Hid (LawAt w l [.string nm, .int .i64 k1, .int .u32 (p1 : Int), .int .u32 (m1 : Int), .bool n1, .int .i64 a1, .int .i64 b1, .slice o1 N1 c1, .int .i64 k2, .int .u32 (p2 : Int), .int .u32 (m2 : Int), .bool n2, .int .i64 a2, .int .i64 b2, .slice o2 N2 c2, .slice io N3 ic, .slice oo N4 oc, .int .i64 md]) ∧
   Hid (PatAt (fun g => g < w.heap.size) w l.left [.int .i64 k1, .int .u32 (p1 : Int), .int .u32 (m1 : Int), .bool n1, .int .i64 a1, .int .i64 b1, .slice o1 N1 c1]) ∧
   Hid (PatAt (fun g => g < w.heap.size) w l.right [.int .i64 k2, .int .u32 (p2 : Int), .int .u32 (m2 : Int), .bool n2, .int .i64 a2, .int .i64 b2, .slice o2 N2 c2]) ∧
   Hid (WordAt w (.slice io N3 ic) l.ifs) ∧ Hid (OutsAt w (.slice oo N4 oc) l.outs) ∧
   Hid (l.name = nm) ∧ Hid (l.left.l.length = N1) ∧ Hid (l.right.l.length = N2) ∧ Hid (l.ifs.length = N3) ∧ Hid (l.outs.length = N4) ∧ Hid (l.mode = md) ∧
   nm.size ≤ 9223372036854775807 ∧ N1 ≤ 9223372036854775807 ∧ N2 ≤ 9223372036854775807 ∧ N3 ≤ 9223372036854775807 ∧ N4 ≤ 9223372036854775807 := by
 obtain ⟨k1, p1, m1, n1, a1, b1, o1, c1, k2, p2, m2, n2, a2, b2, o2, c2, io, ic, oo, oc, hcs, h1, h2, h3, h4, q0, q1, q2, q3, q4⟩ := law_open h
 unfold lawC at hcs
 subst hcs
 exact ⟨_, k1, p1, m1, n1, a1, b1, o1, _, c1, k2, p2, m2, n2, a2, b2, o2, _, c2, io, _, ic, oo, _, oc, _, rfl, Lib.hid h, Lib.hid h1, Lib.hid h2, Lib.hid h3, Lib.hid h4, Lib.hid rfl, Lib.hid rfl, Lib.hid rfl, Lib.hid rfl, Lib.hid rfl, Lib.hid rfl, q0, q1, q2, q3, q4⟩

theorem around_any {w : World} {cs : List Value} {l : LawD} (hl : LawAt w l cs) {ao : Option Addr} {n c : Nat} :
  Calls Tryz.prog 148 #[.agg cs.toArray, .slice ao n c] w fun e w' => e = .returned (.func (.func 178) #[] #[.pointer (some ⟨w.heap.size, 0, none⟩), .pointer (some ⟨w.heap.size + 1, 0, none⟩)]) ∧ LBx w' w.heap.size l cs ∧ SlBox w' (w.heap.size + 1) (.slice ao n c) ∧ Ext w w' := by
 have hl0 := hl
 obtain ⟨k1, p1, m1, n1, a1, b1, o1, c1, k2, p2, m2, n2, a2, b2, o2, c2, io, ic, oo, oc, rfl, _⟩ := law_open hl
 have HL := Lib.hid hl0
 clear hl hl0
 unfold lawC at HL ⊢
 go_enter Tryz.func148, Tryz.ntmps148
 go_wp2
 go_ret
 have hE : Ext w (w.alloc (.cells (lawC l.name k1 p1 m1 n1 a1 b1 (.slice o1 l.left.l.length c1) k2 p2 m2 n2 a2 b2 (.slice o2 l.right.l.length c2) (.slice io l.ifs.length ic) (.slice oo l.outs.length oc) l.mode).toArray 34)) := (Turn.refl _ w).alloc _
 exact ⟨rfl, ⟨new_keep (new_at rfl), (HL.out.ext hE).ext ((Turn.refl _ _).alloc _)⟩, new_at (by simp), hE.alloc _⟩

theorem hits_any {w : World} {cs : List Value} {l : LawD} (hl : LawAt w l cs) {ao : Option Addr} {n c : Nat} (k : Int) :
  Calls Tryz.prog 107 #[.agg cs.toArray, .slice ao n c, .int .i64 k] w fun e w' => e = .returned (.func (.func 147) #[] #[.pointer (some ⟨w.heap.size, 0, none⟩), .pointer (some ⟨w.heap.size + 1, 0, none⟩), .pointer (some ⟨w.heap.size + 2, 0, none⟩)]) ∧
   w'.heap.size = w.heap.size + 3 ∧ LBx w' w.heap.size l cs ∧ SlBox w' (w.heap.size + 1) (.slice ao n c) ∧ w'.heap[w.heap.size + 2]? = some (.cells #[.int .i64 k] 3 (0, 0)) ∧ Ext w w' := by
 have hl0 := hl
 obtain ⟨k1, p1, m1, n1, a1, b1, o1, c1, k2, p2, m2, n2, a2, b2, o2, c2, io, ic, oo, oc, rfl, _⟩ := law_open hl
 have HL := Lib.hid hl0
 clear hl hl0
 unfold lawC at HL ⊢
 go_enter Tryz.func107, Tryz.ntmps107
 go_wp2
 go_ret
 have hE : Ext w (w.alloc (.cells (lawC l.name k1 p1 m1 n1 a1 b1 (.slice o1 l.left.l.length c1) k2 p2 m2 n2 a2 b2 (.slice o2 l.right.l.length c2) (.slice io l.ifs.length ic) (.slice oo l.outs.length oc) l.mode).toArray 34)) := (Turn.refl _ w).alloc _
 exact ⟨rfl, by simp, ⟨new_keep (new_keep (new_at rfl)), ((HL.out.ext hE).ext ((Turn.refl _ _).alloc _)).ext ((Turn.refl _ _).alloc _)⟩, new_keep (new_at (by simp)), new_at (by simp), (hE.alloc _).alloc _⟩

/-- The function that around returns. -/
theorem fit_any {w : World} {BL BW : Nat} {l : LawD} {v : Value} {ws : Wd} (hL : LBox w BL l) (hW : SlBox w BW v) (hv : WordAt w v ws) (hT : Tab w) (i : Nat) (hi : i + l.ifs.length ≤ ws.length) :
  Calls Tryz.prog 178 #[.int .i64 i, .pointer (some ⟨BL, 0, none⟩), .pointer (some ⟨BW, 0, none⟩)] w fun e w' => e = .returned (.bool (fitsB l ws i)) ∧ Ext w w' := by
 obtain ⟨cs, hL1, hL2⟩ := hL
 obtain ⟨k1, p1, m1, n1, a1, b1, o1, c1, k2, p2, m2, n2, a2, b2, o2, c2, io, ic, oo, oc, rfl, h1, h2, _, _, _, q1, q2, q3, q4⟩ := law_open hL2
 have hb := begins_any h1 (fun g hg => hg) hv hT (i : Int)
 have he := fun (V : World) (hE : Ext w V) => ends_any (h2.ext hE) (fun g hg => Nat.lt_of_lt_of_le hg hE.size) (hv.ext hE) (hT.keep hE id) ((i + l.ifs.length : Nat) : Int)
 have HF : Hid (fitsB l ws i = (!(begL l.left ws (i : Int)).isEmpty && !(endL l.right ws ((i + l.ifs.length : Nat) : Int)).isEmpty)) := Lib.hid rfl
 obtain ⟨X, hX⟩ : ∃ X, begL l.left ws (i : Int) = X := ⟨_, rfl⟩
 obtain ⟨Y, hY⟩ : ∃ X, endL l.right ws ((i + l.ifs.length : Nat) : Int) = X := ⟨_, rfl⟩
 obtain ⟨e1, he1⟩ : ∃ X, placeE l.left ws (i : Int) = X := ⟨_, rfl⟩
 obtain ⟨e2, he2⟩ : ∃ X, placeE l.right ws ((i + l.ifs.length : Nat) : Int) = X := ⟨_, rfl⟩
 rw [hX, he1] at hb
 rw [hY, he2] at he
 rw [hX, hY] at HF
 clear hX hY he1 he2 hL2 h1 h2 hT
 obtain ⟨F, hF⟩ : ∃ F, fitsB l ws i = F := ⟨_, rfl⟩
 rw [hF] at HF ⊢
 clear hF
 obtain ⟨nm, hnm⟩ : ∃ x, l.name = x := ⟨_, rfl⟩
 obtain ⟨N1, hN1⟩ : ∃ x, l.left.l.length = x := ⟨_, rfl⟩
 obtain ⟨N2, hN2⟩ : ∃ x, l.right.l.length = x := ⟨_, rfl⟩
 obtain ⟨N3, hN3⟩ : ∃ x, l.ifs.length = x := ⟨_, rfl⟩
 obtain ⟨N4, hN4⟩ : ∃ x, l.outs.length = x := ⟨_, rfl⟩
 obtain ⟨md, hmd⟩ : ∃ x, l.mode = x := ⟨_, rfl⟩
 rw [hnm, hN1, hN2, hN3, hN4, hmd] at hL1
 rw [hN1] at hb q1
 rw [hN2, hN3] at he
 rw [hN2] at q2
 rw [hN3] at q3 hi
 rw [hN4] at q4
 clear hnm hN1 hN2 hN3 hN4 hmd
 obtain ⟨vo, vc, rfl, hvm⟩ := hv.slice
 obtain ⟨N5, hN5⟩ : ∃ x, ws.length = x := ⟨_, rfl⟩
 rw [hN5] at hb he hW hvm hi
 clear hN5 hv
 unfold maxLen at q1 q2 q3 q4 hvm
 unfold lawC at hL1
 have HB := Lib.hid hb; have HE := Lib.hid he
 clear hb he
 have cX := fun j => cell_of_row _ _ j _ _ _ hL1
 have cW := cell_of_one hW
 have H1 := Lib.hid hL1; have H2 := Lib.hid hW
 clear hL1 hW
 go_enter Tryz.func178, Tryz.ntmps178
 go_wp2_with fail
 refine HB.out.mono ?_
 rintro e w2 ⟨u, rfl, hO, hE2⟩
 obtain ⟨uo, uc, rfl⟩ := own_slice hO
 obtain ⟨n, hn⟩ : ∃ n, X.length = n := ⟨_, rfl⟩
 have hle := own_len hO
 rw [hn] at hle ⊢
 have hnm := Nat.le_trans hle.1 hle.2
 unfold maxLen at hnm
 have HXN : Hid (X.isEmpty = decide (n = 0)) := Lib.hid (by rw [← hn]; cases X <;> simp)
 clear hO hn hle HB cX cW
 by_cases hn0 : n = 0
 ·subst hn0
  go_wp2
  go_ret
  exact ⟨by rw [HF.out, HXN.out]; simp, hE2⟩
 ·have hn1 : ((n : Int) == 0) = false := by rw [beq_eq_false_iff_ne]; omega
  have cX := fun j => cell_of_row _ _ j _ _ _ (hE2.keep H1.out)
  have cW := cell_of_one (hE2.keep H2.out)
  have hc := HE.out w2 hE2
  have HC := Lib.hid hc
  clear hc
  go_wp2_with fail
  refine HC.out.mono ?_
  rintro e w3 ⟨u3, rfl, hO3, hE3⟩
  obtain ⟨zo, zc, rfl⟩ := own_slice hO3
  obtain ⟨m, hm⟩ : ∃ n, Y.length = n := ⟨_, rfl⟩
  have hle := own_len hO3
  rw [hm] at hle ⊢
  have hmm := Nat.le_trans hle.1 hle.2
  unfold maxLen at hmm
  have HYN : Hid (Y.isEmpty = decide (m = 0)) := Lib.hid (by rw [← hm]; cases Y <;> simp)
  have hE23 := hE2.trans hE3
  clear hO3 hm hle HE HC cX cW hE2 hE3
  go_wp2
  go_ret
  refine ⟨?_, hE23⟩
  rw [HF.out, HXN.out, HYN.out]
  apply ret_bool
  apply Bool.eq_iff_iff.2
  simp [hn0]; omega

theorem hit_cond {l : LawD} {ws : Wd} {i j : Nat} (hj : j < l.ifs.length) (h : satV (ws.getD (i + j) (0, 0)) (l.ifs.getD j (0, 0)) = false) : hitL l ws i = false := by
 cases hh : hitL l ws i with
 | false => rfl
 | true =>
  unfold hitL condB at hh
  simp only [Bool.and_eq_true, List.all_eq_true, List.mem_range] at hh
  rw [hh.1.2 j hj] at h; cases h
theorem hit_all {l : LawD} {ws : Wd} {i : Nat} (hi : i + l.ifs.length ≤ ws.length) (h : ∀ j, j < l.ifs.length → satV (ws.getD (i + j) (0, 0)) (l.ifs.getD j (0, 0)) = true) : hitL l ws i = fitsB l ws i := by
 unfold hitL condB
 rw [decide_eq_true hi, (List.all_eq_true (l := List.range l.ifs.length)).2 fun j hj => h j (List.mem_range.1 hj)]; rfl
/-- The hits from a place on. -/
def hitsF (l : LawD) (ws : Wd) (a : Nat) : List Nat := (List.range' a (ws.length + 1 - a)).filter (hitL l ws)
theorem hitsF_zero (l : LawD) (ws : Wd) : hitsF l ws 0 = hitsL l ws := by unfold hitsF hitsL; rw [List.range_eq_range']; rfl
theorem hitsF_no {l : LawD} {ws : Wd} {a : Nat} (h : hitL l ws a = false) : hitsF l ws a = hitsF l ws (a + 1) := by
 unfold hitsF
 by_cases ha : a ≤ ws.length
 ·rw [show ws.length + 1 - a = (ws.length + 1 - (a + 1)) + 1 by omega, List.range'_succ, List.filter_cons, h]; simp
 ·rw [show ws.length + 1 - a = 0 by omega, show ws.length + 1 - (a + 1) = 0 by omega]; rfl
theorem hitsF_yes {l : LawD} {ws : Wd} {a : Nat} (h : hitL l ws a = true) : hitsF l ws a = a :: hitsF l ws (a + 1) := by
 have := hit_le h
 unfold hitsF
 rw [show ws.length + 1 - a = (ws.length + 1 - (a + 1)) + 1 by omega, List.range'_succ, List.filter_cons, h]; simp
theorem hitsF_end {l : LawD} {ws : Wd} {a : Nat} (h : ws.length < a + l.ifs.length) : hitsF l ws a = [] := by
 unfold hitsF
 rw [List.filter_eq_nil_iff]
 intro j hj hh
 have := hit_le hh
 have := (List.mem_range'_1.1 hj).1
 omega

theorem hits_iter {w : World} {BL BW BF : Nat} {l : LawD} {cs : List Value} {v : Value} {ws : Wd} {K : Nat → Prop} (st : Nat) (hst2 : st ≤ ws.length + 1) (hsm : l.ifs.length + ws.length ≤ 100000)
  (hst : ∀ W, Turn (fun b => ¬ K b) w W → LBx W BL l cs ∧ SlBox W BW v ∧ WordAt W v ws ∧ Tab W ∧ W.heap[BF]? = some (.cells #[.int .i64 st] 3 (0, 0))) :
  IterO Tryz.prog 147 #[.pointer (some ⟨BL, 0, none⟩), .pointer (some ⟨BW, 0, none⟩), .pointer (some ⟨BF, 0, none⟩)] (fun _ _ => False) (fun _ _ (x : Nat) _ ys => ys = #[.int .i64 x]) (hitsF l ws st) K w := by
 intro lp J Jx W ht hJ0 hJx hY h0
 have hJ : ∀ O O' pre A B, J O pre A → Ext A B → (∀ b, O' b → (O b ∨ A.heap.size ≤ b) ∧ b < B.heap.size) → J O' pre B := fun O O' pre A B h1 h2 h3 => hJ0 O O' pre A B h1 (Ext.of h2) h3
 clear hJ0
 obtain ⟨hL, hW, hv, hT, hF⟩ := hst W ht
 obtain ⟨hL1, hL2⟩ := hL
 obtain ⟨nm, k1, p1, m1, n1, a1, b1, o1, N1, c1, k2, p2, m2, n2, a2, b2, o2, N2, c2, io, N3, ic, oo, N4, oc, md, rfl, HLA, HPL, HPR, HIF, HOU, HNM, HN1, HN2, HN3, HN4, HMD, q0, q1, q2, q3, q4⟩ := law_gen hL2
 obtain ⟨wn, hwn⟩ : ∃ n, ws.length = n := ⟨_, rfl⟩
 obtain ⟨vo, vc, rfl, hvm⟩ := hv.slice
 rw [hwn] at hvm hst2 hsm
 rw [HN3.out] at hsm
 unfold maxLen at hvm
 have HWN := Lib.hid hwn
 have har := around_any HLA.out (ao := vo) (n := wn) (c := vc)
 have HST := Lib.hid hst
 have HAR := Lib.hid har
 clear hst har
 rw [hwn] at hW
 clear hwn hv hT hL2
 have cX := fun j => cell_of_row _ _ j _ _ _ hL1
 have cW := cell_of_one hW
 have cF := cell_of_one hF
 have HL1 := Lib.hid hL1; have HW1 := Lib.hid hW; have HF1 := Lib.hid hF
 clear hL1 hW hF cX
 show Calls _ _ #[.func (.yield lp) #[] #[], .pointer (some ⟨BL, 0, none⟩), .pointer (some ⟨BW, 0, none⟩), .pointer (some ⟨BF, 0, none⟩)] _ _
 go_enter Tryz.func147, Tryz.ntmps147
 refine wp_scope_straight ?_
 go_wp2_with (first | (refine wpList_load_row rfl 34 (.tmp 1) rfl BL rfl _ _ _ _ HL1.out Tryz.underlying34 rfl Tryz.lawInfo ?_) | (go_at_call 148; refine HAR.out.mono ?_; rintro e w2 ⟨rfl, hLB, hSB, hE⟩))
 refine wp_label ?_
 have cF := cell_of_one (hE.keep HF1.out)
 go_wp2_with fail
 have hO1 : ∀ b, (b = W.heap.size ∨ b = W.heap.size + 1) → ((False ∨ W.heap.size ≤ b) ∧ b < w2.heap.size) := by
  have h1 := (Array.getElem?_eq_some_iff.1 hLB.1).1
  have h2 := (Array.getElem?_eq_some_iff.1 hSB).1
  intro b hb; omega
 have hJ1 := hJ (fun _ => False) (fun b => b = W.heap.size ∨ b = W.heap.size + 1) [] W w2 h0 hE hO1
 have hT2 : Turn (fun b => ¬ K b) w w2 := ht.trans hE.of
 obtain ⟨A0, hA0⟩ : ∃ A0, W.heap.size = A0 := ⟨_, rfl⟩
 rw [hA0] at hJ1 hLB hSB hO1 ⊢
 have hA1 : A0 < w2.heap.size ∧ A0 + 1 < w2.heap.size := ⟨(hO1 A0 (.inl rfl)).2, (hO1 (A0 + 1) (.inr rfl)).2⟩
 have HJ := Lib.hid hJ; have HJ1 := Lib.hid hJ1; have HY := Lib.hid hY
 clear hJ hY hJ1 hJx h0 hO1 hA0 cF HF1 HW1 HL1 HAR ht hE HLA HPL HPR HIF HOU
 have H0 : Hid (LBx w2 A0 l _ ∧ SlBox w2 (A0 + 1) (.slice vo wn vc)) := Lib.hid ⟨hLB, hSB⟩
 clear hLB hSB
 refine wp_loop (fun a V => ∃ (pre : List Nat) (i : Nat), i ≤ wn + 1 ∧ a.defers = [] ∧ (a.tmps.size = 50 ∧ a.tmps.getD 0 undef = .func (.yield lp) #[] #[] ∧ a.tmps.getD 1 undef = .pointer (some ⟨BL, 0, none⟩) ∧ a.tmps.getD 2 undef = .pointer (some ⟨BW, 0, none⟩) ∧ a.tmps.getD 3 undef = .pointer (some ⟨BF, 0, none⟩) ∧ a.tmps.getD 5 undef = .func (.func 178) #[] #[.pointer (some ⟨A0, 0, none⟩), .pointer (some ⟨A0 + 1, 0, none⟩)] ∧ a.tmps.getD 6 undef = .int .i64 i) ∧ hitsF l ws st = pre ++ hitsF l ws i ∧ J (fun b => b = A0 ∨ b = A0 + 1) pre V ∧ Turn (fun b => ¬ K b) w V ∧ Turn (fun b => b ≠ A0 ∧ b ≠ A0 + 1) w2 V)
  (fun a _ => wn + 1 - (intOf (a.tmps.getD 6 undef)).toNat) ?_ ?_
 ·exact ⟨[], st, hst2, rfl, ⟨rfl, rfl, rfl, rfl, rfl, rfl, rfl⟩, rfl, HJ1.out, hT2, Turn.refl _ _⟩
 clear HJ1 hT2
 rintro ⟨t, _⟩ V ⟨pre, at_, hat, hds, ⟨hsz, f0, f1, f2, f3, f5, f6⟩, hsp, hJV, hTV, hLV⟩
 subst hds
 obtain ⟨u', hu⟩ := frame_fun hsz
 obtain ⟨u, rfl⟩ : ∃ x, x = u' := ⟨_, rfl⟩
 have hu' : t = #[u 0, u 1, u 2, u 3, u 4, u 5, u 6, u 7, u 8, u 9, u 10, u 11, u 12, u 13, u 14, u 15, u 16, u 17, u 18, u 19, u 20, u 21, u 22, u 23, u 24, u 25, u 26, u 27, u 28, u 29, u 30, u 31, u 32, u 33, u 34, u 35, u 36, u 37, u 38, u 39, u 40, u 41, u 42, u 43, u 44, u 45, u 46, u 47, u 48, u 49] := hu
 clear hu
 subst hu'
 change u 0 = _ at f0
 change u 1 = _ at f1
 change u 2 = _ at f2
 change u 3 = _ at f3
 change u 5 = _ at f5
 change u 6 = _ at f6
 rw [f0, f1, f2, f3, f5, f6]
 clear f0 f1 f2 f3 f5 f6 hsz
 have HSP := Lib.hid hsp; have HJV := Lib.hid hJV
 clear hsp hJV
 obtain ⟨hL, hW, hv, hT, hF⟩ := HST.out V hTV
 obtain ⟨xio, xic, cX, hif, _⟩ := hL.box.ifs
 rw [HN3.out] at cX hif
 rw [HWN.out] at hv hW
 have cW := cell_of_one hW
 have HV1 : Hid (WordAt V (.slice vo wn vc) ws) := Lib.hid hv
 have HWB : Hid (SlBox V BW (.slice vo wn vc)) := Lib.hid hW
 have HIF : Hid (WordAt V (.slice xio N3 xic) l.ifs) := Lib.hid hif
 clear hL hW hv hF hT hif
 by_cases hle : at_ + N3 ≤ wn
 case neg =>
  have h1 : ¬ ((at_ : Int) + (N3 : Int) ≤ (wn : Int)) := by omega
  have he : hitsF l ws at_ = [] := hitsF_end (by rw [HWN.out, HN3.out]; omega)
  have HEE := Lib.hid he
  clear he
  go_wp2
  show bodyPost _ _ _ .normal _ _
  go_end0
  refine ⟨⟨_, rfl⟩, (fun b => b = A0 ∨ b = A0 + 1), .inl ?_⟩
  have := HSP.out
  rw [HEE.out, List.append_nil] at this
  rw [this]; exact HJV.out
 have h1 : (at_ : Int) + (N3 : Int) ≤ (wn : Int) := by omega
 go_wp2
 clear cX cW
 refine wp_loop (fun a V2 => ∃ (j : Nat), j ≤ N3 ∧ a.defers = [] ∧ (a.tmps.size = 50 ∧ a.tmps.getD 0 undef = .func (.yield lp) #[] #[] ∧ a.tmps.getD 1 undef = .pointer (some ⟨BL, 0, none⟩) ∧ a.tmps.getD 2 undef = .pointer (some ⟨BW, 0, none⟩) ∧ a.tmps.getD 3 undef = .pointer (some ⟨BF, 0, none⟩) ∧ a.tmps.getD 5 undef = .func (.func 178) #[] #[.pointer (some ⟨A0, 0, none⟩), .pointer (some ⟨A0 + 1, 0, none⟩)] ∧ a.tmps.getD 6 undef = .int .i64 at_ ∧ a.tmps.getD 24 undef = .slice xio N3 xic ∧ a.tmps.getD 25 undef = .int .i64 N3 ∧ a.tmps.getD 26 undef = .int .i64 j) ∧ (∀ i, i < j → satV (ws.getD (at_ + i) (0, 0)) (l.ifs.getD i (0, 0)) = true) ∧ Ext V V2)
  (fun a _ => N3 - (intOf (a.tmps.getD 26 undef)).toNat) ?_ ?_
 ·exact ⟨0, by omega, rfl, ⟨rfl, rfl, rfl, rfl, rfl, rfl, rfl, rfl, rfl, rfl⟩, fun i hi => by omega, Turn.refl _ _⟩
 rintro ⟨t, _⟩ V2 ⟨j, hj, hds, ⟨hsz, f0, f1, f2, f3, f5, f6, f24, f25, f26⟩, hall, hE2⟩
 subst hds
 obtain ⟨u', hu⟩ := frame_fun hsz
 obtain ⟨u, rfl⟩ : ∃ x, x = u' := ⟨_, rfl⟩
 have hu' : t = #[u 0, u 1, u 2, u 3, u 4, u 5, u 6, u 7, u 8, u 9, u 10, u 11, u 12, u 13, u 14, u 15, u 16, u 17, u 18, u 19, u 20, u 21, u 22, u 23, u 24, u 25, u 26, u 27, u 28, u 29, u 30, u 31, u 32, u 33, u 34, u 35, u 36, u 37, u 38, u 39, u 40, u 41, u 42, u 43, u 44, u 45, u 46, u 47, u 48, u 49] := hu
 clear hu
 subst hu'
 change u 0 = _ at f0
 change u 1 = _ at f1
 change u 2 = _ at f2
 change u 3 = _ at f3
 change u 5 = _ at f5
 change u 6 = _ at f6
 change u 24 = _ at f24
 change u 25 = _ at f25
 change u 26 = _ at f26
 rw [f0, f1, f2, f3, f5, f6, f24, f25, f26]
 clear f0 f1 f2 f3 f5 f6 f24 f25 f26 hsz
 have HALL := Lib.hid hall
 clear hall
 have hT2 : Turn (fun b => ¬ K b) w V2 := hTV.trans hE2.of
 by_cases hjN : j < N3
 case pos =>
  have h2 : (j : Int) < (N3 : Int) := by omega
  have h3 : ((at_ : Int) + (j : Int)) < (wn : Int) := by omega
  have h30 : (0 : Int) ≤ (at_ : Int) + (j : Int) := by omega
  obtain ⟨gc, oc1, cc, hq1, hgc, d1, d2⟩ := (HIF.out.ext hE2).at (i := j) (by rw [HN3.out]; exact hjN)
  obtain ⟨gw, ow, cw, hq2, hgw, e1, e2⟩ := (HV1.out.ext hE2).at (i := at_ + j) (by rw [HWN.out]; omega)
  simp only [Value.slice.injEq] at hq1 hq2
  obtain ⟨rfl, hz1, rfl⟩ := hq1
  obtain ⟨rfl, hz2, rfl⟩ := hq2
  clear hz1 hz2
  obtain ⟨⟨ca, cb⟩, hcd⟩ : ∃ x, l.ifs.getD j (0, 0) = x := ⟨_, rfl⟩
  obtain ⟨⟨sa, sb⟩, hsd⟩ : ∃ x, ws.getD (at_ + j) (0, 0) = x := ⟨_, rfl⟩
  have hclt := HIF.out.2.get j (by rw [HN3.out]; exact hjN)
  have hslt := HV1.out.2.get (at_ + j) (by rw [HWN.out]; omega)
  rw [hcd] at d1 d2 hclt
  rw [hsd] at e1 e2 hslt
  dsimp only at d1 d2 e1 e2
  have hsat := fun (D : World) => fsat_any hslt hclt D
  obtain ⟨bs, hbs⟩ : ∃ b, satV (sa, sb) (ca, cb) = b := ⟨_, rfl⟩
  rw [hbs] at hsat
  have HSAT := Lib.hid hsat
  have HBS : Hid (satV (ws.getD (at_ + j) (0, 0)) (l.ifs.getD j (0, 0)) = bs) := Lib.hid (by rw [hcd, hsd]; exact hbs)
  have HW2 : Hid (SlBox V2 BW (.slice (some ⟨gw, ow, none⟩) wn vc)) := Lib.hid (hE2.keep HWB.out)
  have cW := cell_of_one HW2.out
  have HE1 := Lib.hid e1; have HE2c := Lib.hid e2
  clear hcd hsd hclt hslt hsat hbs e1 e2
  go_wp2_with fail
  obtain ⟨w4, hw4⟩ : ∃ D, V2.alloc (.cells #[.int .u32 (ca : Int), .int .u32 (cb : Int)] 24) = D := ⟨_, rfl⟩
  have hE4 : Ext V2 w4 := by rw [← hw4]; exact (Turn.refl _ V2).alloc _
  have h8 : w4.heap[V2.heap.size]? = some (.cells #[.int .u32 (ca : Int), .int .u32 (cb : Int)] 24 (0, 0)) := by rw [← hw4]; exact new_at rfl
  rw [hw4]
  obtain ⟨Bx, hBx⟩ : ∃ b, V2.heap.size = b := ⟨_, rfl⟩
  rw [hBx] at h8 ⊢
  have hcs : ∀ (D : World), Ext w4 D → D.cell? ⟨BW, 0, none⟩ = some (.slice (some ⟨gw, ow, none⟩) wn vc) ∧ D.cell? ⟨gw, ow + (at_ + j) * 2, none⟩ = some (.int .u32 (sa : Int)) ∧ D.cell? ⟨gw, ow + (at_ + j) * 2 + 1, none⟩ = some (.int .u32 (sb : Int)) ∧ D.cell? ⟨Bx, 0, none⟩ = some (.int .u32 (ca : Int)) ∧ D.cell? ⟨Bx, 1, none⟩ = some (.int .u32 (cb : Int)) := by
   intro D hD
   have h0 := hD.keep h8
   have hED := hE4.trans hD
   refine ⟨cell_of_one (Ext.keep hED HW2.out), hED.cell_some HE1.out id, hED.cell_some HE2c.out id, cell_of_row _ _ 0 _ _ _ h0, cell_of_row _ _ 1 _ _ _ h0⟩
  have HS := Lib.hid hcs
  have HE4 := Lib.hid hE4
  clear hcs hw4 h8 hBx hE4 cW d1 d2 HE1 HE2c HW2
  have hwr : IntKind.i64.wrap ((at_ : Int) + (j : Int)) = (at_ : Int) + (j : Int) := IntWalk.i64_in _ (by omega)
  have htn : ((at_ : Int) + (j : Int)).toNat = at_ + j := by omega
  refine wp_region_held_drew (S := fun D => D.cell? ⟨BW, 0, none⟩ = some (.slice (some ⟨gw, ow, none⟩) wn vc) ∧ D.cell? ⟨gw, ow + (at_ + j) * 2, none⟩ = some (.int .u32 (sa : Int)) ∧ D.cell? ⟨gw, ow + (at_ + j) * 2 + 1, none⟩ = some (.int .u32 (sb : Int)) ∧ D.cell? ⟨Bx, 0, none⟩ = some (.int .u32 (ca : Int)) ∧ D.cell? ⟨Bx, 1, none⟩ = some (.int .u32 (cb : Int))) (by kernel_rfl) (HS.out _ (Turn.drew (Turn.refl _ w4))) ?_
  intro hS0
  refine tkH (i := 0) (d := 31) (v := ?_) rfl (Or.inl ⟨by rfl, ?_⟩) hS0 ?_
  rotate_left
  ·intro w hSw; (try dsimp only at hSw); go_simp; try with_reducible rfl
  try simp only [Act.put, pq]
  refine tkH (i := 1) (d := 32) (v := ?_) rfl (Or.inl ⟨by rfl, ?_⟩) hS0 ?_
  rotate_left
  ·intro w hSw; (try dsimp only at hSw); go_simp; try with_reducible rfl
  try simp only [Act.put, pq]
  refine tkH (i := 2) (d := 33) (v := ?_) rfl (Or.inl ⟨by rfl, ?_⟩) hS0 ?_
  rotate_left
  ·intro w hSw; (try dsimp only at hSw); go_simp; try with_reducible rfl
  try simp only [Act.put, pq]
  refine tkH (i := 3) (d := 34) (v := ?_) rfl (Or.inl ⟨by rfl, ?_⟩) hS0 ?_
  rotate_left
  ·intro w hSw; (try dsimp only at hSw); go_simp; try with_reducible rfl
  try simp only [Act.put, pq]
  refine tkH (i := 4) (d := 35) (v := ?_) rfl (Or.inl ⟨by rfl, ?_⟩) hS0 ?_
  rotate_left
  ·intro w hSw; (try dsimp only at hSw); go_simp; try with_reducible rfl
  try simp only [Act.put, pq]
  refine tkH (i := 5) (d := 36) (v := ?_) rfl (Or.inl ⟨by rfl, ?_⟩) hS0 ?_
  rotate_left
  ·intro w hSw; (try dsimp only at hSw); go_simp; try with_reducible rfl
  try simp only [Act.put, pq]
  refine tkH (i := 6) (d := 37) (v := ?_) rfl (Or.inl ⟨by rfl, ?_⟩) hS0 ?_
  rotate_left
  ·intro w hSw; (try dsimp only at hSw); go_simp; try with_reducible rfl
  try simp only [Act.put, pq]
  refine wpAnyH_ready (rs := [7]) (by kernel_rfl) (by simp) ?_
  refine AllReadyH.cons rfl (fun K hK => ?_) AllReadyH.nil
  (try rw [if_pos (show Region.wanted _ _ = true from rfl)])
  go_simp
  refine (HSAT.out _).mono ?_
  rintro e w5 ⟨rfl, hN⟩
  have hw5 : Ext w4 w5 := Turn.trans (Turn.drew (Turn.refl _ w4)) hN
  refine hK.out _ _ (HS.out _ hw5) (fun hS1 => ?_)
  clear hK K hN
  refine tkH (i := 8) (d := 39) (v := ?_) rfl (Or.inl ⟨by rfl, ?_⟩) hS1 ?_
  rotate_left
  ·intro w hSw; (try dsimp only at hSw); go_simp; try with_reducible rfl
  try simp only [Act.put, pq]
  refine wpAnyH_done (by kernel_rfl) ?_ _
  have hE5 := (hE2.trans HE4.out).trans hw5
  clear hS0 hS1 HS hwr htn
  have hJ5 := HJ.out _ (fun b => b = A0 ∨ b = A0 + 1) pre _ _ HJV.out hE5 (fun b hb => ⟨.inl hb, by have := hLV.size; have := hE5.size; omega⟩)
  have HJ5 := Lib.hid hJ5
  clear hJ5 HE4
  cases bs
  ·have hno := hitsF_no (hit_cond (by rw [HN3.out]; exact hjN) HBS.out)
   have HNO := Lib.hid hno
   clear hno
   go_wp2
   exact ⟨⟨pre, at_ + 1, by omega, by first | rfl | trivial, ⟨rfl, rfl, rfl, rfl, rfl, rfl, rfl⟩, by rw [HSP.out, HNO.out], HJ5.out, hTV.trans (Ext.of hE5), hLV.trans (Ext.of hE5)⟩, by simp [intOf]; omega⟩
  ·have hall2 : ∀ i, i < j + 1 → satV (ws.getD (at_ + i) (0, 0)) (l.ifs.getD i (0, 0)) = true := fun i hi => by
    by_cases hij : i < j
    ·exact HALL.out i hij
    ·obtain rfl : i = j := by omega
     exact HBS.out
   have HA2 := Lib.hid hall2
   clear hall2
   go_wp2
   exact ⟨⟨j + 1, by omega, by first | rfl | trivial, ⟨rfl, rfl, rfl, rfl, rfl, rfl, rfl, rfl, rfl, rfl⟩, HA2.out, hE5⟩, by simp [intOf]; omega⟩
 obtain rfl : j = N3 := by omega
 have h2 : ¬ ((j : Int) < (j : Int)) := by omega
 have hfit : hitL l ws at_ = fitsB l ws at_ := hit_all (by rw [HWN.out, HN3.out]; exact hle) (by rw [HN3.out]; exact HALL.out)
 obtain ⟨bf, hbf⟩ : ∃ b, fitsB l ws at_ = b := ⟨_, rfl⟩
 have hst9 := HST.out V2 hT2
 obtain ⟨hL9, hW9, hv9, hT9, _⟩ := hst9
 rw [HWN.out] at hv9
 have hL2' := hLV.trans hE2.of
 have hB0 := hL2'.size
 obtain ⟨q1, q2⟩ := H0.out
 have hLB2 : LBox V2 A0 l := ⟨_, hL2'.heap q1.1 (by omega), hL9.2⟩
 have hSB2 : SlBox V2 (A0 + 1) (.slice vo wn vc) := hL2'.heap q2 (by omega)
 have hfc := fit_any hLB2 hSB2 hv9 hT9 at_ (by rw [HWN.out, HN3.out]; exact hle)
 rw [hbf] at hfc
 rw [hbf] at hfit
 have HFC := Lib.hid hfc; have HFIT := Lib.hid hfit
 clear hfc hfit hbf hL9 hW9 hv9 hT9 q1 q2 hLB2 hSB2
 go_upto_region 9 with (fail)
 refine (wpIn_wide (n := 0)).1 ?_
 gi_wp2_with fail
 refine (callsIn_wide.2 HFC.out).mono ?_
 rintro e w6 ⟨rfl, hE6⟩
 have hE7 := hE2.trans hE6
 have hJ6 := HJ.out _ (fun b => b = A0 ∨ b = A0 + 1) pre _ _ HJV.out hE7 (fun b hb => ⟨.inl hb, by have := hLV.size; have := hE7.size; omega⟩)
 have HJ6 := Lib.hid hJ6
 clear hJ6 HFC
 cases bf
 ·have hno := hitsF_no HFIT.out
  have HNO := Lib.hid hno
  clear hno
  gi_wp2
  go_wp2
  exact ⟨⟨pre, at_ + 1, by omega, by first | rfl | trivial, ⟨rfl, rfl, rfl, rfl, rfl, rfl, rfl⟩, by rw [HSP.out, HNO.out], HJ6.out, hTV.trans (Ext.of hE7), hLV.trans (Ext.of hE7)⟩, by simp [intOf]; omega⟩
 ·have hyes := hitsF_yes HFIT.out
  have hsp2 := HSP.out
  rw [hyes] at hsp2
  obtain ⟨fn, tmps, assign, body, hy, hR⟩ := HY.out (fun b => b = A0 ∨ b = A0 + 1) pre at_ _ w6 #[.int .i64 at_] hsp2 HJ6.out rfl
  have HR := Lib.hid hR; have HSP2 := Lib.hid hsp2
  clear hR hyes hsp2
  gi_wp2
  refine HR.out.mono ?_
  rintro e W3 (⟨rfl, hJ3, hk3⟩ | ⟨rfl, hJx3, _⟩)
  ·clear hy
   have hT3 : Turn (fun b => ¬ K b) w W3 := (hTV.trans (Ext.of hE7)).trans (hk3.mono fun b _ hb => hb.1)
   have hL3 : Turn (fun b => b ≠ A0 ∧ b ≠ A0 + 1) w2 W3 := (hLV.trans (Ext.of hE7)).trans (hk3.mono fun b _ hb => ⟨fun h => hb.2 (.inl h), fun h => hb.2 (.inr h)⟩)
   have HJ3 := Lib.hid hJ3
   clear hJ3 hk3
   gi_wp2
   go_wp2
   exact ⟨⟨pre ++ [at_], at_ + 1, by omega, by first | rfl | trivial, ⟨rfl, rfl, rfl, rfl, rfl, rfl, rfl⟩, by rw [HSP2.out]; simp, HJ3.out, hT3, hL3⟩, by simp [intOf]; omega⟩
  ·clear hy
   have HJX := Lib.hid hJx3
   clear hJx3
   gi_wp2
   go_wp2
   unfold Exit.noGoto
   dsimp only
   refine bodyPost_ret (results_none rfl _ _ _) rfl ?_
   exact ⟨⟨_, rfl⟩, (fun b => b = A0 ∨ b = A0 + 1), .inr ⟨pre, at_, _, HSP2.out, HJX.out⟩⟩


theorem results_cell_bool {fn : Func} {p : Tmp} (h : fn.results = #[.cell p 4]) {tmps : Array Value} {w : World} {g : Nat} {v : Value} (hp : tmps.getD p undef = .pointer (some ⟨g, 0, none⟩)) (hg : w.heap[g]? = some (.cells #[v] 4 (0, 0))) :
  (results fn tmps).run Tryz.prog w = .ok v w := by
 have hp' : tmps[p]?.getD undef = .pointer (some ⟨g, 0, none⟩) := by simpa using hp
 have hc := cell_of_one hg
 simp [results, h, hp', asAddr, go_sem, hc]

theorem hitsF_head {l : LawD} {ws : Wd} {a x : Nat} {r : List Nat} (h : hitsF l ws a = x :: r) : hitL l ws a = decide (x = a) := by
 cases hh : hitL l ws a with
 | true => rw [hitsF_yes hh] at h; simp at h; simp [h.1]
 | false =>
  rw [hitsF_no hh] at h
  have hm : x ∈ hitsF l ws (a + 1) := by rw [h]; simp
  have := (List.mem_range'_1.1 (List.mem_filter.1 hm).1).1
  rw [eq_comm, decide_eq_false_iff_not]; omega
theorem hitsF_none {l : LawD} {ws : Wd} {a : Nat} (h : hitsF l ws a = []) : hitL l ws a = false := by
 cases hh : hitL l ws a with
 | true => rw [hitsF_yes hh] at h; cases h
 | false => rfl

theorem hit_any {w : World} {cs : List Value} {l : LawD} {v : Value} {ws : Wd} (hl : LawAt w l cs) (hv : WordAt w v ws) (hT : Tab w) (at' : Nat) (hat : at' ≤ ws.length + 1) (hsm : l.ifs.length + ws.length ≤ 100000) :
  Calls Tryz.prog 63 #[.agg cs.toArray, v, .int .i64 at'] w fun e w' => e = .returned (.bool (hitL l ws at')) ∧ Ext w w' := by
 obtain ⟨vo, vc, rfl, hvm⟩ := hv.slice
 obtain ⟨nm, k1, p1, m1, n1, a1, b1, o1, N1, c1, k2, p2, m2, n2, a2, b2, o2, N2, c2, io, N3, ic, oo, N4, oc, md, rfl, HLA, HPL, HPR, HIF, HOU, HNM, HN1, HN2, HN3, HN4, HMD, q0, q1, q2, q3, q4⟩ := law_gen hl
 obtain ⟨wn, hwn⟩ : ∃ n, ws.length = n := ⟨_, rfl⟩
 rw [hwn] at hv hat
 have HV := Lib.hid hv; have HT := Lib.hid hT; have HWN := Lib.hid hwn; have HSM := Lib.hid hsm
 rw [hwn]
 clear hl hv hT hwn hvm hsm
 refine calls_of_wp_marks Tryz.func63 rfl ?_
 simp only [Tryz.ntmps63, List.size_toArray, List.length_cons, List.length_nil, Nat.reduceAdd, Nat.reduceSub, Array.replicate_succ, Array.replicate_zero, List.push_toArray, List.append_toArray, List.nil_append, List.cons_append]
 go_wp2_with (refine wpList_load_row rfl 34 (.tmp 3) rfl w.heap.size rfl _ _ _ _ (new_keep (new_keep (new_at rfl))) Tryz.underlying34 rfl Tryz.lawInfo ?_)
 obtain ⟨w1, hw1⟩ : ∃ D, ((w.alloc (.cells #[.string nm, .int .i64 k1, .int .u32 (p1 : Int), .int .u32 (m1 : Int), .bool n1, .int .i64 a1, .int .i64 b1, .slice o1 N1 c1, .int .i64 k2, .int .u32 (p2 : Int), .int .u32 (m2 : Int), .bool n2, .int .i64 a2, .int .i64 b2, .slice o2 N2 c2, .slice io N3 ic, .slice oo N4 oc, .int .i64 md] 34)).alloc (.cells #[.int .i64 (at' : Int)] 3)).alloc (.cells #[.bool false] 4) = D := ⟨_, rfl⟩
 have hE1 : Ext w w1 := by rw [← hw1]; exact (((Turn.refl _ w).alloc _).alloc _).alloc _
 have hs1 : w1.heap.size = w.heap.size + 3 := by rw [← hw1]; simp
 have hr1 : w1.heap[w.heap.size + 2]? = some (.cells #[.bool false] 4 (0, 0)) := by rw [← hw1]; exact new_at (by simp)
 have ha1 : w1.heap[w.heap.size + 1]? = some (.cells #[.int .i64 (at' : Int)] 3 (0, 0)) := by rw [← hw1]; exact new_keep (new_at (by simp))
 rw [hw1]
 clear hw1
 have hc := hits_any (HLA.out.ext hE1) (ao := vo) (n := wn) (c := vc) (at' : Int)
 obtain ⟨B, hB⟩ : ∃ B, w.heap.size = B := ⟨_, rfl⟩
 rw [hs1, hB] at hc
 rw [hB] at hr1 ha1 hs1 ⊢
 have HC := Lib.hid hc; have HB := Lib.hid hB
 clear hc hB
 refine HC.out.mono ?_
 rintro e w2 ⟨rfl, hs2, hLB, hSB, hFB, hE2⟩
 have hE02 := hE1.trans hE2
 have hs2' : w2.heap.size = B + 6 := by omega
 have hr2 := hE2.keep hr1
 have ha2 := hE2.keep ha1
 have hwB : ∀ W, Turn (fun b => ¬ (b < B + 6 ∧ b ≠ B + 2)) w2 W → Ext w W := fun W hW => Turn.after hE02 hW (fun b hb hn => hn ⟨by have := HB.out; omega, by have := HB.out; omega⟩)
 have HS2 := Lib.hid hs2'
 clear hr1 ha1 hs1 hE1 hE2 hs2 HC
 go_wp2_with fail
 have hst : ∀ W, Turn (fun b => ¬ (b < B + 6 ∧ b ≠ B + 2)) w2 W → LBx W (B + 3) l _ ∧ SlBox W (B + 3 + 1) (.slice vo wn vc) ∧ WordAt W (.slice vo wn vc) ws ∧ Tab W ∧ W.heap[B + 3 + 2]? = some (.cells #[.int .i64 (at' : Int)] 3 (0, 0)) := fun W hW =>
  ⟨⟨hW.heap hLB.1 (fun h => h ⟨by omega, by omega⟩), HLA.out.ext (hwB W hW)⟩, hW.heap hSB (fun h => h ⟨by omega, by omega⟩), HV.out.ext (hwB W hW), HT.out.keep (hwB W hW) id, hW.heap hFB (fun h => h ⟨by omega, by omega⟩)⟩
 refine wp_rangeO (xs := hitsF l ws at') (K := fun b => b < B + 6 ∧ b ≠ B + 2) rfl (enters_of Tryz.func147 (by kernel_rfl) rfl)
  (hits_iter at' (by rw [HWN.out]; exact hat) HSM.out hst) (fun b h => by omega) (fun _ _ x A ys h => by rw [h]; rfl) (fun _ _ x A D ys h _ _ => h)
  (fun _ pre W => pre = [] ∧ W.heap[B + 2]? = some (.cells #[.bool false] 4 (0, 0)) ∧ W.heap[B + 1]? = some (.cells #[.int .i64 (at' : Int)] 3 (0, 0)) ∧ Ext w W)
  (fun c _ pre W => c = .ret ∧ ∃ x, pre = [x] ∧ W.heap[B + 2]? = some (.cells #[.bool (decide (x = at'))] 4 (0, 0)) ∧ Ext w W) ?hI ?hIx ?h0 (fun ys t => (t.setIfInBounds 12 (ys.getD 0 undef)).setIfInBounds 7 (ys.getD 0 undef)) ?assign ?body ?done ?stop
 case hI =>
  rintro O O' pre A D ⟨i1, i2, i3, i4⟩ hO ht _
  exact ⟨i1, ht.heap i2 (by rintro (h | h); exact h.2.elim; omega), ht.heap i3 (by rintro (h | h); exact h.2.elim; omega), Turn.after i4 ht (fun b hb hn => by have := HB.out; rcases hn with h | h; exact h.2.elim; omega)⟩
 case hIx =>
  rintro c O O' pre A D ⟨i0, x, i1, i2, i4⟩ hO ht _
  exact ⟨i0, x, i1, ht.heap i2 (by rintro (h | h); exact h.2.elim; omega), Turn.after i4 ht (fun b hb hn => by have := HB.out; rcases hn with h | h; exact h.2.elim; omega)⟩
 case h0 =>
  intro W hW _
  exact ⟨rfl, hW.keep hr2, hW.keep ha2, hE02.trans hW⟩
 case assign =>
  rintro _ _ i ys W Kn rfl hK
  gi_wp2
  exact hK
 case body =>
  rintro O pre x rest ys V hx hsz hO ht ⟨rfl, i2, i3, i4⟩ rfl
  simp only [pq]
  have cL := cell_of_one i3
  have cR := cell_of_one i2
  have fR := free_of_one i2
  have I2 := Lib.hid i2; have HX := Lib.hid hx; have HO := Lib.hid hO; have HI4 := Lib.hid i4
  clear i2 i3 hx hO i4 ht hst hwB hE02 hr2 ha2 hLB hSB hFB hs2'
  refine wpIn_block ?_
  refine wpIn_seq ?_
  refine wpIn_region_plain (by kernel_rfl) (by rintro ⟨_, _, h⟩; exact h) ?_
  obtain ⟨d, hd⟩ : ∃ d, decide (x = at') = d := ⟨_, rfl⟩
  have hd2 : ((x : Int) == (at' : Int)) = d := by
   rw [← hd]
   apply Bool.eq_iff_iff.2
   rw [beq_iff_eq, decide_eq_true_iff]; omega
  have HD := Lib.hid hd
  clear hd
  go_wp2
  refine wpIn_ret ?_
  have hset : Turn (fun b => b = B + 2) V (V.setCell ⟨B + 2, 0, none⟩ (.bool d)) := Turn.set1 V (B + 2) 0 _
  have hheap : (V.setCell ⟨B + 2, 0, none⟩ (.bool d)).heap[B + 2]? = some (.cells #[.bool d] 4 (0, 0)) := by
   simp only [World.setCell, Array.getElem?_modify, I2.out]; simp
  refine ⟨hset.mono (fun b _ hb hn => ?_), rfl, x, by simp, by rw [HD.out]; exact hheap, Turn.after HI4.out hset (fun b hb hn => by have := HB.out; omega)⟩
  subst hb
  rcases hn with h | h | h
  ·omega
  ·have := (HO.out _ h).1; have := HS2.out; omega
  ·have := HS2.out; omega
 case done =>
  rintro O V ⟨hx, i2, i3, i4⟩ hO ht hD
  have hno := hitsF_none hx
  have cR := cell_of_one i2
  have fR := free_of_one i2
  have I2 := Lib.hid i2; have HNO := Lib.hid hno; have HI4 := Lib.hid i4; have HDD := Lib.hid hD
  clear i2 i3 hx i4 ht hst hwB hE02 hr2 ha2 hLB hSB hFB hs2' hno hD hO
  go_wp2
  have hheap : (V.setCell ⟨B + 2, 0, none⟩ (.bool false)).heap[B + 2]? = some (.cells #[.bool false] 4 (0, 0)) := by
   simp only [World.setCell, Array.getElem?_modify, I2.out]; simp
  have hset : Turn (fun b => b = B + 2) V (V.setCell ⟨B + 2, 0, none⟩ (.bool false)) := Turn.set1 V (B + 2) 0 _
  have hm : Marks B ({ target := .collected w2.heap.size, args := #[] } :: []) (V.setCell ⟨B + 2, 0, none⟩ (.bool false)) := Marks.cons (base := B) trivial (by have := HS2.out; omega) (hset.heap HDD.out (by have := HS2.out; omega)) (fun e he => by cases he)
  refine leavesM (v := .bool false) _ _ hm fun w' ht' hs => ⟨results_cell_bool rfl rfl (ht'.heap hheap (Shut.not hheap rfl)), by rw [HNO.out], ?_⟩
  exact (Turn.after HI4.out hset (fun b hb hn => by have := HB.out; omega)).after ht' (fun b h1 h2 => by have := h2.1; have := HB.out; omega)
 case stop =>
  rintro c O pre x rest V hx ⟨rfl, y, hp, i2, i4⟩ hD
  have hy : y = x ∧ pre = [] := by
   cases pre with
   | nil => simp at hp; exact ⟨hp.symm, rfl⟩
   | cons a l => have := congrArg List.length hp; simp at this
  obtain ⟨rfl, rfl⟩ := hy
  have hyes := hitsF_head hx
  have HY := Lib.hid hyes
  clear hst hwB hE02 hr2 ha2 hLB hSB hFB hs2' hx hp
  refine wp_ret ?_
  have hm : Marks B ({ target := .collected w2.heap.size, args := #[] } :: []) V := Marks.cons (base := B) trivial (by have := HS2.out; omega) hD (fun e he => by cases he)
  refine leavesM (v := .bool (decide (y = at'))) _ _ hm fun w' ht' hs => ⟨results_cell_bool rfl rfl (ht'.heap i2 (Shut.not i2 rfl)), by rw [HY.out], ?_⟩
  exact Turn.after i4 ht' (fun b h1 h2 => by have := h2.1; have := HB.out; omega)
end Go.Proofs.YtamkkhlabfahmaaGreatDoor
