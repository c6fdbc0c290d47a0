/- pats.Begins. slices.Collect over a set; pats.Ends. slices.Collect over a set; pats.Ends. ablautlaw06.places. math/bits.Len64, of a row. pats.Find. PLAIN: the values of works()'s examples. ablautlaw06's p, a, v, c, seq. ablautlaw06.works. -/
import Derived.Test.YtapfoaiibjdfnaaDoorMd
import Derived.Test.YtapfoaiibjdfnaaDoorMa
import Derived.Test.YtapfoaiibjdfnaaDoorCheckP
import Derived.Lib.Strings
import Derived.Lib.Slices
import Derived.Lib.Small
import Derived.Lib.Walk
import Derived.Lib.BitFns
import Derived.Lib.ItoaNum
namespace Go.Proofs.YtapfoaiibjdfnaaDoor
open Go.RowKit Go.Ab
attribute [local go_sem] Oper.semAt_some wide_fn wide_depth

def placeE (p : Pat) (ws : Wd) (at' : Int) : Int := if relE p ws = 0 then exE ws.length at' else relE p ws
def begL (p : Pat) (ws : Wd) (at' : Int) : List Nat := if placeE p ws at' = 0 then (List.range (ws.length + 1)).filter (fun a => relR p ws a at'.toNat) else []
def endL (p : Pat) (ws : Wd) (at' : Int) : List Nat := if placeE p ws at' = 0 then (List.range (ws.length + 1)).filter (fun b => relR p ws at'.toNat b) else []
def natV (l : List Nat) : List Value := l.map fun (x : Nat) => Value.int .i64 (x : Int)
theorem Tryd.infoI : (Tryd.prog.info? 3).map (fun i => (i.zero, i.size, i.bytes)) = some (some (.int .i64 0), 1, 8) := by kernel_rfl
theorem own_block_ty {w : World} {base : Nat} {e : TypeId} {sz n g : Nat} {v : Value} {xs : List Value} (h : w.ownsRow base e sz v n xs) (hg : v.ownBlock = some g) : ∃ cur, w.heap[g]? = some (.cells cur e (0, 0)) := by
  rcases h.2 with ⟨rfl, _⟩ | ⟨g', cap, cur, rfl, _, hh, _⟩
  · cases hg
  · cases hg; exact ⟨cur, hh⟩
theorem natV_append (l : List Nat) (x : Nat) : natV (l ++ [x]) = natV l ++ [.int .i64 (x : Int)] := by simp [natV]

set_option maxRecDepth 100000 in
set_option maxHeartbeats 8000000 in
theorem begins_any {K : Nat → Prop} {w : World} {p : Pat} {cs : List Value} {v : Value} {ws : Wd} (hp : PatAt K w p cs) (hK : ∀ g, K g → g < w.heap.size) (hv : WordAt w v ws) (hT : Tab w) (at' : Int) :
    Calls Tryd.prog 17 #[.agg cs.toArray, v, .int .i64 at'] w fun e w' => ∃ u, e = .returned (.tuple #[u, .int .i64 (placeE p ws at')]) ∧ w'.ownsRow w.heap.size 3 1 u (begL p ws at').length (natV (begL p ws at')) ∧ Ext w w' := by
  have hre := fun (V : World) (hE : Ext w V) => relate_any (K := K) (hp.ext hE) (fun g hg => Nat.lt_of_lt_of_le (hK g hg) hE.size) (hv.ext hE) (hT.keep hE id)
  obtain ⟨ao, cap, rfl, hlc, hcm, _⟩ := patAt_cells hp
  obtain ⟨bo, bcap, rfl, hbm⟩ := hv.slice
  clear hp hlc hcm hv hT hK
  have HRE := Lib.hid hre
  clear hre
  obtain ⟨z, hz⟩ : ∃ z, relE p ws = z := ⟨_, rfl⟩
  obtain ⟨R, hR⟩ : ∃ R, relR p ws = R := ⟨_, rfl⟩
  obtain ⟨n, hN⟩ : ∃ n, ws.length = n := ⟨_, rfl⟩
  have HP : Hid (placeE p ws at' = if z = 0 then exE n at' else z) := Lib.hid (by unfold placeE; rw [hz, hN])
  have HL : Hid (begL p ws at' = if placeE p ws at' = 0 then (List.range (n + 1)).filter (fun a => R a at'.toNat) else []) := Lib.hid (by unfold begL; rw [hR, hN])
  have hn32 : z = 0 → n ≤ 32 := fun h => by
    subst hz; subst hN
    exact relE_len h
  rw [hz] at HRE
  rw [hR] at HRE
  rw [hN] at HRE hbm ⊢
  clear hz hR hN
  have HNL := Lib.hid hn32
  clear hn32
  unfold patCells at HRE ⊢
  have z1 := zero_rel
  have z2 := relArr_size noB
  have z3 := relArr_ne noB
  go_enter Tryd.func17, Tryd.ntmps17
  go_wp2_with fail
  refine (HRE.out _ ((Turn.refl _ w).alloc _)).mono ?_
  rintro e w2 ⟨rfl, hE2⟩
  have hE02 : Ext w w2 := Turn.trans ((Turn.refl _ w).alloc _) hE2
  clear hE2
  have hR0 : (w2.alloc (.cells (relArr noB) 68)).heap[w2.heap.size]? = some (.cells (relArr noB) 68 (0, 0)) := new_at rfl
  have hR3 : RowsAt ((w2.alloc (.cells (relArr noB) 68)).setRow w2.heap.size (rowArr (rowM R))) w2.heap.size (rowM R) := setRow_heap _ _ _ _ _ _ hR0
  have hE3 : Ext w ((w2.alloc (.cells (relArr noB) 68)).setRow w2.heap.size (rowArr (rowM R))) := hE02.trans (((Turn.refl _ w2).alloc _).after (Turn.setRow _ _ _) (fun b' h1 h2 => by omega))
  go_upto_region 2 with (refine wpList_store_row rfl 68 (.tmp 8) (.tmp 16) rfl w2.heap.size (rowArr (rowM R)) rfl rfl _ _ hR0 (Tryd.relInfo _) (by rw [relArr_size, rowArr_size]) (rowArr_one _) ?_)
  generalize ((w2.alloc (.cells (relArr noB) 68)).setRow w2.heap.size (rowArr (rowM R))) = w3 at hR3 hE3 ⊢
  generalize w2.heap.size = b at hR3 ⊢
  clear hR0 hE02 z1 z2 z3
  by_cases hz0 : z = 0
  · have hn := HNL.out hz0
    rw [if_pos hz0] at HP
    subst hz0
    go_wp2_with fail
    refine (exists_any _ _ _ _ _).mono ?_
    rintro e w4 ⟨rfl, rfl⟩
    by_cases hin : at' < 0 ∨ (n : Int) < at'
    · have hex : exE n at' = 3 := by unfold exE; rw [if_pos hin]
      rw [hex] at HP ⊢
      clear hex
      go_wp2
      refine bodyPost_ret (results_two rfl _ _ _) rfl ⟨_, by rw [HP.out]; rfl, ?_, hE3⟩
      rw [HL.out, HP.out, if_neg (by decide)]
      exact World.ownsRow_nil _ _ _ _
    · have hex : exE n at' = 0 := by unfold exE; rw [if_neg hin]
      rw [hex] at HP ⊢
      obtain ⟨m, rfl⟩ : ∃ m : Nat, at' = m := ⟨at'.toNat, by omega⟩
      have HL2 : Hid (begL p ws m = (List.range (n + 1)).filter (fun a => R a m)) := Lib.hid (by rw [HL.out, HP.out]; rfl)
      have hmn : m ≤ n := by omega
      clear hex HL hin
      go_wp2
      go_loopw [10, 29] (fun v i wr => ∃ k : Nat, k ≤ n + 1 ∧ i = .int .i64 k ∧ wr.ownsRow w.heap.size 3 1 v ((List.range k).filter (fun a => R a m)).length (natV ((List.range k).filter (fun a => R a m))) ∧ Ext w wr ∧ RowsAt wr b (rowM R)) (fun _ i _ => n + 1 - (intOf i).toNat)
      case atStart => exact ⟨0, Nat.zero_le _, rfl, World.ownsRow_nil _ _ _ _, hE3, hR3⟩
      case round =>
        obtain ⟨k, hk, rfl, hO, hE, hR⟩ := hrel
        by_cases hlt : k < n + 1
        · have c0 := hR.cell (a := k) (by omega)
          have hl := rowM_lt R k
          have h1 : (k : Int) < (n : Int) + 1 := by omega
          have hfil : (List.range (k + 1)).filter (fun a => R a m) = (List.range k).filter (fun a => R a m) ++ if R k m then [k] else [] := by
            rw [List.range_succ, List.filter_append]; cases hq : R k m <;> simp [hq]
          have hb := bitR R k m (by omega)
          have HF := Lib.hid hfil
          have hlen : ((List.range k).filter (fun a => R a m)).length ≤ 33 := by
            have := List.length_filter_le (fun a => R a m) (List.range k); simp at this; omega
          clear hfil
          cases hq : R k m
          · rw [hq] at hb HF
            have HQ := Lib.hid hq
            clear hq
            go_wp2
            go_roundw
            case rel => exact ⟨k + 1, by omega, by go_num, by rw [HF.out]; simpa using hO, hE, hR⟩
            case measure => simp [intOf]; omega
          · rw [hq] at hb HF
            have HQ := Lib.hid hq
            clear hq
            go_wp2_with (at_builtin; refine append_row rfl (.tmp 39) (.tmp 41) 30 rfl w.heap.size 3 _ 1 8 Tryd.underlying30 Tryd.infoI rfl (by decide) _ _ _ rfl (own_ext hO ((Turn.refl _ wr).alloc _)) ⟨wr.heap.size, 0, none⟩ 1 1 [.int .i64 k] rfl rfl (new_cells' rfl) ?c2 ?c3 ?c4 ?c5 ?_)
            case c2 => first | rfl | (intro u hu; simp at hu; rcases hu with rfl; rfl)
            case c3 => unfold maxLen; omega
            case c4 => omega
            case c5 => have := hE.size; simp; omega
            intro ao' c' w5 hO5 hT5 _
            have hT6 : Turn (fun b' => u10.ownBlock = some b') wr w5 := Turn.trans (Turn.alloc (Turn.refl _ wr) _) hT5
            have hE5 : Ext w w5 := hE.after hT6 (fun b' h1 e => by have := (hO.lt _ e).1; omega)
            have hR5 := hR.keep hT6 (fun e => by obtain ⟨cur, hc⟩ := own_block_ty hO e; have h8 : wr.heap[b]? = _ := hR; rw [h8] at hc; cases hc)
            clear hT5 hT6 hO hE c0
            go_wp2
            go_roundw
            case rel =>
              refine ⟨k + 1, by omega, by go_num, ?_, hE5, hR5⟩
              rw [HF.out, if_pos (by first | rfl | trivial), natV_append, List.length_append]
              exact hO5
            case measure => simp [intOf]; omega
        · obtain rfl : k = n + 1 := by omega
          go_wp2
          refine bodyPost_ret (results_two rfl _ _ _) rfl ⟨_, by rw [HP.out]; rfl, ?_, hE⟩
          rw [HL2.out]; exact hO
  · have hz1 : (z == 0) = false := by rw [beq_eq_false_iff_ne]; exact hz0
    rw [if_neg hz0] at HP
    go_wp2
    refine bodyPost_ret (results_two rfl _ _ _) rfl ⟨_, by rw [HP.out]; rfl, ?_, hE3⟩
    rw [HL.out, HP.out, if_neg hz0]
    exact World.ownsRow_nil _ _ _ _
end Go.Proofs.YtapfoaiibjdfnaaDoor

namespace Go.Proofs.YtapfoaiibjdfnaaDoor
open Go.RowKit Go.Ab
attribute [local go_sem] Oper.semAt_some wide_fn wide_depth

set_option maxRecDepth 100000 in
set_option maxHeartbeats 8000000 in
theorem append_seq {w : World} {bx v : Nat} (hv : v < 18446744073709551616) (hbx : bx ≠ 0) (hb : SBox w bx v) (hT : Tab w) (hl : (evs v).length ≤ 64) :
    Calls Tryd.prog 70 #[.slice none 0 0, .func (.func 71) #[] #[.pointer (some ⟨bx, 0, none⟩)]] w fun e w' => ∃ u, e = .returned u ∧ w'.ownsRow w.heap.size 3 1 u (evs v).length (natV (evs v)) ∧ Turn (· = bx) w w' := by
  refine calls_of_wp_marks Tryd.func70 rfl ?_
  simp only [Tryd.ntmps70, List.size_toArray, List.length_cons, List.length_nil, Nat.reduceAdd, Nat.reduceSub, Array.replicate_succ, Array.replicate_zero, List.push_toArray, List.append_toArray, List.nil_append, List.cons_append]
  go_wp2
  obtain ⟨B, hB⟩ : ∃ B, w.heap.size = B := ⟨_, rfl⟩
  have hbl : bx < B := by rw [← hB]; exact (Array.getElem?_eq_some_iff.1 hb).1
  have htl : 0 < B := by rw [← hB]; exact tab_lt hT
  have hL1 : (w.alloc (.cells #[.slice none 0 0] 30)).heap[B]? = some (.cells #[.slice none 0 0] 30 (0, 0)) := new_at hB.symm
  have hE1 : Ext w (w.alloc (.cells #[.slice none 0 0] 30)) := (Turn.refl _ w).alloc _
  have hs1 : (w.alloc (.cells #[.slice none 0 0] 30)).heap.size = B + 1 := by rw [← hB]; simp
  generalize (w.alloc (.cells #[.slice none 0 0] 30)) = w1 at hL1 hE1 hs1 ⊢
  have hb1 : SBox w1 bx v := hE1.keep hb
  have hT1 := hT.keep hE1 id
  rw [hB]
  have HB := Lib.hid hB
  clear hB
  refine wp_range (xs := evs v) (S := (· = bx)) (K := fun b' => b' = bx ∨ b' = 0) rfl (enters_of Tryd.func71 (by kernel_rfl) rfl)
    (all_iter _ hv bx hbx w1 hb1 hT1) (fun _ h => .inl h) (fun b' h => by omega) (fun _ => rfl)
    (fun pre V => ∃ u, V.heap[B]? = some (.cells #[u] 30 (0, 0)) ∧ V.ownsRow B 3 1 u pre.length (natV pre) ∧ (∀ g, u.ownBlock = some g → g ≠ B ∧ g ≠ B + 1 ∧ g ≠ B + 2) ∧ Turn (· = bx) w V)
    (fun _ _ _ => False) ?hI ?hIx ?h0 (fun i t => (t.setIfInBounds 7 (.int .i64 i)).setIfInBounds 5 (.int .i64 i)) ?assign ?body ?done ?stop
  case hI =>
    rintro pre P Q ⟨u, i1, i2, i3, i4⟩ ht0
    have ht : Turn (fun b => b = bx ∨ b = B + 2) P Q := ht0.mono (fun b _ h => by omega)
    exact ⟨u, ht.heap i1 (by omega), own_keep i2 ht (fun b hb e => by have := i3 b hb; have := (i2.lt _ hb).1; omega), i3, i4.after ht (fun b' h1 h2 => by have := HB.out; omega)⟩
  case hIx => exact fun _ _ _ _ h _ => h
  case h0 =>
    intro V hV _
    exact ⟨.slice none 0 0, hV.keep hL1, World.ownsRow_nil _ _ _ _, (fun g hg => by cases hg), Ext.of (Turn.trans hE1 hV)⟩
  case assign =>
    intro i V K hK
    gi_wp2
    exact hK
  case body =>
    rintro pre i rest V hx hsz ht ⟨u, i1, i2, i3, i4⟩
    simp only [List.setIfInBounds_toArray, List.set_cons_zero, List.set_cons_succ]
    have hpl : pre.length < 64 := by
      have := congrArg List.length hx
      simp at this
      omega
    have cL := cell_of_one i1
    have fL := free_of_one i1
    have hBV : B < V.heap.size := (Array.getElem?_eq_some_iff.1 i1).1
    have hX := Lib.hid hx
    clear hx
    refine wpIn_block ?_
    refine wpIn_region_plain (by kernel_rfl) (by rintro ⟨_, _, h⟩; exact h) ?_
    have I1 := Lib.hid i1
    clear i1
    go_wp2_with (at_builtin; refine append_row rfl (.tmp 8) (.tmp 10) 30 rfl B 3 _ 1 8 Tryd.underlying30 Tryd.infoI rfl (by decide) _ _ _ rfl (own_ext i2 ((Turn.refl _ V).alloc _)) ⟨V.heap.size, 0, none⟩ 1 1 [.int .i64 i] rfl rfl (new_cells' rfl) ?c2 ?c3 ?c4 ?c5 ?_)
    case c2 => first | rfl | (intro u hu; simp at hu; rcases hu with rfl; rfl)
    case c3 => unfold maxLen; omega
    case c4 => omega
    case c5 => simp; omega
    intro ao' c' w5 hO5 hT5 hB5
    have hT6 : Turn (fun b' => u.ownBlock = some b') V w5 := Turn.trans (Turn.alloc (Turn.refl _ V) _) hT5
    have hL5 := hT6.heap I1.out (fun e => (i3 _ e).1 rfl)
    have hE5 : Turn (· = bx) w w5 := i4.after hT6 (fun b' h1 e => by have := (i2.lt _ e).1; have := HB.out; omega)
    have hg5 : ∀ g, (Value.slice ao' (pre.length + 1) c').ownBlock = some g → g ≠ B ∧ g ≠ B + 1 ∧ g ≠ B + 2 := by
      intro g hg
      rcases hB5 with e | e
      · exact i3 g (e ▸ hg)
      · rw [hg] at e; cases e; omega
    have cL5 := cell_of_one hL5
    have fL5 := free_of_one hL5
    have hT7 := Turn.set1 w5 B 0 (.slice ao' (pre.length + 1) c')
    have hL7 : (w5.setCell ⟨B, 0, none⟩ (.slice ao' (pre.length + 1) c')).heap[B]? = some (.cells #[.slice ao' (pre.length + 1) c'] 30 (0, 0)) := by
      simp only [World.setCell, Array.getElem?_modify, hL5]
      simp
    have hKV : Turn (fun b => ¬ ((b = bx ∨ b = 0) ∨ b = B + 1 ∨ b = B + 1 + 1)) V (w5.setCell ⟨B, 0, none⟩ (.slice ao' (pre.length + 1) c')) :=
      (hT6.mono (fun b' _ e => by have := i3 _ e; have := (i2.lt _ e).1; omega)).trans (hT7.mono (fun b' _ e => by omega))
    have hfin : ∃ u, (w5.setCell ⟨B, 0, none⟩ (.slice ao' (pre.length + 1) c')).heap[B]? = some (.cells #[u] 30 (0, 0)) ∧ (w5.setCell ⟨B, 0, none⟩ (.slice ao' (pre.length + 1) c')).ownsRow B 3 1 u (pre ++ [i]).length (natV (pre ++ [i])) ∧ (∀ g, u.ownBlock = some g → g ≠ B ∧ g ≠ B + 1 ∧ g ≠ B + 2) ∧ Turn (· = bx) w (w5.setCell ⟨B, 0, none⟩ (.slice ao' (pre.length + 1) c')) := by
      refine ⟨_, hL7, ?_, hg5, hE5.after hT7 (fun b h1 h2 => by have := HB.out; omega)⟩
      rw [natV_append, List.length_append]
      exact own_keep hO5 hT7 (fun b hb e => (hg5 b hb).1 e)
    have HKV := Lib.hid hKV; have HFIN := Lib.hid hfin
    clear hKV hfin hL7 hT7 hg5 hE5 hT6 hT5 hO5 hB5 cL fL i2 i3 i4 ht
    go_wp2
    exact ⟨HKV.out, HFIN.out⟩
  case done =>
    rintro V ⟨u, i1, i2, i3, i4⟩ ht hD
    have cL := cell_of_one i1
    clear hE1 hb1 hT1 hL1
    go_wp2
    have hm : Marks B ({ target := .collected w1.heap.size, args := #[] } :: []) V := Marks.cons (base := B) trivial (by omega) hD (fun e he => by cases he)
    refine bodyPostM_ret hm (fun w' => results_tmp rfl _ _ _) (fun w' ht' hs => ⟨u, rfl, ?_, ?_⟩)
    · rw [HB.out]
      exact own_keep i2 ht' (fun b hb e => by obtain ⟨cur, hc⟩ := own_block_ty i2 hb; exact Shut.not hc rfl e)
    · exact i4.after ht' (fun b' h2 h3 => by have := h3.1; have := HB.out; omega)
  case stop => exact fun _ _ _ _ _ _ h => h.elim
end Go.Proofs.YtapfoaiibjdfnaaDoor

namespace Go.Proofs.YtapfoaiibjdfnaaDoor
open Go.RowKit Go.Ab
attribute [local go_sem] Oper.semAt_some wide_fn wide_depth

theorem collect_any {w : World} {bx v : Nat} (hv : v < 18446744073709551616) (hbx : bx ≠ 0) (hb : SBox w bx v) (hT : Tab w) (hl : (evs v).length ≤ 64) :
    Calls Tryd.prog 49 #[.func (.func 71) #[] #[.pointer (some ⟨bx, 0, none⟩)]] w fun e w' => ∃ u, e = .returned u ∧ w'.ownsRow w.heap.size 3 1 u (evs v).length (natV (evs v)) ∧ Turn (· = bx) w w' := by
  go_enter Tryd.func49, Tryd.ntmps49
  go_wp2_with fail
  refine (append_seq hv hbx hb hT hl).mono ?_
  rintro e w2 ⟨u, rfl, h1, h2⟩
  go_wp2
  go_ret
  exact ⟨_, rfl, h1, h2⟩
theorem evs_row (R : Bin2) (a : Nat) : evs (rowM R a) = (List.range 33).filter (R a) := evs_rowM R a
/-- Nothing is matched beyond the word. -/
theorem rng_filter {R : Bin2} {a n : Nat} (hn : n ≤ 32) (hR : ∀ b, R a b = true → b ≤ n) : (List.range 33).filter (R a) = (List.range (n + 1)).filter (fun b => R a b) := by
  have e : List.range 33 = List.range (n + 1) ++ (List.range (32 - n)).map (n + 1 + ·) := by
    rw [← List.range_add, show n + 1 + (32 - n) = 33 by omega]
  rw [e, List.filter_append]
  have : ((List.range (32 - n)).map (n + 1 + ·)).filter (R a) = [] := by
    rw [List.filter_eq_nil_iff]
    intro x hx h
    obtain ⟨i, _, rfl⟩ := List.mem_map.1 hx
    have := hR _ h
    omega
  rw [this, List.append_nil]

set_option maxRecDepth 100000 in
set_option maxHeartbeats 8000000 in
theorem ends_any {K : Nat → Prop} {w : World} {p : Pat} {cs : List Value} {v : Value} {ws : Wd} (hp : PatAt K w p cs) (hK : ∀ g, K g → g < w.heap.size) (hv : WordAt w v ws) (hT : Tab w) (at' : Int) :
    Calls Tryd.prog 15 #[.agg cs.toArray, v, .int .i64 at'] w fun e w' => ∃ u, e = .returned (.tuple #[u, .int .i64 (placeE p ws at')]) ∧ w'.ownsRow w.heap.size 3 1 u (endL p ws at').length (natV (endL p ws at')) ∧ Ext w w' := by
  have hmono : Mono ws.length (relR p ws) := by
    unfold relR
    split
    · exact relP_mono ws p
    · exact Mono.no _
  have HT := Lib.hid hT
  have hre := fun (V : World) (hE : Ext w V) => relate_any (K := K) (hp.ext hE) (fun g hg => Nat.lt_of_lt_of_le (hK g hg) hE.size) (hv.ext hE) (hT.keep hE id)
  obtain ⟨ao, cap, rfl, hlc, hcm, _⟩ := patAt_cells hp
  obtain ⟨bo, bcap, rfl, hbm⟩ := hv.slice
  clear hp hlc hcm hv hT hK
  have HRE := Lib.hid hre
  clear hre
  obtain ⟨z, hz⟩ : ∃ z, relE p ws = z := ⟨_, rfl⟩
  obtain ⟨R, hR⟩ : ∃ R, relR p ws = R := ⟨_, rfl⟩
  obtain ⟨n, hN⟩ : ∃ n, ws.length = n := ⟨_, rfl⟩
  have HP : Hid (placeE p ws at' = if z = 0 then exE n at' else z) := Lib.hid (by unfold placeE; rw [hz, hN])
  have HL : Hid (endL p ws at' = if placeE p ws at' = 0 then (List.range (n + 1)).filter (fun b => R at'.toNat b) else []) := Lib.hid (by unfold endL; rw [hR, hN])
  have hn32 : z = 0 → n ≤ 32 := fun h => by
    subst hz; subst hN
    exact relE_len h
  rw [hz] at HRE
  rw [hR] at HRE hmono
  rw [hN] at HRE hbm hmono ⊢
  have HMO := Lib.hid hmono
  clear hmono
  clear hz hR hN
  have HNL := Lib.hid hn32
  clear hn32
  unfold patCells at HRE ⊢
  have z1 := zero_rel
  have z2 := relArr_size noB
  have z3 := relArr_ne noB
  go_enter Tryd.func15, Tryd.ntmps15
  go_wp2_with fail
  refine (HRE.out _ ((Turn.refl _ w).alloc _)).mono ?_
  rintro e w2 ⟨rfl, hE2⟩
  have hE02 : Ext w w2 := Turn.trans ((Turn.refl _ w).alloc _) hE2
  clear hE2
  have hR0 : (w2.alloc (.cells (relArr noB) 68)).heap[w2.heap.size]? = some (.cells (relArr noB) 68 (0, 0)) := new_at rfl
  have hR3 : RowsAt ((w2.alloc (.cells (relArr noB) 68)).setRow w2.heap.size (rowArr (rowM R))) w2.heap.size (rowM R) := setRow_heap _ _ _ _ _ _ hR0
  have hE3 : Ext w ((w2.alloc (.cells (relArr noB) 68)).setRow w2.heap.size (rowArr (rowM R))) := hE02.trans (((Turn.refl _ w2).alloc _).after (Turn.setRow _ _ _) (fun b' h1 h2 => by omega))
  go_upto_region 2 with (refine wpList_store_row rfl 68 (.tmp 8) (.tmp 14) rfl w2.heap.size (rowArr (rowM R)) rfl rfl _ _ hR0 (Tryd.relInfo _) (by rw [relArr_size, rowArr_size]) (rowArr_one _) ?_)
  generalize ((w2.alloc (.cells (relArr noB) 68)).setRow w2.heap.size (rowArr (rowM R))) = w3 at hR3 hE3 ⊢
  generalize w2.heap.size = b at hR3 ⊢
  clear hR0 hE02 z1 z2 z3
  by_cases hz0 : z = 0
  · have hn := HNL.out hz0
    rw [if_pos hz0] at HP
    subst hz0
    go_wp2_with fail
    refine (exists_any _ _ _ _ _).mono ?_
    rintro e w4 ⟨rfl, rfl⟩
    by_cases hin : at' < 0 ∨ (n : Int) < at'
    · have hex : exE n at' = 3 := by unfold exE; rw [if_pos hin]
      rw [hex] at HP ⊢
      clear hex
      go_wp2
      refine bodyPost_ret (results_two rfl _ _ _) rfl ⟨_, by rw [HP.out]; rfl, ?_, hE3⟩
      rw [HL.out, HP.out, if_neg (by decide)]
      exact World.ownsRow_nil _ _ _ _
    · have hex : exE n at' = 0 := by unfold exE; rw [if_neg hin]
      rw [hex] at HP ⊢
      obtain ⟨m, rfl⟩ : ∃ m : Nat, at' = m := ⟨at'.toNat, by omega⟩
      have HL2 : Hid (endL p ws m = (List.range (n + 1)).filter (fun b => R m b)) := Lib.hid (by rw [HL.out, HP.out]; rfl)
      have hmn : m ≤ n := by omega
      have c0 := hR3.cell (a := m) (by omega)
      have hl := rowM_lt R m
      have hrg : (List.range 33).filter (R m) = (List.range (n + 1)).filter (fun b => R m b) := rng_filter hn (fun b hb => (HMO.out m b hb).2)
      have HRG := Lib.hid hrg
      clear hex HL hin hrg
      go_wp2_with (go_at_call 50; refine (all_any _ _).mono ?_; rintro e w' ⟨rfl, rfl⟩)
      have hTl := tab_lt HT.out
      have hs4 := hE3.size
      have hE4 : Ext w (w4.alloc (.cells #[.int .u64 (rowM R m : Int)] 66)) := Turn.alloc hE3 _
      have hlen : (evs (rowM R m)).length ≤ 64 := by
        rw [evs_row]
        have := List.length_filter_le (R m) (List.range 33)
        simp at this
        omega
      refine (collect_any (v := rowM R m) (bx := w4.heap.size) (by omega) (by omega) (new_at rfl) (HT.out.keep hE4 id) hlen).mono ?_
      rintro e w6 ⟨u, rfl, hO6, hT6⟩
      rw [evs_row, HRG.out, ← HL2.out] at hO6
      have hE6 : Ext w w6 := hE4.after hT6 (fun b' h1 h2 => by omega)
      have hO7 := own_base hO6 hE4.size
      clear hO6 hT6 hE4 hlen
      go_wp2
      exact bodyPost_ret (results_two rfl _ _ _) rfl ⟨_, by rw [HP.out]; rfl, hO7, hE6⟩
  · have hz1 : (z == 0) = false := by rw [beq_eq_false_iff_ne]; exact hz0
    rw [if_neg hz0] at HP
    go_wp2
    refine bodyPost_ret (results_two rfl _ _ _) rfl ⟨_, by rw [HP.out]; rfl, ?_, hE3⟩
    rw [HL.out, HP.out, if_neg hz0]
    exact World.ownsRow_nil _ _ _ _
end Go.Proofs.YtapfoaiibjdfnaaDoor

namespace Go.Proofs.YtapfoaiibjdfnaaDoor
open Go.RowKit Go.Ab
attribute [local go_sem] Oper.semAt_some wide_fn wide_depth

theorem natV_length (l : List Nat) : (natV l).length = l.length := by simp [natV]
theorem natV_get (l : List Nat) {k : Nat} (h : k < l.length) : (natV l).getD k undef = .int .i64 (l[k] : Int) := by
  simp [natV, List.getD_eq_getElem?_getD, h]
theorem take_same {l m : List Nat} {k : Nat} (h1 : k < l.length) (h2 : k < m.length) (h : l.take k = m.take k) (e : l[k] = m[k]) : l.take (k + 1) = m.take (k + 1) := by
  rw [List.take_succ_eq_append_getElem h1, List.take_succ_eq_append_getElem h2, h, e]
theorem Rd.int {w : World} {v : Value} {l : List Nat} (h : Rd w v l.length 1 (natV l)) : ∃ ao cap, v = .slice ao l.length cap ∧ l.length ≤ maxLen ∧ ∀ k (hk : k < l.length), ∃ g off, ao = some ⟨g, off, none⟩ ∧ w.cell? ⟨g, off + k, none⟩ = some (.int .i64 (l[k] : Int)) := by
  obtain ⟨h1, h2, ao, cap, hv, h3⟩ := h
  refine ⟨ao, cap, hv, h2, fun k hk => ?_⟩
  obtain ⟨g, off, ha, hg, hc⟩ := h3 (by omega)
  have := hc k (by omega)
  rw [natV_get l hk] at this
  exact ⟨g, off, ha, this⟩

set_option maxRecDepth 100000 in
set_option maxHeartbeats 4000000 in
theorem places_any {w : World} {u v : Value} {l m : List Nat} (hu : Rd w u l.length 1 (natV l)) (hv : Rd w v m.length 1 (natV m)) :
    Calls Tryd.prog 19 #[u, v] w fun e w' => e = .returned (.bool (decide (l = m))) ∧ Ext w w' := by
  obtain ⟨ao, cap, rfl, hlm, hl⟩ := Rd.int hu
  obtain ⟨bo, bcap, rfl, hmm, hm⟩ := Rd.int hv
  unfold maxLen at hlm hmm
  have HL := Lib.hid hl; have HM := Lib.hid hm
  clear hl hm hu hv
  obtain ⟨N, hN⟩ : ∃ N, l.length = N := ⟨_, rfl⟩
  obtain ⟨M, hM⟩ : ∃ M, m.length = M := ⟨_, rfl⟩
  have HN := Lib.hid hN; have HMM := Lib.hid hM
  rw [hN] at hlm ⊢
  rw [hM] at hmm ⊢
  clear hN hM
  by_cases hNM : N = M
  · subst hNM
    go_enter Tryd.func19, Tryd.ntmps19
    go_wp2
    refine wp_loop (fun a W => ∃ (k : Nat), k ≤ N ∧ a.defers = [] ∧ (a.tmps.size = 26 ∧ a.tmps.getD 0 undef = .slice ao N cap ∧ a.tmps.getD 1 undef = .slice bo N bcap ∧ a.tmps.getD 5 undef = .int .i64 k) ∧ l.take k = m.take k ∧ Ext w W)
      (fun a _ => N - (intOf (a.tmps.getD 5 undef)).toNat) ?_ ?_
    · exact ⟨0, by omega, rfl, ⟨rfl, rfl, rfl, rfl⟩, rfl, Turn.refl _ _⟩
    rintro ⟨t, _⟩ W ⟨k, hk, hds, ⟨hsz, f0, f1, f5⟩, hall, hE⟩
    subst hds
    obtain ⟨u', hu⟩ := frame_fun hsz
    obtain ⟨u, rfl⟩ : ∃ x, x = u' := ⟨_, rfl⟩
    have hu' : t = #[u 0, u 1, u 2, u 3, u 4, u 5, u 6, u 7, u 8, u 9, u 10, u 11, u 12, u 13, u 14, u 15, u 16, u 17, u 18, u 19, u 20, u 21, u 22, u 23, u 24, u 25] := hu
    clear hu
    subst hu'
    change u 0 = _ at f0
    change u 1 = _ at f1
    change u 5 = _ at f5
    rw [f0, f1, f5]
    clear f0 f1 f5 hsz
    have HALL := Lib.hid hall
    clear hall
    by_cases hkN : k < N
    · have h1 : (k : Int) < (N : Int) := by omega
      have hkl : k < l.length := by rw [HN.out]; exact hkN
      have hkr : k < m.length := by rw [HMM.out]; exact hkN
      obtain ⟨g, off, rfl, d1⟩ := HL.out k hkl
      obtain ⟨g', off', rfl, d2⟩ := HM.out k hkr
      have c1 := hE.cell_some d1 id
      have c2 := hE.cell_some d2 id
      have HS := Lib.hid (fun x => take_same (l := l) (m := m) hkl hkr HALL.out x)
      have hne : l[k] ≠ m[k] → l ≠ m := fun h e => h (by simp [e])
      have HNE := Lib.hid hne
      obtain ⟨x, hx⟩ : ∃ x, l[k] = x := ⟨_, rfl⟩
      obtain ⟨y, hy⟩ : ∃ y, m[k] = y := ⟨_, rfl⟩
      rw [hx, hy] at HS HNE
      rw [hx] at c1
      rw [hy] at c2
      clear hne d1 d2 hx hy
      by_cases hxy : x = y
      · have HS2 := Lib.hid (HS.out hxy)
        have q1 : ((x : Int) == (y : Int)) = true := by rw [beq_iff_eq]; omega
        clear HS HNE
        subst hxy
        go_wp2
        go_quiet (fail)
        go_wp2
        exact ⟨⟨k + 1, by omega, by first | rfl | trivial, ⟨rfl, rfl, rfl, rfl⟩, HS2.out, Turn.drewN hE _⟩, by simp [intOf]; omega⟩
      · have HS2 := Lib.hid (HNE.out hxy)
        have q1 : ((x : Int) == (y : Int)) = false := by rw [beq_eq_false_iff_ne]; omega
        clear HS HNE hxy
        go_wp2
        go_quiet (fail)
        go_wp2
        go_ret
        exact ⟨by rw [decide_eq_false HS2.out]; rfl, Turn.drewN hE _⟩
    · obtain rfl : k = N := by omega
      have h1 : ¬ (k : Int) < (k : Int) := by omega
      have hfin : l = m := by
        have := HALL.out
        rwa [List.take_of_length_le (by rw [HN.out]; exact Nat.le_refl _), List.take_of_length_le (by rw [HMM.out]; exact Nat.le_refl _)] at this
      have HFI := Lib.hid hfin
      clear hfin
      go_wp2
      go_ret
      exact ⟨by rw [decide_eq_true HFI.out]; rfl, hE⟩
  · have hfin : l ≠ m := fun h => hNM (by rw [← HN.out, ← HMM.out, h])
    have HFI := Lib.hid hfin
    have h1 : ((N : Int) == (M : Int)) = false := by rw [beq_eq_false_iff_ne]; omega
    clear hfin
    go_enter Tryd.func19, Tryd.ntmps19
    go_wp2
    go_ret
    exact ⟨by rw [decide_eq_false HFI.out]; rfl, Turn.refl _ _⟩
end Go.Proofs.YtapfoaiibjdfnaaDoor

namespace Go.Proofs.YtapfoaiibjdfnaaDoor
open Go.RowKit Go.Ab

theorem len_size : Lib.len8tab.size = 256 := by decide +kernel
theorem len_at : ∀ n : Fin Lib.len8tab.size, (Lib.len8tab[n.val]).toNat = Lib.bitLen n.val := by decide +kernel
theorem len_fin (y : Nat) (h : y < Lib.len8tab.size) : (Lib.len8tab[y]).toNat = Lib.bitLen y ∧ Lib.bitLen y ≤ 8 := ⟨len_at ⟨y, h⟩, Lib.bitLen_le8 ⟨y, by rw [← len_size]; exact h⟩⟩
theorem len_sum (x y s : Nat) (hx : x < 18446744073709551616) (hy : y = x / 2 ^ s) (h : 2 ^ s ≤ x) : Lib.bitLen x = s + Lib.bitLen y := by
  rw [hy]; exact Lib.bitLen_shift s x h hx
theorem wrap_small (s : Int) (b : Nat) (hs : 0 ≤ s ∧ s ≤ 56) (hb : b ≤ 8) : wrap64 (s + wrap64 (b : Int)) = s + b := by
  unfold wrap64; omega

theorem len_fit {x : Int} (h0 : 0 ≤ x) (h1 : x ≤ 18446744073709551615) (y : Int) (s : Nat) (hs : s ≤ 56) (hy : y = x / ((2 ^ s : Nat) : Int)) (hlo : ((2 ^ s : Nat) : Int) ≤ x) (_hhi : y < 256) (h : y.toNat < Lib.len8tab.size) :
    wrap64 ((s : Int) + wrap64 ((Lib.len8tab[y.toNat]).toNat : Int)) = (Lib.bitLen x.toNat : Int) := by
  obtain ⟨e1, e2⟩ := len_fin y.toNat h
  rw [e1, wrap_small _ _ ⟨by omega, by omega⟩ e2]
  obtain ⟨n, rfl⟩ := Int.eq_ofNat_of_zero_le h0
  have hy2 : y.toNat = n / 2 ^ s := by
    have e : ((n : Int) / ((2 ^ s : Nat) : Int)) = ((n / 2 ^ s : Nat) : Int) := (Int.natCast_ediv n (2 ^ s)).symm
    rw [hy, e, Int.toNat_natCast]
  have := len_sum n y.toNat s (by omega) hy2 (by exact_mod_cast hlo)
  rw [Int.toNat_natCast, this]
  omega
theorem len_fit0 {x : Int} (_h0 : 0 ≤ x) (_hhi : x < 256) (h : x.toNat < Lib.len8tab.size) :
    wrap64 (wrap64 ((Lib.len8tab[x.toNat]).toNat : Int)) = (Lib.bitLen x.toNat : Int) := by
  obtain ⟨e1, e2⟩ := len_fin x.toNat h
  rw [e1]
  have := wrap_small 0 (Lib.bitLen x.toNat) (by omega) e2
  rw [Int.zero_add, Int.zero_add] at this
  exact this

set_option maxHeartbeats 4000000 in
set_option maxRecDepth 100000 in
theorem len_core (x : Int) (w : World) (h0 : 0 ≤ x) (h1 : x ≤ 18446744073709551615) :
    Calls Tryd.prog 53 #[.int .u64 x] w fun e w' => e = .returned (.int .i64 (Lib.bitLen x.toNat)) ∧ w' = w := by
  have hsz := len_size
  go_enter Tryd.func53, Tryd.ntmps53
  go_wp2
  all_goals
    refine bodyPost_ret (results_tmp rfl _ _ _) rfl ⟨?_, rfl⟩
    show Ending.returned (.int .i64 _) = Ending.returned (.int .i64 _)
    refine ret_int ?_
  all_goals first
    | exact len_fit h0 h1 (x / 4294967296 / 65536 / 256) 56 (by omega) (by omega) (by omega) (by omega) _
    | exact len_fit h0 h1 (x / 4294967296 / 65536) 48 (by omega) (by omega) (by omega) (by omega) _
    | exact len_fit h0 h1 (x / 4294967296 / 256) 40 (by omega) (by omega) (by omega) (by omega) _
    | exact len_fit h0 h1 (x / 4294967296) 32 (by omega) (by omega) (by omega) (by omega) _
    | exact len_fit h0 h1 (x / 65536 / 256) 24 (by omega) (by omega) (by omega) (by omega) _
    | exact len_fit h0 h1 (x / 65536) 16 (by omega) (by omega) (by omega) (by omega) _
    | exact len_fit h0 h1 (x / 256) 8 (by omega) (by omega) (by omega) (by omega) _
    | exact len_fit0 h0 (by omega) _

theorem len_any (x : Nat) (hx : x < 18446744073709551616) (w : World) :
    Calls Tryd.prog 53 #[.int .u64 (x : Int)] w fun e w' => e = .returned (.int .i64 (Lib.bitLen x)) ∧ w' = w := len_core (x : Int) w (by omega) (by omega)
end Go.Proofs.YtapfoaiibjdfnaaDoor

namespace Go.Proofs.YtapfoaiibjdfnaaDoor
open Go.RowKit Go.Ab
attribute [local go_sem] Oper.semAt_some wide_fn wide_depth

theorem top_bit {v : Nat} (hv : v < 18446744073709551616) (h0 : v ≠ 0) : v.testBit (Lib.bitLen v - 1) = true ∧ ∀ b, v.testBit b = true → b ≤ Lib.bitLen v - 1 := by
  obtain ⟨h1, h2, h3⟩ := Lib.bitLenAux_bounds 64 v (by simpa using hv) h0
  change 1 ≤ Lib.bitLen v at h1
  change 2 ^ (Lib.bitLen v - 1) ≤ v at h2
  change v < 2 ^ Lib.bitLen v at h3
  refine ⟨Nat.testBit_of_two_pow_le_and_two_pow_add_one_gt h2 (by rw [show Lib.bitLen v - 1 + 1 = Lib.bitLen v by omega]; omega), fun b hb => ?_⟩
  apply Nat.le_of_not_lt
  intro hlt
  have := Nat.testBit_lt_two_pow (Nat.lt_of_lt_of_le h3 (Nat.pow_le_pow_right (n := 2) (by decide) (show Lib.bitLen v ≤ b by omega)))
  rw [this] at hb; cases hb
theorem row_zero {R : Bin2} {n a : Nat} (hn : n ≤ 32) (hR : Mono n R) (h : rowM R a = 0) (b : Nat) : R a b = false := by
  cases hb : R a b with
  | false => rfl
  | true =>
    have := (hR a b hb).2
    have h2 := rowM_bit R (a := a) (b := b) (by omega)
    rw [h, hb] at h2; simp at h2
theorem row_top {R : Bin2} {n a : Nat} (hn : n ≤ 32) (hR : Mono n R) (h : rowM R a ≠ 0) : R a (Lib.bitLen (rowM R a) - 1) = true ∧ ∀ b, R a b = true → b ≤ Lib.bitLen (rowM R a) - 1 := by
  have hl := rowM_lt R a
  obtain ⟨h1, h2⟩ := top_bit (v := rowM R a) (by omega) h
  have hb : ∀ b, (rowM R a).testBit b = true → b < 33 := fun b hb => by
    apply Nat.lt_of_not_le
    intro hle
    have := Nat.testBit_lt_two_pow (Nat.lt_of_lt_of_le hl (show 8589934592 ≤ 2 ^ b from Nat.pow_le_pow_right (n := 2) (by decide) hle))
    rw [this] at hb; cases hb
  refine ⟨by rw [← rowM_bit R (hb _ h1)]; exact h1, fun b hR' => h2 b ?_⟩
  have := (hR a b hR').2
  rw [rowM_bit R (by omega)]; exact hR'

/-- What is found. -/
def FindIs (R : Bin2) (n m : Nat) (x y : Int) (ok : Bool) : Prop :=
  (ok = false ∧ x = 0 ∧ y = 0 ∧ ∀ a b, m ≤ a → a ≤ n → R a b = false) ∨
  (ok = true ∧ ∃ a b : Nat, x = a ∧ y = b ∧ m ≤ a ∧ a ≤ n ∧ R a b = true ∧ (∀ a' b', m ≤ a' → a' < a → R a' b' = false) ∧ ∀ b', R a b' = true → b' ≤ b)
def FindE (pe : Int) (R : Bin2) (n : Nat) (at' : Int) (e : Ending) : Prop := ∃ x y ok, e = .returned (.tuple #[.int .i64 x, .int .i64 y, .bool ok, .int .i64 pe]) ∧ (if pe = 0 then FindIs R n at'.toNat x y ok else x = 0 ∧ y = 0 ∧ ok = false)
theorem results_four {fn : Func} {t u v x : Tmp} (h : fn.results = #[.tmp t, .tmp u, .tmp v, .tmp x]) (tmps : Array Value) (P : Program) (w : World) :
    (results fn tmps).run P w = .ok (.tuple #[tmps.getD t undef, tmps.getD u undef, tmps.getD v undef, tmps.getD x undef]) w := by
  simp [results, h]

set_option maxRecDepth 100000 in
set_option maxHeartbeats 8000000 in
theorem find_any {K : Nat → Prop} {w : World} {p : Pat} {cs : List Value} {v : Value} {ws : Wd} (hp : PatAt K w p cs) (hK : ∀ g, K g → g < w.heap.size) (hv : WordAt w v ws) (hT : Tab w) (at' : Int) :
    Calls Tryd.prog 23 #[.agg cs.toArray, v, .int .i64 at'] w fun e w' => FindE (placeE p ws at') (relR p ws) ws.length at' e ∧ Ext w w' := by
  have hmono : Mono ws.length (relR p ws) := by
    unfold relR
    split
    · exact relP_mono ws p
    · exact Mono.no _
  have HT := Lib.hid hT
  have hre := fun (V : World) (hE : Ext w V) => relate_any (K := K) (hp.ext hE) (fun g hg => Nat.lt_of_lt_of_le (hK g hg) hE.size) (hv.ext hE) (hT.keep hE id)
  obtain ⟨ao, cap, rfl, hlc, hcm, _⟩ := patAt_cells hp
  obtain ⟨bo, bcap, rfl, hbm⟩ := hv.slice
  clear hp hlc hcm hv hT hK
  have HRE := Lib.hid hre
  clear hre
  obtain ⟨z, hz⟩ : ∃ z, relE p ws = z := ⟨_, rfl⟩
  obtain ⟨R, hR⟩ : ∃ R, relR p ws = R := ⟨_, rfl⟩
  rw [hR]
  obtain ⟨n, hN⟩ : ∃ n, ws.length = n := ⟨_, rfl⟩
  have HP : Hid (placeE p ws at' = if z = 0 then exE n at' else z) := Lib.hid (by unfold placeE; rw [hz, hN])
  have hn32 : z = 0 → n ≤ 32 := fun h => by
    subst hz; subst hN
    exact relE_len h
  rw [hz] at HRE
  rw [hR] at HRE hmono
  rw [hN] at HRE hbm hmono ⊢
  have HMO := Lib.hid hmono
  clear hmono
  clear hz hR hN
  have HNL := Lib.hid hn32
  clear hn32
  unfold patCells at HRE ⊢
  have z1 := zero_rel
  have z2 := relArr_size noB
  have z3 := relArr_ne noB
  go_enter Tryd.func23, Tryd.ntmps23
  go_wp2_with fail
  refine (HRE.out _ ((Turn.refl _ w).alloc _)).mono ?_
  rintro e w2 ⟨rfl, hE2⟩
  have hE02 : Ext w w2 := Turn.trans ((Turn.refl _ w).alloc _) hE2
  clear hE2
  have hR0 : (w2.alloc (.cells (relArr noB) 68)).heap[w2.heap.size]? = some (.cells (relArr noB) 68 (0, 0)) := new_at rfl
  have hR3 : RowsAt ((w2.alloc (.cells (relArr noB) 68)).setRow w2.heap.size (rowArr (rowM R))) w2.heap.size (rowM R) := setRow_heap _ _ _ _ _ _ hR0
  have hE3 : Ext w ((w2.alloc (.cells (relArr noB) 68)).setRow w2.heap.size (rowArr (rowM R))) := hE02.trans (((Turn.refl _ w2).alloc _).after (Turn.setRow _ _ _) (fun b' h1 h2 => by omega))
  go_upto_region 2 with (refine wpList_store_row rfl 68 (.tmp 10) (.tmp 17) rfl w2.heap.size (rowArr (rowM R)) rfl rfl _ _ hR0 (Tryd.relInfo _) (by rw [relArr_size, rowArr_size]) (rowArr_one _) ?_)
  generalize ((w2.alloc (.cells (relArr noB) 68)).setRow w2.heap.size (rowArr (rowM R))) = w3 at hR3 hE3 ⊢
  generalize w2.heap.size = b at hR3 ⊢
  clear hR0 hE02 z1 z2 z3
  by_cases hz0 : z = 0
  · have hn := HNL.out hz0
    rw [if_pos hz0] at HP
    subst hz0
    go_wp2_with fail
    refine (exists_any _ _ _ _ _).mono ?_
    rintro e w4 ⟨rfl, rfl⟩
    by_cases hin : at' < 0 ∨ (n : Int) < at'
    · have hex : exE n at' = 3 := by unfold exE; rw [if_pos hin]
      rw [hex] at HP ⊢
      clear hex
      go_wp2
      exact bodyPost_ret (results_four rfl _ _ _) rfl ⟨⟨0, 0, false, by rw [HP.out]; rfl, by rw [HP.out, if_neg (by decide)]; exact ⟨rfl, rfl, rfl⟩⟩, hE3⟩
    · have hex : exE n at' = 0 := by unfold exE; rw [if_neg hin]
      rw [hex] at HP ⊢
      obtain ⟨m, rfl⟩ : ∃ m : Nat, at' = m := ⟨at'.toNat, by omega⟩
      have hmn : m ≤ n := by omega
      clear hex hin
      go_wp2
      go_loopw [12] (fun i wr => ∃ k : Nat, m ≤ k ∧ k ≤ n + 1 ∧ i = .int .i64 k ∧ wr = w4 ∧ Hid (∀ a b, m ≤ a → a < k → R a b = false)) (fun i _ => n + 1 - (intOf i).toNat)
      case atStart => exact ⟨m, Nat.le_refl _, by omega, rfl, rfl, Lib.hid (fun a b h1 h2 => by omega)⟩
      case round =>
        obtain ⟨k, hmk, hk, rfl, rfl, HNO⟩ := hrel
        by_cases hlt : k < n + 1
        · have c0 := hR3.cell (a := k) (by omega)
          have hl := rowM_lt R k
          have h1 : (k : Int) ≤ (n : Int) := by omega
          obtain ⟨r, hr⟩ : ∃ r, rowM R k = r := ⟨_, rfl⟩
          have HR := Lib.hid hr
          rw [hr] at c0 hl
          clear hr
          by_cases hr0 : r = 0
          · have hno : ∀ a b, m ≤ a → a < k + 1 → R a b = false := fun a b h1 h2 => by
              by_cases he : a = k
              · rw [he]; exact row_zero hn HMO.out (HR.out.trans hr0) b
              · exact HNO.out a b h1 (by omega)
            have HNO2 := Lib.hid hno
            clear hno
            subst hr0
            go_wp2
            go_roundw
            case rel => exact ⟨k + 1, by omega, by omega, by go_num, by first | rfl | trivial, HNO2⟩
            case measure => simp [intOf]; omega
          · have h2 : ((r : Int) == 0) = false := by rw [beq_eq_false_iff_ne]; omega
            obtain ⟨q1, q2⟩ := row_top hn HMO.out (a := k) (by rw [HR.out]; exact hr0)
            rw [HR.out] at q1 q2
            have HQ := Lib.hid (And.intro q1 q2)
            have hbl : Lib.bitLen r ≤ 64 := Lib.bitLen_le r 64 (by omega) (by omega)
            have hb1 : 1 ≤ Lib.bitLen r := (Lib.bitLenAux_bounds 64 r (by omega) hr0).1
            clear q1 q2
            go_wp2_with (go_at_call 53; refine (len_any r (by omega) _).mono ?_; rintro e w' ⟨rfl, rfl⟩)
            refine bodyPost_ret (results_four rfl _ _ _) rfl ⟨⟨(k : Int), (Lib.bitLen r : Int) - 1, true, by rw [HP.out]; rfl, ?_⟩, hE3⟩
            rw [HP.out, if_pos rfl]
            exact .inr ⟨rfl, k, Lib.bitLen r - 1, rfl, by omega, by omega, by omega, HQ.out.1, HNO.out, HQ.out.2⟩
        · obtain rfl : k = n + 1 := by omega
          have h1 : ¬ ((n : Int) + 1 ≤ (n : Int)) := by omega
          go_wp2
          refine bodyPost_ret (results_four rfl _ _ _) rfl ⟨⟨0, 0, false, by rw [HP.out]; rfl, ?_⟩, hE3⟩
          rw [HP.out, if_pos rfl]
          exact .inl ⟨rfl, rfl, rfl, fun a b h1 h2 => HNO.out a b h1 (by omega)⟩
  · have hz1 : (z == 0) = false := by rw [beq_eq_false_iff_ne]; exact hz0
    rw [if_neg hz0] at HP
    go_wp2
    exact bodyPost_ret (results_four rfl _ _ _) rfl ⟨⟨0, 0, false, by rw [HP.out]; rfl, by rw [HP.out, if_neg hz0]; exact ⟨rfl, rfl, rfl⟩⟩, hE3⟩
end Go.Proofs.YtapfoaiibjdfnaaDoor

namespace Go.Proofs.YtapfoaiibjdfnaaDoor
open Go.RowKit Go.Ab

def wV : Pat := .node 1 4 0 false 0 0 []
def wC : Pat := .node 1 2 0 false 0 0 []
def wRep (x : Pat) (lo hi : Int) : Pat := .node 5 0 0 false lo hi [x]
def wApa : Wd := [(4, 2), (2, 5), (4, 2)]
def wPpa : Wd := [(2, 5), (2, 5), (4, 2)]
theorem works_1 : placeE wV wApa 0 = 0 ∧ endL wV wApa 0 = [1] := by decide +kernel
theorem works_2 : placeE (wRep wC 0 (-1)) wPpa 0 = 0 ∧ endL (wRep wC 0 (-1)) wPpa 0 = [0, 1, 2] := by decide +kernel
theorem works_3 : placeE (wRep wC 0 (-1)) wPpa 2 = 0 ∧ begL (wRep wC 0 (-1)) wPpa 2 = [0, 1, 2] := by decide +kernel
theorem works_4 : relE (.node 3 0 0 false 0 0 [wC, wV, wC, wV]) [(2, 5), (4, 2), (2, 5), (4, 2)] = 0 ∧ matV (.node 3 0 0 false 0 0 [wC, wV, wC, wV]) [(2, 5), (4, 2), (2, 5), (4, 2)] = true := by decide +kernel
theorem works_5 : placeE (.node 3 0 0 false 0 0 [wV, .node 6 0 0 false 0 0 []]) wApa 0 = 0 := by decide +kernel
theorem works_6 : emptyV (wRep wV 0 1) = true ∧ chkP (.node 1 0 0 false 1 0 []) = 2 := by decide +kernel
theorem works_7 : ∀ a, a < 4 → ∀ b, b < 4 → relR (.node 3 0 0 false 0 0 [wV, .node 6 0 0 false 0 0 []]) wApa a b = (a == 2 && b == 3) := by decide +kernel
theorem works_8 {x y : Int} {ok : Bool} (h : FindIs (relR (.node 3 0 0 false 0 0 [wV, .node 6 0 0 false 0 0 []]) wApa) 3 0 x y ok) : x = 2 ∧ y = 3 ∧ ok = true := by
  rcases h with ⟨_, _, _, h⟩ | ⟨h1, a, b, h2, h3, h4, h5, h6, h7, h8⟩
  · have := h 2 3 (by omega) (by omega)
    rw [works_7 2 (by omega) 3 (by omega)] at this
    simp at this
  · have hm : Mono 3 (relR (.node 3 0 0 false 0 0 [wV, .node 6 0 0 false 0 0 []]) wApa) := by
      unfold relR
      split
      · exact relP_mono wApa _
      · exact Mono.no _
    have hb := (hm a b h6).2
    rw [works_7 a (by omega) b (by omega)] at h6
    simp at h6
    exact ⟨by omega, by omega, h1⟩
end Go.Proofs.YtapfoaiibjdfnaaDoor

namespace Go.Proofs.YtapfoaiibjdfnaaDoor
open Go.RowKit Go.Ab
attribute [local go_sem] Oper.semAt_some wide_fn wide_depth

theorem Tryd.patSize (cs : Array Value) (h : cs.size = 7) : (Tryd.prog.info? 27).map (·.size) = some cs.size := by rw [h]; kernel_rfl
theorem Tryd.sndSize (cs : Array Value) (h : cs.size = 2) : (Tryd.prog.info? 24).map (·.size) = some cs.size := by rw [h]; kernel_rfl
theorem snd_result {fn : Func} {p : Tmp} (h : fn.results = #[.cell p 24]) {tmps : Array Value} {w : World} {g : Nat} {cs : Array Value} (hs : cs.size = 2) (hp : tmps.getD p undef = .pointer (some ⟨g, 0, none⟩)) (hg : w.heap[g]? = some (.cells cs 24 (0, 0))) :
    (results fn tmps).run Tryd.prog w = .ok (.agg cs) w := results_cell_row h tmps w g _ _ _ _ hp hg Tryd.underlying24 rfl (Tryd.sndSize _ hs)
theorem pat_result {fn : Func} {p : Tmp} (h : fn.results = #[.cell p 27]) {tmps : Array Value} {w : World} {g : Nat} {cs : Array Value} (hs : cs.size = 7) (hp : tmps.getD p undef = .pointer (some ⟨g, 0, none⟩)) (hg : w.heap[g]? = some (.cells cs 27 (0, 0))) :
    (results fn tmps).run Tryd.prog w = .ok (.agg cs) w := results_cell_row h tmps w g _ _ _ _ hp hg Tryd.underlying27 rfl (Tryd.patSize _ hs)

theorem p_any (w : World) : Calls Tryd.prog 43 #[] w fun e w' => e = .returned (.agg #[.int .u32 2, .int .u32 5]) ∧ Ext w w' := by
  go_enter Tryd.func43, Tryd.ntmps43
  go_wp2
  exact bodyPost_ret (snd_result rfl rfl rfl (new_at rfl)) rfl ⟨rfl, (Turn.refl _ w).alloc _⟩
theorem a_any (w : World) : Calls Tryd.prog 45 #[] w fun e w' => e = .returned (.agg #[.int .u32 4, .int .u32 2]) ∧ Ext w w' := by
  go_enter Tryd.func45, Tryd.ntmps45
  go_wp2
  exact bodyPost_ret (snd_result rfl rfl rfl (new_at rfl)) rfl ⟨rfl, (Turn.refl _ w).alloc _⟩
theorem v_any (w : World) : Calls Tryd.prog 42 #[] w fun e w' => e = .returned (.agg (patCells 1 4 0 false 0 0 none 0 0).toArray) ∧ Ext w w' := by
  go_enter Tryd.func42, Tryd.ntmps42
  go_wp2
  exact bodyPost_ret (pat_result rfl rfl rfl (new_at rfl)) rfl ⟨rfl, (Turn.refl _ w).alloc _⟩
theorem c_any (w : World) : Calls Tryd.prog 46 #[] w fun e w' => e = .returned (.agg (patCells 1 2 0 false 0 0 none 0 0).toArray) ∧ Ext w w' := by
  go_enter Tryd.func46, Tryd.ntmps46
  go_wp2
  exact bodyPost_ret (pat_result rfl rfl rfl (new_at rfl)) rfl ⟨rfl, (Turn.refl _ w).alloc _⟩
theorem seq_any (ao : Option Addr) (n cap : Nat) (w : World) : Calls Tryd.prog 30 #[.slice ao n cap] w fun e w' => e = .returned (.agg (patCells 3 0 0 false 0 0 ao n cap).toArray) ∧ Ext w w' := by
  go_enter Tryd.func30, Tryd.ntmps30
  go_wp2
  exact bodyPost_ret (pat_result rfl rfl rfl (new_at rfl)) rfl ⟨rfl, (Turn.refl _ w).alloc _⟩

theorem rep_any {K : Nat → Prop} {w : World} {p : Pat} {cs : List Value} (hp : PatAt K w p cs) (lo hi : Int) :
    Calls Tryd.prog 31 #[.agg cs.toArray, .int .i64 lo, .int .i64 hi] w fun e w' => ∃ ds, e = .returned (.agg ds.toArray) ∧ PatAt (fun g => K g ∨ w.heap.size ≤ g) w' (.node 5 0 0 false lo hi [p]) ds ∧ Ext w w' := by
  have hp0 := hp
  obtain ⟨ao, cap, hc, hlc, hcm, _⟩ := patAt_cells hp
  rw [hc] at hp0 ⊢
  clear hc hp
  have HP := Lib.hid hp0
  obtain ⟨N, hN⟩ : ∃ N, p.l.length = N := ⟨_, rfl⟩
  rw [hN] at HP ⊢
  clear hp0 hlc hcm hN
  obtain ⟨k, hk⟩ : ∃ x, p.k = x := ⟨_, rfl⟩
  obtain ⟨pl, hpl⟩ : ∃ x, p.pl = x := ⟨_, rfl⟩
  obtain ⟨mi, hmi⟩ : ∃ x, p.mi = x := ⟨_, rfl⟩
  obtain ⟨nt, hnt⟩ : ∃ x, p.nt = x := ⟨_, rfl⟩
  obtain ⟨mn, hmn⟩ : ∃ x, p.mn = x := ⟨_, rfl⟩
  obtain ⟨mx, hmx⟩ : ∃ x, p.mx = x := ⟨_, rfl⟩
  rw [hk, hpl, hmi, hnt, hmn, hmx] at HP ⊢
  clear hk hpl hmi hnt hmn hmx
  unfold patCells
  go_enter Tryd.func31, Tryd.ntmps31
  go_wp2
  refine bodyPost_ret (pat_result (g := w.heap.size + 1) (cs := (patCells 5 0 0 false lo hi (some ⟨w.heap.size + 2, 0, none⟩) 1 1).toArray) rfl rfl rfl ?_) rfl ⟨patCells 5 0 0 false lo hi (some ⟨w.heap.size + 2, 0, none⟩) 1 1, rfl, ?_, ?_⟩
  · exact new_keep (new_at (by simp))
  · have hE : Ext w _ := (((Turn.refl (fun _ => False) w).alloc (.cells #[.int .i64 k, .int .u32 (pl : Int), .int .u32 (mi : Int), .bool nt, .int .i64 mn, .int .i64 mx, .slice ao N cap] 27)).alloc (.cells (patCells 5 0 0 false lo hi (some ⟨w.heap.size + 2, 0, none⟩) 1 1).toArray 27)).alloc (.cells #[.int .i64 k, .int .u32 (pl : Int), .int .u32 (mi : Int), .bool nt, .int .i64 mn, .int .i64 mx, .slice ao N cap] 27)
    have hp := (HP.out.mono (L := fun g => K g ∨ w.heap.size ≤ g) (fun g h => .inl h)).ext hE
    unfold PatAt
    refine ⟨_, _, rfl, by decide, by decide, by simp, by decide, PatsAt.mk fun j hj => ?_⟩
    obtain rfl : j = 0 := by simpa using hj
    refine ⟨w.heap.size + 2, 0, _, rfl, .inr (by omega), by simp, fun j v hv => ?_, hp⟩
    have := new_cells' (w := ((w.alloc (.cells #[.int .i64 k, .int .u32 (pl : Int), .int .u32 (mi : Int), .bool nt, .int .i64 mn, .int .i64 mx, .slice ao N cap] 27)).alloc (.cells (patCells 5 0 0 false lo hi (some ⟨w.heap.size + 2, 0, none⟩) 1 1).toArray 27))) (n := w.heap.size + 2) (t := 27) (by simp) j v hv
    rw [Addr.add_mid] at this
    have h2 : 0 + (0 + 0) * 7 + j = 0 + j := by omega
    rw [h2]
    exact this
  · exact (((Turn.refl _ w).alloc _).alloc _).alloc _
end Go.Proofs.YtapfoaiibjdfnaaDoor

namespace Go.Proofs.YtapfoaiibjdfnaaDoor
open Go.RowKit Go.Ab
attribute [local go_sem] Oper.semAt_some wide_fn wide_depth

theorem rd_block {w : World} {g n cap sz : Nat} {xs : List Value} {t : TypeId} (h : w.heap[g]? = some (.cells xs.toArray t (0, 0))) (hl : xs.length = n * sz) (hn : n ≤ maxLen) : Rd w (.slice (some ⟨g, 0, none⟩) n cap) n sz xs := by
  refine ⟨hl, hn, _, cap, rfl, fun _ => ⟨g, 0, rfl, (Array.getElem?_eq_some_iff.1 h).1, fun j hj => ?_⟩⟩
  rw [Nat.zero_add]
  have : j < xs.length := by omega
  simp [World.cell?, h, this]
theorem patAt_leaf (K : Nat → Prop) (w : World) (k : Int) {pl mi : Nat} (nt : Bool) (mn mx : Int) (h1 : pl < 4294967296) (h2 : mi < 4294967296) : PatAt K w (.node k pl mi nt mn mx []) (patCells k pl mi nt mn mx none 0 0) := by
  unfold PatAt
  exact ⟨none, 0, rfl, h1, h2, by simp, by simp [maxLen], by unfold PatsAt; trivial⟩
theorem flatten_get : ∀ (css : List (List Value)), (∀ c ∈ css, c.length = 7) → ∀ j i, j < css.length → i < 7 → css.flatten[j * 7 + i]? = (css.getD j [])[i]?
  | [], _, j, i, h, _ => by simp at h
  | c :: css, h7, 0, i, _, hi => by
    have := h7 c (List.mem_cons_self ..)
    rw [List.flatten_cons, List.getElem?_append_left (by omega)]
    simp
  | c :: css, h7, j + 1, i, hj, hi => by
    have h1 := h7 c (List.mem_cons_self ..)
    rw [List.flatten_cons, List.getElem?_append_right (by omega), show (j + 1) * 7 + i - c.length = j * 7 + i by omega, flatten_get css (fun x hx => h7 x (List.mem_cons_of_mem _ hx)) j i (by simpa using hj) hi]
    simp
/-- Patterns in a block of their own. -/
theorem PatsAt.block {K : Nat → Prop} {w : World} {g : Nat} {t : TypeId} {l : List Pat} {css : List (List Value)} (h : w.heap[g]? = some (.cells css.flatten.toArray t (0, 0))) (hl : css.length = l.length) (h7 : ∀ c ∈ css, c.length = 7)
    (hp : ∀ j (hj : j < l.length), PatAt K w l[j] (css.getD j [])) (hK : K g) : PatsAt K w l (some ⟨g, 0, none⟩) 0 := by
  refine PatsAt.mk fun j hj => ⟨g, 0, css.getD j [], rfl, hK, (Array.getElem?_eq_some_iff.1 h).1, fun i v hv => ?_, hp j hj⟩
  have hc : (css.getD j []).length = 7 := by
    rw [List.getD_eq_getElem?_getD, List.getElem?_eq_getElem (by omega)]
    exact h7 _ (List.getElem_mem _)
  have hi : i < 7 := by rw [← hc]; exact (List.getElem?_eq_some_iff.1 hv).1
  have := flatten_get css h7 j i (by omega) hi
  rw [hv] at this
  rw [show 0 + (0 + j) * 7 + i = j * 7 + i by omega]
  simp only [World.cell?, h]
  simpa using this

def InHeap (W : World) (g : Nat) : Prop := g < W.heap.size
theorem InHeap.ext {A B : World} {g : Nat} (h : InHeap A g) (ht : Ext A B) : InHeap B g := Nat.lt_of_lt_of_le h ht.size
theorem seq_any' (ao : Option Addr) (n cap : Nat) (w : World) : Calls Tryd.prog 30 #[.slice ao n cap] w fun e w' => e = .returned (.agg #[.int .i64 3, .int .u32 0, .int .u32 0, .bool false, .int .i64 0, .int .i64 0, .slice ao n cap]) ∧ Ext w w' := seq_any ao n cap w
theorem v_any' (w : World) : Calls Tryd.prog 42 #[] w fun e w' => e = .returned (.agg #[.int .i64 1, .int .u32 4, .int .u32 0, .bool false, .int .i64 0, .int .i64 0, .slice none 0 0]) ∧ Ext w w' := v_any w
theorem c_any' (w : World) : Calls Tryd.prog 46 #[] w fun e w' => e = .returned (.agg #[.int .i64 1, .int .u32 2, .int .u32 0, .bool false, .int .i64 0, .int .i64 0, .slice none 0 0]) ∧ Ext w w' := c_any w
mutual
theorem PatAt.bound {K : Nat → Prop} {A : World} : ∀ {p : Pat} {cs : List Value}, PatAt K A p cs → PatAt (fun g => g < A.heap.size) A p cs
  | .node k pl mi nt mn mx l, cs, h => by
    unfold PatAt at h ⊢
    obtain ⟨ao, cap, h1, h2, h3, h4, h5, h6⟩ := h
    exact ⟨ao, cap, h1, h2, h3, h4, h5, PatsAt.bound h6⟩
theorem PatsAt.bound {K : Nat → Prop} {A : World} : ∀ {l : List Pat} {ao : Option Addr} {i : Nat}, PatsAt K A l ao i → PatsAt (fun g => g < A.heap.size) A l ao i
  | [], _, _, _ => by unfold PatsAt; trivial
  | p :: l, ao, i, h => by
    unfold PatsAt at h ⊢
    obtain ⟨⟨g, off, cs, h1, h2, h3, h4, h5⟩, h6⟩ := h
    exact ⟨⟨g, off, cs, h1, h3, h3, h4, PatAt.bound h5⟩, PatsAt.bound h6⟩
end

set_option maxRecDepth 100000 in
set_option maxHeartbeats 8000000 in
theorem works_any (w : World) (hT : Tab w) :
    Calls Tryd.prog 14 #[] w fun e w' => e = .returned (.bool true) ∧ Ext w w' := by
  have E : Ext w w := Turn.refl _ w
  go_enter Tryd.func14, Tryd.ntmps14
  go_wp2_with fail
  refine (a_any _).mono ?_
  rintro e w1 ⟨rfl, hN⟩
  replace E := E.trans hN
  clear hN
  go_wp2_with fail
  refine (p_any _).mono ?_
  rintro e w2 ⟨rfl, hN⟩
  replace E := E.trans hN
  clear hN
  go_wp2_with fail
  refine (a_any _).mono ?_
  rintro e w3 ⟨rfl, hN⟩
  replace E := E.trans hN
  clear hN
  go_wp2_with fail
  have hA : (w3.alloc (.cells #[.int .u32 4, .int .u32 2, .int .u32 2, .int .u32 5, .int .u32 4, .int .u32 2] 24)).heap[w3.heap.size]? = some (.cells #[.int .u32 4, .int .u32 2, .int .u32 2, .int .u32 5, .int .u32 4, .int .u32 2] 24 (0, 0)) := new_at rfl
  have hN : Ext w3 (w3.alloc (.cells #[.int .u32 4, .int .u32 2, .int .u32 2, .int .u32 5, .int .u32 4, .int .u32 2] 24)) := (Turn.refl _ w3).alloc _
  have hB : w3.heap.size < (w3.alloc (.cells #[.int .u32 4, .int .u32 2, .int .u32 2, .int .u32 5, .int .u32 4, .int .u32 2] 24)).heap.size := by simp
  replace E := E.trans hN
  clear hN
  generalize w3.alloc (.cells #[.int .u32 4, .int .u32 2, .int .u32 2, .int .u32 5, .int .u32 4, .int .u32 2] 24) = w4 at hA hB E  ⊢
  generalize w3.heap.size = gA at hA hB ⊢
  have WA : WordAt w4 (.slice (some ⟨gA, 0, none⟩) 3 3) [(4, 2), (2, 5), (4, 2)] := ⟨rd_block (xs := sndL [(4, 2), (2, 5), (4, 2)]) hA rfl (by decide), by simp [WdOk]⟩
  clear hA hB
  go_wp2_with fail
  refine (p_any _).mono ?_
  rintro e w5 ⟨rfl, hN⟩
  replace WA := WA.ext hN
  replace E := E.trans hN
  clear hN
  go_wp2_with fail
  refine (p_any _).mono ?_
  rintro e w6 ⟨rfl, hN⟩
  replace WA := WA.ext hN
  replace E := E.trans hN
  clear hN
  go_wp2_with fail
  refine (a_any _).mono ?_
  rintro e w7 ⟨rfl, hN⟩
  replace WA := WA.ext hN
  replace E := E.trans hN
  clear hN
  go_wp2_with fail
  have hA : (w7.alloc (.cells #[.int .u32 2, .int .u32 5, .int .u32 2, .int .u32 5, .int .u32 4, .int .u32 2] 24)).heap[w7.heap.size]? = some (.cells #[.int .u32 2, .int .u32 5, .int .u32 2, .int .u32 5, .int .u32 4, .int .u32 2] 24 (0, 0)) := new_at rfl
  have hN : Ext w7 (w7.alloc (.cells #[.int .u32 2, .int .u32 5, .int .u32 2, .int .u32 5, .int .u32 4, .int .u32 2] 24)) := (Turn.refl _ w7).alloc _
  have hB : w7.heap.size < (w7.alloc (.cells #[.int .u32 2, .int .u32 5, .int .u32 2, .int .u32 5, .int .u32 4, .int .u32 2] 24)).heap.size := by simp
  replace WA := WA.ext hN
  replace E := E.trans hN
  clear hN
  generalize w7.alloc (.cells #[.int .u32 2, .int .u32 5, .int .u32 2, .int .u32 5, .int .u32 4, .int .u32 2] 24) = w8 at hA hB E WA ⊢
  generalize w7.heap.size = gP at hA hB ⊢
  have WP : WordAt w8 (.slice (some ⟨gP, 0, none⟩) 3 3) [(2, 5), (2, 5), (4, 2)] := ⟨rd_block (xs := sndL [(2, 5), (2, 5), (4, 2)]) hA rfl (by decide), by simp [WdOk]⟩
  clear hA hB
  go_wp2_with fail
  refine (v_any' _).mono ?_
  rintro e w9 ⟨rfl, hN⟩
  replace WA := WA.ext hN
  replace WP := WP.ext hN
  replace E := E.trans hN
  clear hN
  go_wp2_with fail
  have hc := ends_any (K := fun _ => False) (patAt_leaf (fun _ => False) _ 1 false 0 0 (show 4 < 4294967296 by decide) (show 0 < 4294967296 by decide)) (fun _ h => h.elim) WA (hT.keep E id) 0
  have q := works_1
  simp only [wV, wApa] at q
  rw [q.1, q.2] at hc
  clear q
  refine hc.mono ?_
  clear hc
  rintro e w10 ⟨xX, rfl, hO, hN⟩
  replace WA := WA.ext hN
  replace WP := WP.ext hN
  replace E := E.trans hN
  have X := Rd.of_own hO
  obtain ⟨aX, cX, rfl⟩ := own_slice hO
  clear hO
  clear hN
  go_wp2_with fail
  refine (c_any' _).mono ?_
  rintro e w11 ⟨rfl, hN⟩
  replace WA := WA.ext hN
  replace WP := WP.ext hN
  replace X := X.ext hN
  replace E := E.trans hN
  clear hN
  go_wp2_with fail
  refine (rep_any (patAt_leaf (fun _ => False) _ 1 false 0 0 (show 2 < 4294967296 by decide) (show 0 < 4294967296 by decide)) 0 (-1)).mono ?_
  rintro e w12 ⟨ds, rfl, hP, hN⟩
  replace WA := WA.ext hN
  replace WP := WP.ext hN
  replace X := X.ext hN
  replace E := E.trans hN
  replace hP := PatAt.bound (p := .node 5 0 0 false 0 (-1) [.node 1 2 0 false 0 0 []]) hP
  clear hN
  go_wp2_with fail
  have hc := ends_any (K := fun g => g < w12.heap.size) (p := .node 5 0 0 false 0 (-1) [.node 1 2 0 false 0 0 []]) hP (fun _ h => h) WP (hT.keep E id) 0
  have q := works_2
  simp only [wC, wRep, wPpa] at q
  rw [q.1, q.2] at hc
  clear q
  refine hc.mono ?_
  clear hc
  rintro e w13 ⟨xY, rfl, hO, hN⟩
  replace WA := WA.ext hN
  replace WP := WP.ext hN
  replace X := X.ext hN
  replace E := E.trans hN
  have Y := Rd.of_own hO
  obtain ⟨aY, cY, rfl⟩ := own_slice hO
  clear hO
  clear hN
  clear hP
  go_wp2_with fail
  refine (c_any' _).mono ?_
  rintro e w14 ⟨rfl, hN⟩
  replace WA := WA.ext hN
  replace WP := WP.ext hN
  replace X := X.ext hN
  replace Y := Y.ext hN
  replace E := E.trans hN
  clear hN
  go_wp2_with fail
  refine (rep_any (patAt_leaf (fun _ => False) _ 1 false 0 0 (show 2 < 4294967296 by decide) (show 0 < 4294967296 by decide)) 0 (-1)).mono ?_
  rintro e w15 ⟨ds, rfl, hP, hN⟩
  replace WA := WA.ext hN
  replace WP := WP.ext hN
  replace X := X.ext hN
  replace Y := Y.ext hN
  replace E := E.trans hN
  replace hP := PatAt.bound (p := .node 5 0 0 false 0 (-1) [.node 1 2 0 false 0 0 []]) hP
  clear hN
  go_wp2_with fail
  have hc := begins_any (K := fun g => g < w15.heap.size) (p := .node 5 0 0 false 0 (-1) [.node 1 2 0 false 0 0 []]) hP (fun _ h => h) WP (hT.keep E id) 2
  have q := works_3
  simp only [wC, wRep, wPpa] at q
  rw [q.1, q.2] at hc
  clear q
  refine hc.mono ?_
  clear hc
  rintro e w16 ⟨xZ, rfl, hO, hN⟩
  replace WA := WA.ext hN
  replace WP := WP.ext hN
  replace X := X.ext hN
  replace Y := Y.ext hN
  replace E := E.trans hN
  have Z := Rd.of_own hO
  obtain ⟨aZ, cZ, rfl⟩ := own_slice hO
  clear hO
  clear hN
  clear hP
  go_wp2_with fail
  refine (c_any' _).mono ?_
  rintro e w17 ⟨rfl, hN⟩
  replace WA := WA.ext hN
  replace WP := WP.ext hN
  replace X := X.ext hN
  replace Y := Y.ext hN
  replace Z := Z.ext hN
  replace E := E.trans hN
  clear hN
  go_wp2_with fail
  refine (v_any' _).mono ?_
  rintro e w18 ⟨rfl, hN⟩
  replace WA := WA.ext hN
  replace WP := WP.ext hN
  replace X := X.ext hN
  replace Y := Y.ext hN
  replace Z := Z.ext hN
  replace E := E.trans hN
  clear hN
  go_wp2_with fail
  refine (c_any' _).mono ?_
  rintro e w19 ⟨rfl, hN⟩
  replace WA := WA.ext hN
  replace WP := WP.ext hN
  replace X := X.ext hN
  replace Y := Y.ext hN
  replace Z := Z.ext hN
  replace E := E.trans hN
  clear hN
  go_wp2_with fail
  refine (v_any' _).mono ?_
  rintro e w20 ⟨rfl, hN⟩
  replace WA := WA.ext hN
  replace WP := WP.ext hN
  replace X := X.ext hN
  replace Y := Y.ext hN
  replace Z := Z.ext hN
  replace E := E.trans hN
  clear hN
  go_wp2_with fail
  have hA : (w20.alloc (.cells #[.int .i64 1, .int .u32 2, .int .u32 0, .bool false, .int .i64 0, .int .i64 0, .slice none 0 0, .int .i64 1, .int .u32 4, .int .u32 0, .bool false, .int .i64 0, .int .i64 0, .slice none 0 0, .int .i64 1, .int .u32 2, .int .u32 0, .bool false, .int .i64 0, .int .i64 0, .slice none 0 0, .int .i64 1, .int .u32 4, .int .u32 0, .bool false, .int .i64 0, .int .i64 0, .slice none 0 0] 27)).heap[w20.heap.size]? = some (.cells #[.int .i64 1, .int .u32 2, .int .u32 0, .bool false, .int .i64 0, .int .i64 0, .slice none 0 0, .int .i64 1, .int .u32 4, .int .u32 0, .bool false, .int .i64 0, .int .i64 0, .slice none 0 0, .int .i64 1, .int .u32 2, .int .u32 0, .bool false, .int .i64 0, .int .i64 0, .slice none 0 0, .int .i64 1, .int .u32 4, .int .u32 0, .bool false, .int .i64 0, .int .i64 0, .slice none 0 0] 27 (0, 0)) := new_at rfl
  have hN : Ext w20 (w20.alloc (.cells #[.int .i64 1, .int .u32 2, .int .u32 0, .bool false, .int .i64 0, .int .i64 0, .slice none 0 0, .int .i64 1, .int .u32 4, .int .u32 0, .bool false, .int .i64 0, .int .i64 0, .slice none 0 0, .int .i64 1, .int .u32 2, .int .u32 0, .bool false, .int .i64 0, .int .i64 0, .slice none 0 0, .int .i64 1, .int .u32 4, .int .u32 0, .bool false, .int .i64 0, .int .i64 0, .slice none 0 0] 27)) := (Turn.refl _ w20).alloc _
  have hB : w20.heap.size < (w20.alloc (.cells #[.int .i64 1, .int .u32 2, .int .u32 0, .bool false, .int .i64 0, .int .i64 0, .slice none 0 0, .int .i64 1, .int .u32 4, .int .u32 0, .bool false, .int .i64 0, .int .i64 0, .slice none 0 0, .int .i64 1, .int .u32 2, .int .u32 0, .bool false, .int .i64 0, .int .i64 0, .slice none 0 0, .int .i64 1, .int .u32 4, .int .u32 0, .bool false, .int .i64 0, .int .i64 0, .slice none 0 0] 27)).heap.size := by simp
  replace WA := WA.ext hN
  replace WP := WP.ext hN
  replace X := X.ext hN
  replace Y := Y.ext hN
  replace Z := Z.ext hN
  replace E := E.trans hN
  clear hN
  generalize w20.alloc (.cells #[.int .i64 1, .int .u32 2, .int .u32 0, .bool false, .int .i64 0, .int .i64 0, .slice none 0 0, .int .i64 1, .int .u32 4, .int .u32 0, .bool false, .int .i64 0, .int .i64 0, .slice none 0 0, .int .i64 1, .int .u32 2, .int .u32 0, .bool false, .int .i64 0, .int .i64 0, .slice none 0 0, .int .i64 1, .int .u32 4, .int .u32 0, .bool false, .int .i64 0, .int .i64 0, .slice none 0 0] 27) = w21 at hA hB E WA WP X Y Z ⊢
  generalize w20.heap.size = gS at hA hB ⊢
  have PS : PatsAt (fun x => x = gS) w21 [(.node 1 2 0 false 0 0 []), (.node 1 4 0 false 0 0 []), (.node 1 2 0 false 0 0 []), (.node 1 4 0 false 0 0 [])] (some ⟨gS, 0, none⟩) 0 := PatsAt.block (css := [[.int .i64 1, .int .u32 2, .int .u32 0, .bool false, .int .i64 0, .int .i64 0, .slice none 0 0], [.int .i64 1, .int .u32 4, .int .u32 0, .bool false, .int .i64 0, .int .i64 0, .slice none 0 0], [.int .i64 1, .int .u32 2, .int .u32 0, .bool false, .int .i64 0, .int .i64 0, .slice none 0 0], [.int .i64 1, .int .u32 4, .int .u32 0, .bool false, .int .i64 0, .int .i64 0, .slice none 0 0]]) hA rfl (by simp) (fun j hj => by match j, hj with | 0, _ => exact patAt_leaf _ _ 1 false 0 0 (by decide) (by decide) | 1, _ => exact patAt_leaf _ _ 1 false 0 0 (by decide) (by decide) | 2, _ => exact patAt_leaf _ _ 1 false 0 0 (by decide) (by decide) | 3, _ => exact patAt_leaf _ _ 1 false 0 0 (by decide) (by decide)) rfl
  clear hA
  have PSB : InHeap w21 gS := hB
  clear hB
  go_wp2_with fail
  refine (seq_any' (some ⟨gS, 0, none⟩) 4 4 _).mono ?_
  rintro e w22 ⟨rfl, hN⟩
  replace WA := WA.ext hN
  replace WP := WP.ext hN
  replace X := X.ext hN
  replace Y := Y.ext hN
  replace Z := Z.ext hN
  replace PS := PS.ext hN
  replace PSB := PSB.ext hN
  replace E := E.trans hN
  clear hN
  go_wp2_with fail
  refine (p_any _).mono ?_
  rintro e w23 ⟨rfl, hN⟩
  replace WA := WA.ext hN
  replace WP := WP.ext hN
  replace X := X.ext hN
  replace Y := Y.ext hN
  replace Z := Z.ext hN
  replace PS := PS.ext hN
  replace PSB := PSB.ext hN
  replace E := E.trans hN
  clear hN
  go_wp2_with fail
  refine (a_any _).mono ?_
  rintro e w24 ⟨rfl, hN⟩
  replace WA := WA.ext hN
  replace WP := WP.ext hN
  replace X := X.ext hN
  replace Y := Y.ext hN
  replace Z := Z.ext hN
  replace PS := PS.ext hN
  replace PSB := PSB.ext hN
  replace E := E.trans hN
  clear hN
  go_wp2_with fail
  refine (p_any _).mono ?_
  rintro e w25 ⟨rfl, hN⟩
  replace WA := WA.ext hN
  replace WP := WP.ext hN
  replace X := X.ext hN
  replace Y := Y.ext hN
  replace Z := Z.ext hN
  replace PS := PS.ext hN
  replace PSB := PSB.ext hN
  replace E := E.trans hN
  clear hN
  go_wp2_with fail
  refine (a_any _).mono ?_
  rintro e w26 ⟨rfl, hN⟩
  replace WA := WA.ext hN
  replace WP := WP.ext hN
  replace X := X.ext hN
  replace Y := Y.ext hN
  replace Z := Z.ext hN
  replace PS := PS.ext hN
  replace PSB := PSB.ext hN
  replace E := E.trans hN
  clear hN
  go_wp2_with fail
  have hA : (w26.alloc (.cells #[.int .u32 2, .int .u32 5, .int .u32 4, .int .u32 2, .int .u32 2, .int .u32 5, .int .u32 4, .int .u32 2] 24)).heap[w26.heap.size]? = some (.cells #[.int .u32 2, .int .u32 5, .int .u32 4, .int .u32 2, .int .u32 2, .int .u32 5, .int .u32 4, .int .u32 2] 24 (0, 0)) := new_at rfl
  have hN : Ext w26 (w26.alloc (.cells #[.int .u32 2, .int .u32 5, .int .u32 4, .int .u32 2, .int .u32 2, .int .u32 5, .int .u32 4, .int .u32 2] 24)) := (Turn.refl _ w26).alloc _
  have hB : w26.heap.size < (w26.alloc (.cells #[.int .u32 2, .int .u32 5, .int .u32 4, .int .u32 2, .int .u32 2, .int .u32 5, .int .u32 4, .int .u32 2] 24)).heap.size := by simp
  replace WA := WA.ext hN
  replace WP := WP.ext hN
  replace X := X.ext hN
  replace Y := Y.ext hN
  replace Z := Z.ext hN
  replace PS := PS.ext hN
  replace PSB := PSB.ext hN
  replace E := E.trans hN
  clear hN
  generalize w26.alloc (.cells #[.int .u32 2, .int .u32 5, .int .u32 4, .int .u32 2, .int .u32 2, .int .u32 5, .int .u32 4, .int .u32 2] 24) = w27 at hA hB E WA WP X Y Z PS PSB ⊢
  generalize w26.heap.size = gQ at hA hB ⊢
  have WQ : WordAt w27 (.slice (some ⟨gQ, 0, none⟩) 4 4) [(2, 5), (4, 2), (2, 5), (4, 2)] := ⟨rd_block (xs := sndL [(2, 5), (4, 2), (2, 5), (4, 2)]) hA rfl (by decide), by simp [WdOk]⟩
  clear hA hB
  have hP : PatAt (fun x => x = gS) w27 (.node 3 0 0 false 0 0 [(.node 1 2 0 false 0 0 []), (.node 1 4 0 false 0 0 []), (.node 1 2 0 false 0 0 []), (.node 1 4 0 false 0 0 [])]) (patCells 3 0 0 false 0 0 (some ⟨gS, 0, none⟩) 4 4) := by
    unfold PatAt
    exact ⟨_, _, rfl, by decide, by decide, by decide, by decide, PS⟩
  go_wp2_with fail
  have hc := matches_any hP (fun x h => h ▸ PSB) WQ (hT.keep E id)
  have q := works_4
  simp only [wV, wC] at q
  rw [q.1, q.2] at hc
  clear q
  refine hc.mono ?_
  clear hc
  rintro e w28 ⟨rfl, hN⟩
  replace WA := WA.ext hN
  replace WP := WP.ext hN
  replace X := X.ext hN
  replace Y := Y.ext hN
  replace Z := Z.ext hN
  replace PS := PS.ext hN
  replace PSB := PSB.ext hN
  replace WQ := WQ.ext hN
  replace E := E.trans hN
  clear hP
  clear hN
  clear PS PSB WQ
  go_wp2_with fail
  refine (v_any' _).mono ?_
  rintro e w29 ⟨rfl, hN⟩
  replace WA := WA.ext hN
  replace WP := WP.ext hN
  replace X := X.ext hN
  replace Y := Y.ext hN
  replace Z := Z.ext hN
  replace E := E.trans hN
  clear hN
  go_wp2_with fail
  have hA : (w29.alloc (.cells #[.int .i64 1, .int .u32 4, .int .u32 0, .bool false, .int .i64 0, .int .i64 0, .slice none 0 0, .int .i64 6, .int .u32 0, .int .u32 0, .bool false, .int .i64 0, .int .i64 0, .slice none 0 0] 27)).heap[w29.heap.size]? = some (.cells #[.int .i64 1, .int .u32 4, .int .u32 0, .bool false, .int .i64 0, .int .i64 0, .slice none 0 0, .int .i64 6, .int .u32 0, .int .u32 0, .bool false, .int .i64 0, .int .i64 0, .slice none 0 0] 27 (0, 0)) := new_at rfl
  have hN : Ext w29 (w29.alloc (.cells #[.int .i64 1, .int .u32 4, .int .u32 0, .bool false, .int .i64 0, .int .i64 0, .slice none 0 0, .int .i64 6, .int .u32 0, .int .u32 0, .bool false, .int .i64 0, .int .i64 0, .slice none 0 0] 27)) := (Turn.refl _ w29).alloc _
  have hB : w29.heap.size < (w29.alloc (.cells #[.int .i64 1, .int .u32 4, .int .u32 0, .bool false, .int .i64 0, .int .i64 0, .slice none 0 0, .int .i64 6, .int .u32 0, .int .u32 0, .bool false, .int .i64 0, .int .i64 0, .slice none 0 0] 27)).heap.size := by simp
  replace WA := WA.ext hN
  replace WP := WP.ext hN
  replace X := X.ext hN
  replace Y := Y.ext hN
  replace Z := Z.ext hN
  replace E := E.trans hN
  clear hN
  generalize w29.alloc (.cells #[.int .i64 1, .int .u32 4, .int .u32 0, .bool false, .int .i64 0, .int .i64 0, .slice none 0 0, .int .i64 6, .int .u32 0, .int .u32 0, .bool false, .int .i64 0, .int .i64 0, .slice none 0 0] 27) = w30 at hA hB E WA WP X Y Z ⊢
  generalize w29.heap.size = gF at hA hB ⊢
  have PF : PatsAt (fun x => x = gF) w30 [(.node 1 4 0 false 0 0 []), (.node 6 0 0 false 0 0 [])] (some ⟨gF, 0, none⟩) 0 := PatsAt.block (css := [[.int .i64 1, .int .u32 4, .int .u32 0, .bool false, .int .i64 0, .int .i64 0, .slice none 0 0], [.int .i64 6, .int .u32 0, .int .u32 0, .bool false, .int .i64 0, .int .i64 0, .slice none 0 0]]) hA rfl (by simp) (fun j hj => by match j, hj with | 0, _ => exact patAt_leaf _ _ 1 false 0 0 (by decide) (by decide) | 1, _ => exact patAt_leaf _ _ 6 false 0 0 (by decide) (by decide)) rfl
  clear hA
  have PFB : InHeap w30 gF := hB
  clear hB
  go_wp2_with fail
  refine (seq_any' (some ⟨gF, 0, none⟩) 2 2 _).mono ?_
  rintro e w31 ⟨rfl, hN⟩
  replace WA := WA.ext hN
  replace WP := WP.ext hN
  replace X := X.ext hN
  replace Y := Y.ext hN
  replace Z := Z.ext hN
  replace PF := PF.ext hN
  replace PFB := PFB.ext hN
  replace E := E.trans hN
  clear hN
  have hP : PatAt (fun x => x = gF) w31 (.node 3 0 0 false 0 0 [(.node 1 4 0 false 0 0 []), (.node 6 0 0 false 0 0 [])]) (patCells 3 0 0 false 0 0 (some ⟨gF, 0, none⟩) 2 2) := by
    unfold PatAt
    exact ⟨_, _, rfl, by decide, by decide, by decide, by decide, PF⟩
  go_wp2_with fail
  have hc := find_any hP (fun x h => h ▸ PFB) WA (hT.keep E id) 0
  have q := works_5
  simp only [wV, wApa] at q
  rw [q] at hc
  clear q
  refine hc.mono ?_
  clear hc
  rintro e w32 ⟨hF, hN⟩
  replace WA := WA.ext hN
  replace WP := WP.ext hN
  replace X := X.ext hN
  replace Y := Y.ext hN
  replace Z := Z.ext hN
  replace PF := PF.ext hN
  replace PFB := PFB.ext hN
  replace E := E.trans hN
  clear hP
  obtain ⟨x, y, ok, rfl, hf⟩ := hF
  rw [if_pos rfl] at hf
  obtain ⟨rfl, rfl, rfl⟩ := works_8 hf
  clear hf
  clear hN
  clear PF PFB WA WP
  go_wp2_with fail
  have hA : (w32.alloc (.cells #[.int .i64 1] 3)).heap[w32.heap.size]? = some (.cells #[.int .i64 1] 3 (0, 0)) := new_at rfl
  have hN : Ext w32 (w32.alloc (.cells #[.int .i64 1] 3)) := (Turn.refl _ w32).alloc _
  have hB : w32.heap.size < (w32.alloc (.cells #[.int .i64 1] 3)).heap.size := by simp
  replace X := X.ext hN
  replace Y := Y.ext hN
  replace Z := Z.ext hN
  replace E := E.trans hN
  clear hN
  generalize w32.alloc (.cells #[.int .i64 1] 3) = w33 at hA hB E X Y Z ⊢
  generalize w32.heap.size = g1 at hA hB ⊢
  have R1 : Rd w33 (.slice (some ⟨g1, 0, none⟩) 1 1) [1].length 1 (natV [1]) := rd_block (xs := natV [1]) hA rfl (by decide)
  clear hA hB
  have hc := places_any X R1
  rw [decide_eq_true rfl] at hc
  refine hc.mono ?_
  clear hc
  rintro e w34 ⟨rfl, hN⟩
  clear R1
  replace X := X.ext hN
  replace Y := Y.ext hN
  replace Z := Z.ext hN
  replace E := E.trans hN
  clear hN
  go_wp2_with fail
  have hA : (w34.alloc (.cells #[.int .i64 0, .int .i64 1, .int .i64 2] 3)).heap[w34.heap.size]? = some (.cells #[.int .i64 0, .int .i64 1, .int .i64 2] 3 (0, 0)) := new_at rfl
  have hN : Ext w34 (w34.alloc (.cells #[.int .i64 0, .int .i64 1, .int .i64 2] 3)) := (Turn.refl _ w34).alloc _
  have hB : w34.heap.size < (w34.alloc (.cells #[.int .i64 0, .int .i64 1, .int .i64 2] 3)).heap.size := by simp
  replace X := X.ext hN
  replace Y := Y.ext hN
  replace Z := Z.ext hN
  replace E := E.trans hN
  clear hN
  generalize w34.alloc (.cells #[.int .i64 0, .int .i64 1, .int .i64 2] 3) = w35 at hA hB E X Y Z ⊢
  generalize w34.heap.size = g2 at hA hB ⊢
  have R1 : Rd w35 (.slice (some ⟨g2, 0, none⟩) 3 3) [0, 1, 2].length 1 (natV [0, 1, 2]) := rd_block (xs := natV [0, 1, 2]) hA rfl (by decide)
  clear hA hB
  have hc := places_any Y R1
  rw [decide_eq_true rfl] at hc
  refine hc.mono ?_
  clear hc
  rintro e w36 ⟨rfl, hN⟩
  clear R1
  replace X := X.ext hN
  replace Y := Y.ext hN
  replace Z := Z.ext hN
  replace E := E.trans hN
  clear hN
  go_wp2_with fail
  have hA : (w36.alloc (.cells #[.int .i64 0, .int .i64 1, .int .i64 2] 3)).heap[w36.heap.size]? = some (.cells #[.int .i64 0, .int .i64 1, .int .i64 2] 3 (0, 0)) := new_at rfl
  have hN : Ext w36 (w36.alloc (.cells #[.int .i64 0, .int .i64 1, .int .i64 2] 3)) := (Turn.refl _ w36).alloc _
  have hB : w36.heap.size < (w36.alloc (.cells #[.int .i64 0, .int .i64 1, .int .i64 2] 3)).heap.size := by simp
  replace X := X.ext hN
  replace Y := Y.ext hN
  replace Z := Z.ext hN
  replace E := E.trans hN
  clear hN
  generalize w36.alloc (.cells #[.int .i64 0, .int .i64 1, .int .i64 2] 3) = w37 at hA hB E X Y Z ⊢
  generalize w36.heap.size = g3 at hA hB ⊢
  have R1 : Rd w37 (.slice (some ⟨g3, 0, none⟩) 3 3) [0, 1, 2].length 1 (natV [0, 1, 2]) := rd_block (xs := natV [0, 1, 2]) hA rfl (by decide)
  clear hA hB
  have hc := places_any Z R1
  rw [decide_eq_true rfl] at hc
  refine hc.mono ?_
  clear hc
  rintro e w38 ⟨rfl, hN⟩
  clear R1
  replace X := X.ext hN
  replace Y := Y.ext hN
  replace Z := Z.ext hN
  replace E := E.trans hN
  clear hN
  clear X Y Z
  go_wp2_with fail
  refine (v_any' _).mono ?_
  rintro e w39 ⟨rfl, hN⟩
  replace E := E.trans hN
  clear hN
  go_wp2_with fail
  refine (rep_any (patAt_leaf (fun _ => False) _ 1 false 0 0 (show 4 < 4294967296 by decide) (show 0 < 4294967296 by decide)) 0 1).mono ?_
  rintro e w40 ⟨ds, rfl, hP, hN⟩
  replace E := E.trans hN
  replace hP := PatAt.bound (p := .node 5 0 0 false 0 1 [(.node 1 4 0 false 0 0 [])]) hP
  clear hN
  go_wp2_with fail
  have hc := isempty_any (K := fun g => g < w40.heap.size) (p := .node 5 0 0 false 0 1 [(.node 1 4 0 false 0 0 [])]) hP (fun _ h => h) (hT.keep E id)
  have q := works_6.1
  simp only [wV, wRep] at q
  rw [q] at hc
  clear q
  refine hc.mono ?_
  clear hc
  rintro e w41 ⟨rfl, hN⟩
  replace E := E.trans hN
  clear hP
  clear hN
  go_wp2_with fail
  have hc := check_any (patAt_leaf (fun _ => False) _ 1 false 1 0 (show 0 < 4294967296 by decide) (show 0 < 4294967296 by decide)) (fun _ h => h.elim) (hT.keep E id)
  have q := works_6.2
  rw [q] at hc
  clear q
  refine hc.mono ?_
  clear hc
  rintro e w42 ⟨rfl, hN⟩
  replace E := E.trans hN
  clear hN
  go_wp2
  go_ret
  exact ⟨rfl, E⟩
end Go.Proofs.YtapfoaiibjdfnaaDoor
