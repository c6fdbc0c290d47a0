/- Rows of bools, as ablautlaw06.ends makes them. No program is named. ablautlaw06.ends: the table of the ends. What pats answers for a valid pattern and a valid word; the cells of a table of bools. What the laws' arguments read as: slices of integers, slices of pairs of integers, a pair. No program is named. What the laws' arguments read as: sounds, words, patterns. -/
import Derived.Test.YtapfoaiibjdfnaaDoorMc
import Derived.Test.YtapfoaiibjdfnaaDoorMa
import Derived.Test.YtapfoaiibjdfnaaDoorMd
import Derived.Test.YtapfoaiibjdfnaaDoorMf
import Derived.OpenShut
import Derived.Deep.Slices
import Derived.ProofKit
import Derived.Test.YtapfoaiibjdfnaaDoorProg
import Derived.ChangeSame
import Derived.Deep.Fields
namespace Go.Ab
open Go.RowKit

/-- n bools. -/
def boolV (n : Nat) (f : Nat → Bool) : List Value := (List.range n).map fun k => Value.bool (f k)
theorem boolV_length (n : Nat) (f : Nat → Bool) : (boolV n f).length = n := by simp [boolV]
theorem boolV_get {n k : Nat} (f : Nat → Bool) (h : k < n) : (boolV n f)[k]? = some (.bool (f k)) := by simp [boolV, h]
theorem boolV_set (n : Nat) (f : Nat → Bool) (k : Nat) : (boolV n f).set k (.bool true) = boolV n (fun j => f j || j == k) := by
  apply List.ext_getElem?
  intro j
  rw [List.getElem?_set]
  by_cases hj : j < n
  · by_cases e : k = j
    · subst e
      rw [if_pos rfl, if_pos (by rw [boolV_length]; exact hj), boolV_get _ hj]; simp
    · rw [if_neg e, boolV_get _ hj, boolV_get _ hj]
      have : (j == k) = false := by rw [beq_eq_false_iff_ne]; exact fun h => e h.symm
      rw [this, Bool.or_false]
  · have h1 : ∀ f : Nat → Bool, (boolV n f)[j]? = none := fun f => List.getElem?_eq_none (by rw [boolV_length]; omega)
    rw [h1, h1]
    split
    · rename_i e; subst e; rw [if_neg (by rw [boolV_length]; exact hj)]
    · rfl
theorem boolV_false (n : Nat) : List.replicate n (Value.bool false) = boolV n (fun _ => false) := by
  apply List.ext_getElem?
  intro j
  by_cases hj : j < n
  · rw [boolV_get _ hj]; simp [hj]
  · rw [List.getElem?_eq_none (by simpa using Nat.le_of_not_lt hj), List.getElem?_eq_none (by rw [boolV_length]; omega)]

/-- m rows of n bools that may be read. -/
def Grid (w : World) (v : Value) (m n : Nat) (R : Bin2) : Prop :=
  m ≤ maxLen ∧ ∃ ao cap, v = .slice ao m cap ∧ ∀ i, i < m → ∃ g gi ci, ao = some ⟨g, 0, none⟩ ∧ w.cell? ⟨g, i, none⟩ = some (.slice (some ⟨gi, 0, none⟩) n ci) ∧ ∀ k, k < n → w.cell? ⟨gi, k, none⟩ = some (.bool (R i k))
theorem Grid.ext {A B : World} {v : Value} {m n : Nat} {R : Bin2} (h : Grid A v m n R) (ht : Ext A B) : Grid B v m n R := by
  obtain ⟨h1, ao, cap, hv, h2⟩ := h
  refine ⟨h1, ao, cap, hv, fun i hi => ?_⟩
  obtain ⟨g, gi, ci, a, b, c⟩ := h2 i hi
  exact ⟨g, gi, ci, a, ht.cell_some b id, fun k hk => ht.cell_some (c k hk) id⟩
theorem Grid.congr {A : World} {v : Value} {m n : Nat} {R S : Bin2} (h : Grid A v m n R) (e : ∀ i k, i < m → k < n → R i k = S i k) : Grid A v m n S := by
  obtain ⟨h1, ao, cap, hv, h2⟩ := h
  refine ⟨h1, ao, cap, hv, fun i hi => ?_⟩
  obtain ⟨g, gi, ci, a, b, c⟩ := h2 i hi
  exact ⟨g, gi, ci, a, b, fun k hk => by rw [c k hk, e i k hi hk]⟩

/-- m rows that a call has made: the row of rows is its own; the rows lie in blocks of tb. -/
def Built (w : World) (base : Nat) (te tb : TypeId) (v : Value) (m n : Nat) (R : Bin2) : Prop :=
  ∃ us : List Value, w.ownsRow base te 1 v m us ∧ ∀ i, i < m → ∃ gi ci cur, us[i]? = some (.slice (some ⟨gi, 0, none⟩) n ci) ∧ base ≤ gi ∧ w.heap[gi]? = some (.cells cur tb (0, 0)) ∧ ∀ k, k < n → cur[k]? = some (.bool (R i k))
theorem Built.keep {S : Nat → Prop} {A B : World} {base : Nat} {te tb : TypeId} {v : Value} {m n : Nat} {R : Bin2} (h : Built A base te tb v m n R) (ht : Turn S A B) (hS : ∀ g, base ≤ g → g < A.heap.size → ¬ S g) : Built B base te tb v m n R := by
  obtain ⟨us, h1, h2⟩ := h
  refine ⟨us, own_keep h1 ht (fun g hg => hS g (h1.lt g hg).1 (h1.lt g hg).2), fun i hi => ?_⟩
  obtain ⟨gi, ci, cur, a, b, c, d⟩ := h2 i hi
  exact ⟨gi, ci, cur, a, b, ht.heap c (hS gi b (Array.getElem?_eq_some_iff.1 c).1), d⟩
theorem Built.ext {A B : World} {base : Nat} {te tb : TypeId} {v : Value} {m n : Nat} {R : Bin2} (h : Built A base te tb v m n R) (ht : Ext A B) : Built B base te tb v m n R := h.keep ht fun _ _ _ h => h
theorem Built.nil (w : World) (base : Nat) (te tb : TypeId) (n : Nat) (R : Bin2) : Built w base te tb (.slice none 0 0) 0 n R := ⟨[], World.ownsRow_nil _ _ _ _, fun i hi => by omega⟩
/-- One row more. -/
theorem Built.snoc {A B : World} {base : Nat} {te tb : TypeId} {v v' : Value} {m n : Nat} {R : Bin2} {us : List Value} (h1 : A.ownsRow base te 1 v m us)
    (h2 : ∀ i, i < m → ∃ gi ci cur, us[i]? = some (.slice (some ⟨gi, 0, none⟩) n ci) ∧ base ≤ gi ∧ A.heap[gi]? = some (.cells cur tb (0, 0)) ∧ ∀ k, k < n → cur[k]? = some (.bool (R i k)))
    {g c : Nat} (hr : A.ownsRow base tb 1 (.slice (some ⟨g, 0, none⟩) n c) n (boolV n (R m))) (hne : te ≠ tb) (ht : Turn (fun b => v.ownBlock = some b) A B)
    (hO : B.ownsRow base te 1 v' (m + 1) (us ++ [.slice (some ⟨g, 0, none⟩) n c])) : Built B base te tb v' (m + 1) n R := by
  have hdiff : ∀ x cur, A.heap[x]? = some (.cells cur tb (0, 0)) → ¬ v.ownBlock = some x := fun x cur hx e => by
    rcases h1.2 with ⟨rfl, _⟩ | ⟨g', cap, cur', rfl, _, hh, _⟩
    · cases e
    · cases e
      rw [hh] at hx
      cases hx
      exact hne rfl
  have hl := h1.1
  refine ⟨_, hO, fun i hi => ?_⟩
  by_cases him : i < m
  · obtain ⟨gi, ci, cur, a, b, cc, d⟩ := h2 i him
    exact ⟨gi, ci, cur, by rw [List.getElem?_append_left (by omega)]; exact a, b, ht.heap cc (hdiff gi cur cc), d⟩
  · obtain rfl : m = i := by omega
    rcases hr.2 with ⟨q, _⟩ | ⟨g', cap, cur, q, hb, hh, hnc, hcm, hcs, htake⟩
    · cases q
    · simp only [Value.slice.injEq, Option.some.injEq, Addr.mk.injEq] at q
      obtain ⟨⟨rfl, _, _⟩, _, rfl⟩ := q
      refine ⟨g, c, cur, by rw [List.getElem?_append_right (by omega)]; simp [hl], hb, ht.heap hh (hdiff g cur hh), fun k hk => ?_⟩
      have := boolV_get (R m) hk
      rw [← htake, List.getElem?_take] at this
      split at this
      · simpa using this
      · cases this
theorem Built.grid {w : World} {base : Nat} {te tb : TypeId} {v : Value} {m n : Nat} {R : Bin2} (h : Built w base te tb v m n R) : Grid w v m n R := by
  obtain ⟨us, h1, h2⟩ := h
  have hl := h1.1
  rcases h1.2 with ⟨rfl, rfl⟩ | ⟨g, cap, cur, rfl, _, _, hnc, hcm, _⟩
  · exact ⟨by simp [maxLen], none, 0, rfl, fun i hi => by omega⟩
  · refine ⟨by omega, _, cap, rfl, fun i hi => ?_⟩
    obtain ⟨gi, ci, cur', a, b, c, d⟩ := h2 i hi
    refine ⟨g, gi, ci, rfl, by rw [h1.cellAt i (by omega)]; exact a, fun k hk => ?_⟩
    have := d k hk
    simp only [World.cell?, c]
    simpa using this
end Go.Ab

namespace Go.Proofs.YtapfoaiibjdfnaaDoor
open Go.RowKit Go.Ab
attribute [local go_sem] Oper.semAt_some wide_fn wide_depth

theorem Tryd.infoBool : (Tryd.prog.info? 4).map (fun i => (i.zero, i.size, i.bytes)) = some (some (.bool false), 1, 1) := by kernel_rfl
theorem Tryd.infoBools : (Tryd.prog.info? 46).map (fun i => (i.zero, i.size, i.bytes)) = some (some (.slice none 0 0), 1, 24) := by kernel_rfl

structure Ups (n k : Nat) (R : Nat → Bool) (L : List Nat) : Prop where
  at_ : ∀ i (h : i < L.length), k ≤ L[i] ∧ L[i] ≤ n
  lt : ∀ i (h : i + 1 < L.length), L[i] < L[i + 1]
  len : L.length ≤ n + 1
  any : ∀ b, b ≤ n → (L.any (· == b)) = R b
theorem ups_filter {n k : Nat} {R : Bin2} (hm : Mono n R) : Ups n k (R k) ((List.range (n + 1)).filter fun b => R k b) := by
  have hmem : ∀ x, x ∈ (List.range (n + 1)).filter (fun b => R k b) ↔ x < n + 1 ∧ R k x = true := fun x => by rw [List.mem_filter, List.mem_range]
  refine ⟨fun i h => ?_, fun i h => ?_, ?_, fun b hb => ?_⟩
  · have := (hmem _).1 (List.getElem_mem h)
    have := hm _ _ this.2
    omega
  · have := (List.pairwise_lt_range (n := n + 1)).filter (fun b => R k b)
    exact List.pairwise_iff_getElem.1 this i (i + 1) (by omega) h (by omega)
  · have := List.length_filter_le (fun b => R k b) (List.range (n + 1))
    simpa using this
  · apply Bool.eq_iff_iff.2
    rw [List.any_eq_true]
    constructor
    · rintro ⟨x, hx, e⟩
      have := (hmem x).1 hx
      have e : x = b := by simpa using e
      rw [← e]; exact this.2
    · intro h
      exact ⟨b, (hmem b).2 ⟨by omega, h⟩, by simp⟩
theorem ups_take {L : List Nat} {i : Nat} (h : i < L.length) (b : Nat) : (L.take (i + 1)).any (· == b) = ((L.take i).any (· == b) || b == L[i]) := by
  rw [List.take_succ_eq_append_getElem h, List.any_append]
  simp only [List.any_cons, List.any_nil, Bool.or_false]
  rw [show (L[i] == b) = (b == L[i]) by apply Bool.eq_iff_iff.2; rw [beq_iff_eq, beq_iff_eq]; exact eq_comm]
theorem endL_good {p : Pat} {ws : Wd} (h : relE p ws = 0) {k : Nat} (hk : k ≤ ws.length) : placeE p ws k = 0 ∧ endL p ws k = (List.range (ws.length + 1)).filter (fun b => relP ws p k b) := by
  have h1 : placeE p ws k = 0 := by
    unfold placeE
    rw [if_pos h]
    unfold exE
    rw [if_neg (by omega)]
  refine ⟨h1, ?_⟩
  unfold endL
  rw [if_pos h1, relR_good h, show ((k : Int)).toNat = k by omega]

set_option maxRecDepth 100000 in
set_option maxHeartbeats 8000000 in
theorem outs_any {K : Nat → Prop} {w : World} {p : Pat} {cs : List Value} {v : Value} {ws : Wd} (hp : PatAt K w p cs) (hK : ∀ g, K g → g < w.heap.size) (hv : WordAt w v ws) (hT : Tab w) (hok : relE p ws = 0) :
    Calls Tryd.prog 27 #[.agg cs.toArray, v] w fun e w' => ∃ u, e = .returned (.tuple #[u, .bool true]) ∧ Grid w' u (ws.length + 1) (ws.length + 1) (relP ws p) ∧ Ext w w' := by
  have hen0 := fun (V : World) (k : Nat) (hk : k ≤ ws.length) (hE : Ext w V) => ends_any (K := K) (hp.ext hE) (fun g hg => Nat.lt_of_lt_of_le (hK g hg) hE.size) (hv.ext hE) (hT.keep hE id) (k : Int)
  have hen : ∀ (V : World) (k : Nat), k ≤ ws.length → Ext w V → Calls Tryd.prog 15 #[.agg cs.toArray, v, .int .i64 k] V fun e w' => ∃ u L, e = .returned (.tuple #[u, .int .i64 0]) ∧ Ups ws.length k (relP ws p k) L ∧ w'.ownsRow V.heap.size 3 1 u L.length (natV L) ∧ Ext V w' := by
    intro V k hk hE
    refine (hen0 V k hk hE).mono ?_
    rintro e w' ⟨u, he, h1, h2⟩
    obtain ⟨g1, g2⟩ := endL_good hok hk
    rw [g2] at h1
    exact ⟨u, _, by rw [he, g1], ups_filter (relP_mono ws p), h1, h2⟩
  clear hen0
  obtain ⟨ao, cap, rfl, hlc, hcm, _⟩ := patAt_cells hp
  obtain ⟨bo, bcap, rfl, hbm⟩ := hv.slice
  have hn : ws.length ≤ 32 := (relE_zero.1 hok).2.1
  clear hp hlc hcm hv hT hK hok
  obtain ⟨n, hN⟩ : ∃ n, ws.length = n := ⟨_, rfl⟩
  obtain ⟨R, hR⟩ : ∃ R, relP ws p = R := ⟨_, rfl⟩
  have HEN := Lib.hid hen
  rw [hN, hR] at HEN
  rw [hN] at hbm hn ⊢
  rw [hR]
  clear hen hN hR
  unfold patCells at HEN ⊢
  go_enter Tryd.func27, Tryd.ntmps27
  go_wp2
  have hx0 : (w.alloc (.cells #[.int .i64 p.k, .int .u32 (p.pl : Int), .int .u32 (p.mi : Int), .bool p.nt, .int .i64 p.mn, .int .i64 p.mx, .slice ao p.l.length cap] 27)).heap[w.heap.size]? = some (.cells #[.int .i64 p.k, .int .u32 (p.pl : Int), .int .u32 (p.mi : Int), .bool p.nt, .int .i64 p.mn, .int .i64 p.mx, .slice ao p.l.length cap] 27 (0, 0)) := new_at rfl
  have hE0 : Ext w (w.alloc (.cells #[.int .i64 p.k, .int .u32 (p.pl : Int), .int .u32 (p.mi : Int), .bool p.nt, .int .i64 p.mn, .int .i64 p.mx, .slice ao p.l.length cap] 27)) := (Turn.refl _ w).alloc _
  generalize (w.alloc (.cells #[.int .i64 p.k, .int .u32 (p.pl : Int), .int .u32 (p.mi : Int), .bool p.nt, .int .i64 p.mn, .int .i64 p.mx, .slice ao p.l.length cap] 27)) = w1 at hx0 hE0 ⊢
  obtain ⟨B, hB⟩ : ∃ B, w.heap.size = B := ⟨_, rfl⟩
  rw [hB] at hx0 ⊢
  have hB1 : B < w1.heap.size := (Array.getElem?_eq_some_iff.1 hx0).1
  obtain ⟨B1, hB1'⟩ : ∃ B1, w1.heap.size = B1 := ⟨_, rfl⟩
  have HB1 := Lib.hid hB1'
  rw [hB1'] at hB1
  clear hB hB1'
  have HX := Lib.hid hx0
  clear hx0
  refine wp_loop (fun a W => ∃ (k : Nat) (v6 : Value), k ≤ n + 1 ∧ a.defers = [] ∧ (a.tmps.size = 79 ∧ a.tmps.getD 1 undef = .slice bo n bcap ∧ a.tmps.getD 2 undef = .pointer (some ⟨B, 0, none⟩) ∧ a.tmps.getD 6 undef = v6 ∧ a.tmps.getD 7 undef = .int .i64 k) ∧ Built W B1 46 4 v6 k (n + 1) R ∧ Ext w1 W)
    (fun a _ => n + 1 - (intOf (a.tmps.getD 7 undef)).toNat) ?_ ?_
  · exact ⟨0, _, by omega, rfl, ⟨rfl, rfl, rfl, rfl, rfl⟩, Built.nil _ _ _ _ _ _, Turn.refl _ _⟩
  rintro ⟨t, _⟩ W ⟨k, v6, hk, hds, ⟨hsz, f1, f2, f6, f7⟩, hBu, hE⟩
  subst hds
  obtain ⟨u', hu⟩ := frame_fun hsz
  obtain ⟨u, rfl⟩ : ∃ x, x = u' := ⟨_, rfl⟩
  have hu' : t = #[u 0, u 1, u 2, u 3, u 4, u 5, u 6, u 7, u 8, u 9, u 10, u 11, u 12, u 13, u 14, u 15, u 16, u 17, u 18, u 19, u 20, u 21, u 22, u 23, u 24, u 25, u 26, u 27, u 28, u 29, u 30, u 31, u 32, u 33, u 34, u 35, u 36, u 37, u 38, u 39, u 40, u 41, u 42, u 43, u 44, u 45, u 46, u 47, u 48, u 49, u 50, u 51, u 52, u 53, u 54, u 55, u 56, u 57, u 58, u 59, u 60, u 61, u 62, u 63, u 64, u 65, u 66, u 67, u 68, u 69, u 70, u 71, u 72, u 73, u 74, u 75, u 76, u 77, u 78] := hu
  clear hu
  subst hu'
  change u 1 = _ at f1
  change u 2 = _ at f2
  change u 6 = _ at f6
  change u 7 = _ at f7
  rw [f1, f2, f6, f7]
  clear f1 f2 f6 f7 hsz
  have HBU := Lib.hid hBu
  clear hBu
  by_cases hkn : k < n + 1
  · have h1 : (k : Int) ≤ (n : Int) := by omega
    have hx := hE.keep HX.out
    have cX := fun j => cell_of_row _ _ j _ _ _ hx
    go_wp2_with fail
    refine (HEN.out W k (by omega) (hE0.trans hE)).mono ?_
    rintro e w2 ⟨u8, L, rfl, hL, hO, hE2⟩
    have hE12 := hE.trans hE2
    have hrd := Rd.of_own hO
    obtain ⟨a8, c8, rfl, hl8, hcell⟩ := Rd.int hrd
    have hBu2 := HBU.out.ext hE2
    have hsz1 : B1 ≤ w2.heap.size := by have := hE12.size; have := HB1.out; omega
    obtain ⟨Ln, hLn⟩ : ∃ Ln, L.length = Ln := ⟨_, rfl⟩
    have hlen := hL.len
    have HL := Lib.hid hL
    have HCELL := Lib.hid hcell
    have HLN := Lib.hid hLn
    have HB2 := Lib.hid hBu2
    rw [hLn] at hl8 hlen ⊢
    clear hx cX hO hrd hcell hLn hL HBU hBu2 hE hE2 hl8
    go_wp2_with (at_make; refine make_row1 rfl (.tmp 27) (.tmp 27) 46 rfl w2.heap.size 4 _ 1 Tryd.underlying46 Tryd.infoBool rfl .i64 .i64 ((n : Int) + 1) ((n : Int) + 1) (n + 1) rfl rfl (by omega) (by omega) ?c1 ?c2 (Nat.le_refl _) ?_)
    case c1 => omega
    case c2 => unfold maxLen; omega
    intro w3 hO3 hE3
    obtain ⟨r, hr⟩ : ∃ r, w2.heap.size = r := ⟨_, rfl⟩
    rw [hr] at hO3 hsz1 ⊢
    rw [boolV_false, show boolV (n + 1) (fun _ => false) = boolV (n + 1) (fun b => (L.take 0).any (· == b)) from rfl] at hO3
    have hr3 : r < w3.heap.size := (hO3.lt _ rfl).2
    have HR2 := Lib.hid hr
    clear hr
    go_wp2
    refine wp_loop (fun a V => ∃ (i : Nat), i ≤ Ln ∧ a.defers = [] ∧ (a.tmps.size = 79 ∧ a.tmps.getD 1 undef = .slice bo n bcap ∧ a.tmps.getD 2 undef = .pointer (some ⟨B, 0, none⟩) ∧ a.tmps.getD 6 undef = v6 ∧ a.tmps.getD 7 undef = .int .i64 k ∧ a.tmps.getD 8 undef = .slice a8 Ln c8 ∧ a.tmps.getD 9 undef = .int .i64 0 ∧ a.tmps.getD 10 undef = .slice (some ⟨r, 0, none⟩) (n + 1) (n + 1) ∧ a.tmps.getD 11 undef = .int .i64 i) ∧ V.ownsRow r 4 1 (.slice (some ⟨r, 0, none⟩) (n + 1) (n + 1)) (n + 1) (boolV (n + 1) (fun b => (L.take i).any (· == b))) ∧ Ext w2 V)
      (fun a _ => Ln - (intOf (a.tmps.getD 11 undef)).toNat) ?_ ?_
    · exact ⟨0, by omega, rfl, ⟨rfl, rfl, rfl, rfl, rfl, rfl, rfl, rfl, rfl⟩, hO3, hE3⟩
    clear hO3 hE3 hr3
    rintro ⟨t, _⟩ V ⟨i, hi, hds, ⟨hsz, f1, f2, f6, f7, f8, f9, f10, f11⟩, hO, hE⟩
    subst hds
    obtain ⟨u', hu⟩ := frame_fun hsz
    obtain ⟨u, rfl⟩ : ∃ x, x = u' := ⟨_, rfl⟩
    have hu' : t = #[u 0, u 1, u 2, u 3, u 4, u 5, u 6, u 7, u 8, u 9, u 10, u 11, u 12, u 13, u 14, u 15, u 16, u 17, u 18, u 19, u 20, u 21, u 22, u 23, u 24, u 25, u 26, u 27, u 28, u 29, u 30, u 31, u 32, u 33, u 34, u 35, u 36, u 37, u 38, u 39, u 40, u 41, u 42, u 43, u 44, u 45, u 46, u 47, u 48, u 49, u 50, u 51, u 52, u 53, u 54, u 55, u 56, u 57, u 58, u 59, u 60, u 61, u 62, u 63, u 64, u 65, u 66, u 67, u 68, u 69, u 70, u 71, u 72, u 73, u 74, u 75, u 76, u 77, u 78] := hu
    clear hu
    subst hu'
    change u 1 = _ at f1
    change u 2 = _ at f2
    change u 6 = _ at f6
    change u 7 = _ at f7
    change u 8 = _ at f8
    change u 9 = _ at f9
    change u 10 = _ at f10
    change u 11 = _ at f11
    rw [f1, f2, f6, f7, f8, f9, f10, f11]
    clear f1 f2 f6 f7 f8 f9 f10 f11 hsz
    have HO := Lib.hid hO
    by_cases hin : i < Ln
    · have h1 : (i : Int) < (Ln : Int) := by omega
      have hiL : i < L.length := by rw [HLN.out]; exact hin
      obtain ⟨g, off, rfl, d1⟩ := HCELL.out i hiL
      have c1 := hE.cell_some d1 id
      obtain ⟨b1, b2⟩ := HL.out.at_ i hiL
      have htk := ups_take hiL
      obtain ⟨x, hx⟩ : ∃ x, L[i] = x := ⟨_, rfl⟩
      have hpre : 0 < i → ∃ y : Nat, y < x ∧ V.cell? ⟨g, off + (i - 1), none⟩ = some (.int .i64 y) := by
        intro h0
        obtain ⟨g', off', e, d2⟩ := HCELL.out (i - 1) (by omega)
        simp only [Option.some.injEq, Addr.mk.injEq] at e
        obtain ⟨rfl, rfl, _⟩ := e
        refine ⟨_, ?_, hE.cell_some d2 id⟩
        have := HL.out.lt (i - 1) (by omega)
        simp only [show i - 1 + 1 = i by omega] at this
        rw [← hx]; exact this
      rw [hx] at c1 b1 b2 htk
      have HTK := Lib.hid htk
      have HP := Lib.hid hpre
      have hcr : ∀ x, x < n + 1 → V.cell? ⟨r, x, none⟩ = some (.bool ((L.take i).any (· == x))) ∧ V.frozen? ⟨r, x, none⟩ = false := fun x hx => ⟨by rw [HO.out.cellAt x (by omega), boolV_get _ hx], HO.out.frozenAt x⟩
      obtain ⟨c2, c3⟩ := hcr x (by omega)
      clear hpre htk hx d1 hcr hO
      have g1 : ¬ ((x : Int) < (k : Int)) := by omega
      have g2 : ¬ ((n : Int) < (x : Int)) := by omega
      have g3 : (x : Int) < (n : Int) + 1 := by omega
      have g1' : ¬ x < k := by omega
      have g2' : ¬ n < x := by omega
      have hnew : ∀ m, ((V.drewN m).setCell ⟨r, x, none⟩ (.bool true)).ownsRow r 4 1 (.slice (some ⟨r, 0, none⟩) (n + 1) (n + 1)) (n + 1) (boolV (n + 1) (fun b => (L.take (i + 1)).any (· == b))) ∧ Ext w2 ((V.drewN m).setCell ⟨r, x, none⟩ (.bool true)) := by
        intro m
        constructor
        · have h1 := own_store (own_ext HO.out ((Turn.refl _ V).drewN m)) x (.bool true)
          rw [boolV_set] at h1
          rw [show (fun b => (L.take (i + 1)).any (· == b)) = (fun j => (L.take i).any (· == j) || j == x) from funext HTK.out]
          exact h1
        · exact (hE.drewN m).setCell (p := ⟨r, x, none⟩) (.inl (by rw [HR2.out]; exact Nat.le_refl r)) _
      have HNEW := Lib.hid hnew
      clear hnew HTK
      rcases i with _ | j
      · rw [Nat.add_zero] at c1
        clear HP
        go_wp2
        go_quiet (fail)
        go_wp2
        exact ⟨⟨1, by omega, by first | rfl | trivial, ⟨rfl, rfl, rfl, rfl, rfl, rfl, rfl, rfl, rfl⟩, (HNEW.out _).1, (HNEW.out _).2⟩, by simp [intOf]; omega⟩
      · obtain ⟨y, hy, c4⟩ := HP.out (by omega)
        rw [show j + 1 - 1 = j by omega] at c4
        have g4 : ¬ ((x : Int) ≤ (y : Int)) := by omega
        have g4' : ¬ x ≤ y := by omega
        have g5 : (0 : Int) ≤ (j : Int) + 1 := by omega
        have g6 : (0 : Int) < (j : Int) + 1 := by omega
        clear HP
        go_wp2
        go_quiet (fail)
        go_wp2
        exact ⟨⟨j + 2, by omega, by first | rfl | trivial, ⟨rfl, rfl, rfl, rfl, rfl, rfl, rfl, rfl, rfl⟩, (HNEW.out _).1, (HNEW.out _).2⟩, by simp [intOf]; omega⟩
    · obtain rfl : i = Ln := by omega
      have h1 : ¬ ((i : Int) < (i : Int)) := by omega
      have hfin : boolV (n + 1) (fun b => (L.take i).any (· == b)) = boolV (n + 1) (R k) := by
        refine List.map_congr_left fun b hb => ?_
        show Value.bool ((L.take i).any (· == b)) = Value.bool (R k b)
        rw [List.take_of_length_le (by rw [HLN.out]; exact Nat.le_refl _), HL.out.any b (by have := List.mem_range.1 hb; omega)]
      rw [hfin] at HO
      clear hfin hO
      obtain ⟨us, hU, hrows⟩ := (HB2.out.ext hE).ext ((Turn.refl _ V).alloc (.cells #[.slice (some ⟨r, 0, none⟩) (n + 1) (n + 1)] 46))
      have hr5 := own_base (own_ext HO.out ((Turn.refl _ V).alloc (.cells #[.slice (some ⟨r, 0, none⟩) (n + 1) (n + 1)] 46))) hsz1
      have hEV : Ext w1 (V.alloc (.cells #[.slice (some ⟨r, 0, none⟩) (n + 1) (n + 1)] 46)) := (hE12.trans hE).alloc _
      have hVB : B1 ≤ V.heap.size := by have := hE.size; have := HR2.out; omega
      have HU := Lib.hid hU; have HROWS := Lib.hid hrows
      clear hU hrows hE
      go_wp2_with (at_builtin; refine append_row rfl (.tmp 74) (.tmp 76) 43 rfl B1 46 _ 1 24 Tryd.underlying43 Tryd.infoBools rfl (by decide) _ _ _ rfl HU.out ⟨V.heap.size, 0, none⟩ 1 1 [.slice (some ⟨r, 0, none⟩) (n + 1) (n + 1)] rfl rfl (new_cells' rfl) ?d2 ?d3 ?d4 ?d5 ?_)
      case d2 => first | rfl | (intro u hu; simp at hu; rcases hu with rfl; rfl)
      case d3 => unfold maxLen; omega
      case d4 => omega
      case d5 => first | omega | (simp; omega)
      intro ao5 c5 w5 hO5 hT5 _
      have hE5 := hEV.after hT5 (fun b' h1 e => by have := (HU.out.lt _ e).1; have := HB1.out; omega)
      have hB5 := Built.snoc HU.out HROWS.out hr5 (by decide) hT5 hO5
      clear hT5 hO5 hr5 hEV
      go_wp2
      exact ⟨⟨k + 1, _, by omega, by first | rfl | trivial, ⟨rfl, rfl, rfl, rfl, rfl⟩, hB5, hE5⟩, by simp [intOf]; omega⟩
  · obtain rfl : k = n + 1 := by omega
    have h1 : ¬ (((n + 1 : Nat) : Int) ≤ (n : Int)) := by omega
    go_wp2
    exact bodyPost_ret (results_two rfl _ _ _) rfl ⟨_, rfl, HBU.out.grid, hE0.trans hE⟩
end Go.Proofs.YtapfoaiibjdfnaaDoor

namespace Go.Proofs.YtapfoaiibjdfnaaDoor
open Go.RowKit Go.Ab
attribute [local go_sem] Oper.semAt_some wide_fn wide_depth

/-- The cells of a table. -/
def GridC (w : World) (g m n : Nat) (R : Bin2) : Prop := ∀ i, i < m → ∃ gi ci, w.cell? ⟨g, i, none⟩ = some (.slice (some ⟨gi, 0, none⟩) n ci) ∧ ∀ k, k < n → w.cell? ⟨gi, k, none⟩ = some (.bool (R i k))
theorem GridC.ext {A B : World} {g m n : Nat} {R : Bin2} (h : GridC A g m n R) (ht : Ext A B) : GridC B g m n R := fun i hi => by
  obtain ⟨gi, ci, b, c⟩ := h i hi
  exact ⟨gi, ci, ht.cell_some b id, fun k hk => ht.cell_some (c k hk) id⟩
theorem Grid.open {w : World} {v : Value} {m n : Nat} {R : Bin2} (h : Grid w v (m + 1) n R) : ∃ g cap, v = .slice (some ⟨g, 0, none⟩) (m + 1) cap ∧ GridC w g (m + 1) n R := by
  obtain ⟨_, ao, cap, rfl, h2⟩ := h
  obtain ⟨g, _, _, rfl, _, _⟩ := h2 0 (by omega)
  refine ⟨g, cap, rfl, fun i hi => ?_⟩
  obtain ⟨g', gi, ci, e, b, c⟩ := h2 i hi
  cases e
  exact ⟨gi, ci, b, c⟩

section
variable {K : Nat → Prop} {w : World} {p : Pat} {cs : List Value} {v : Value} {ws : Wd}
theorem place_good (h : relE p ws = 0) {k : Nat} (hk : k ≤ ws.length) : placeE p ws k = 0 := (endL_good h hk).1
theorem matches_good (hp : PatAt K w p cs) (hK : ∀ g, K g → g < w.heap.size) (hv : WordAt w v ws) (hT : Tab w) (h : relE p ws = 0) :
    Calls Tryd.prog 21 #[.agg cs.toArray, v] w fun e w' => e = .returned (.tuple #[.bool (relP ws p 0 ws.length), .int .i64 0]) ∧ Ext w w' := by
  have := matches_any hp hK hv hT
  have e : matV p ws = relP ws p 0 ws.length := by unfold matV; rw [relR_good h, decide_eq_true h, Bool.true_and]
  rw [e, h] at this
  exact this
theorem begins_good (hp : PatAt K w p cs) (hK : ∀ g, K g → g < w.heap.size) (hv : WordAt w v ws) (hT : Tab w) (h : relE p ws = 0) {k : Nat} (hk : k ≤ ws.length) :
    Calls Tryd.prog 17 #[.agg cs.toArray, v, .int .i64 k] w fun e w' => ∃ u, e = .returned (.tuple #[u, .int .i64 0]) ∧ Rd w' u ((List.range (ws.length + 1)).filter (fun a => relP ws p a k)).length 1 (natV ((List.range (ws.length + 1)).filter (fun a => relP ws p a k))) ∧ Ext w w' := by
  refine (begins_any hp hK hv hT (k : Int)).mono ?_
  rintro e w' ⟨u, he, h1, h2⟩
  have hb : begL p ws k = (List.range (ws.length + 1)).filter (fun a => relP ws p a k) := by
    unfold begL
    rw [if_pos (place_good h hk), relR_good h, show ((k : Int)).toNat = k by omega]
  rw [hb] at h1
  rw [place_good h hk] at he
  exact ⟨u, he, Rd.of_own h1, h2⟩
theorem find_good (hp : PatAt K w p cs) (hK : ∀ g, K g → g < w.heap.size) (hv : WordAt w v ws) (hT : Tab w) (h : relE p ws = 0) {k : Nat} (hk : k ≤ ws.length) :
    Calls Tryd.prog 23 #[.agg cs.toArray, v, .int .i64 k] w fun e w' => (∃ x y ok, e = .returned (.tuple #[.int .i64 x, .int .i64 y, .bool ok, .int .i64 0]) ∧ FindIs (relP ws p) ws.length k x y ok) ∧ Ext w w' := by
  refine (find_any hp hK hv hT (k : Int)).mono ?_
  rintro e w' ⟨⟨x, y, ok, he, h1⟩, h2⟩
  rw [place_good h hk] at he h1
  rw [if_pos rfl, relR_good h, show ((k : Int)).toNat = k by omega] at h1
  exact ⟨⟨x, y, ok, he, h1⟩, h2⟩
theorem empty_good (hp : PatAt K w p cs) (hK : ∀ g, K g → g < w.heap.size) (hT : Tab w) (h : relE p ws = 0) :
    Calls Tryd.prog 28 #[.agg cs.toArray] w fun e w' => e = .returned (.bool (emptyP p)) ∧ Ext w w' := by
  have := isempty_any hp hK hT
  have e : emptyV p = emptyP p := by unfold emptyV; rw [decide_eq_true (relE_zero.1 h).1, Bool.true_and]
  rw [e] at this
  exact this
end

/-- What stands at its place in a list of places. -/
theorem filter_at {n a : Nat} (f : Nat → Bool) (ha : a ≤ n) (h : f a = true) : ∃ hk : ((List.range a).filter f).length < ((List.range (n + 1)).filter f).length, ((List.range (n + 1)).filter f)[((List.range a).filter f).length] = a := by
  have e : (List.range (n + 1)).filter f = (List.range a).filter f ++ (a :: (((List.range (n - a)).map Nat.succ).map (a + ·)).filter f) := by
    have e1 : List.range (n + 1) = List.range a ++ (List.range (n - a + 1)).map (a + ·) := by
      rw [← List.range_add]; congr 1; omega
    rw [e1, List.filter_append, List.range_succ_eq_map, List.map_cons, Nat.add_zero, List.filter_cons, if_pos h]
  refine ⟨by rw [e, List.length_append, List.length_cons]; omega, ?_⟩
  simp only [e]
  rw [List.getElem_append_right (Nat.le_refl _)]
  simp
end Go.Proofs.YtapfoaiibjdfnaaDoor

namespace Go.Ab
open Go.RowKit Go.ChangeShapes Go.WideShapes

section
variable {H : Type} {enc : TypeId × Value → H} {P : Program} {w : World} {base b0 : Nat} {held : Bool} {r : Reach} {t e q : TypeId} {k : IntKind} {v : Value} {d : DataW H} {ps : List MemPlace}

/-- Integers of one kind, as cells. -/
def intsK (k : IntKind) (l : List Int) : List Value := l.map (Value.int k)
/-- Pairs of integers of one kind, as cells. -/
def prsK (k : IntKind) (l : List (Int × Int)) : List Value := l.flatMap fun p => [Value.int k p.1, Value.int k p.2]

theorem cell_lt {w : World} {p : Addr} {v : Value} (h : w.cell? p = some v) : p.block < w.heap.size := by
  apply Nat.lt_of_not_le; intro hle
  simp [World.cell?, Array.getElem?_eq_none hle] at h

theorem open_ints_rd (ht : P.underlying t = some (.slice e)) (he : P.underlying e = some (.int k)) (hc : P.cellsOf e = 1) (hval : Value.okWide P w r b0 t v) (hd : DataW.Trod enc P w base (fun _ => true) held t v d ps) :
    ∃ l : List Int, Rd w v l.length 1 (intsK k l) ∧ ∀ n ∈ l, (Lit.int k n).wf = true := by
  obtain ⟨ao, len, cap, rfl⟩ := okWide_slice ht hval
  obtain ⟨fuel, hf⟩ := hd
  rcases open_ints ht he hc hf with ⟨h, _⟩ | ⟨a, len', cap', zs, h, _, hl, hm, hz, _, hcell, hw⟩
  · simp [Value.cells] at h
    obtain ⟨rfl, rfl, rfl⟩ := h
    exact ⟨[], ⟨rfl, by simp [maxLen], none, 0, rfl, fun h => by simp at h⟩, by simp⟩
  · simp [Value.cells] at h
    obtain ⟨rfl, rfl, rfl⟩ := h
    simp only [if_true] at hz
    have htl : (zs.take len).length = len := by simp; omega
    refine ⟨zs.take len, ⟨by simp [intsK], by rw [htl]; omega, some a, cap, by rw [htl], fun h0 => ?_⟩, fun n hn => hw n (List.mem_of_mem_take hn)⟩
    obtain ⟨b, off, rfl, hcs⟩ := ints_at hcell (by omega)
    refine ⟨b, off, rfl, cell_lt (hcs 0 (by omega)), fun j hj => ?_⟩
    rw [hcs j (by omega)]
    have hj' : j < len := by omega
    simp [intsK, List.getD_eq_getElem?_getD, hj', show j < zs.length by omega]

theorem cells_two {a : Addr} {cs : List Value} (h : w.cells? base a 2 = some cs) : ∃ c0 c1, cs = [c0, c1] ∧ w.cell? a = some c0 ∧ w.cell? (a.add 1) = some c1 := by
  obtain ⟨_, hl, hx⟩ := World.cells?_some h
  match cs, hl with
  | [c0, c1], _ =>
    have h0 := hx 0 (by decide)
    have h1 := hx 1 (by decide)
    exact ⟨c0, c1, rfl, by simpa [Addr.add] using h0, by simpa using h1⟩

theorem trod_two {fuel : Nat} {c0 c1 : Value} {x : DataW H × List MemPlace} {spare : Nat → Bool} (ht : P.underlying t = some (.array 2 q)) (hq : P.underlying q = some (.int k)) (hc : P.cellsOf q = 1) (h : DataW.trod enc P w base spare held fuel t [c0, c1] = some x) :
    ∃ m n, c0 = .int k m ∧ c1 = .int k n ∧ (Lit.int k m).wf = true ∧ (Lit.int k n).wf = true := by
  obtain ⟨xs, m, rfl, rfl, _, hxs, hx⟩ := DataW.trod_array ht h
  have h0 := hx 0 (by decide)
  have h1 := hx 1 (by decide)
  rw [hc] at h0 h1
  rw [List.getElem?_eq_getElem (by omega)] at h0 h1
  obtain ⟨m0, e0, _, w0⟩ := DataW.trod_int hq h0
  obtain ⟨m1, e1, _, w1⟩ := DataW.trod_int hq h1
  simp at e0 e1
  exact ⟨m0, m1, e0, e1, w0, w1⟩

theorem prsK_cons (k : IntKind) (p : Int × Int) (l : List (Int × Int)) : prsK k (p :: l) = .int k p.1 :: .int k p.2 :: prsK k l := rfl
theorem prsK_length (k : IntKind) (l : List (Int × Int)) : (prsK k l).length = l.length * 2 := by
  induction l with
  | nil => rfl
  | cons p l ih => simp [prsK_cons, ih]; omega
theorem prsK_get (k : IntKind) (l : List (Int × Int)) (i : Nat) (h : i < l.length) : (prsK k l)[i * 2]? = some (.int k (l[i]).1) ∧ (prsK k l)[i * 2 + 1]? = some (.int k (l[i]).2) := by
  induction l generalizing i with
  | nil => simp at h
  | cons p l ih =>
    cases i with
    | zero => simp [prsK_cons]
    | succ i =>
      rw [prsK_cons, show (i + 1) * 2 = i * 2 + 1 + 1 by omega]
      simpa using ih i (by simpa using h)

theorem open_pairs_rd (ht : P.underlying t = some (.slice e)) (he : P.underlying e = some (.array 2 q)) (hq : P.underlying q = some (.int k)) (hce : P.cellsOf e = 2) (hcq : P.cellsOf q = 1) (hval : Value.okWide P w r b0 t v) (hd : DataW.Trod enc P w base (fun _ => true) held t v d ps) :
    ∃ l : List (Int × Int), Rd w v l.length 2 (prsK k l) ∧ ∀ p ∈ l, (Lit.int k p.1).wf = true ∧ (Lit.int k p.2).wf = true := by
  obtain ⟨ao, len, cap, rfl⟩ := okWide_slice ht hval
  obtain ⟨fuel, hf⟩ := hd
  rcases Deep.open_slice ht hf with ⟨h, _⟩ | ⟨a, len', cap', m, n, D, Pl, h, _, hl, hm, hmm, _, hx⟩
  · simp [Value.cells] at h
    obtain ⟨rfl, rfl, rfl⟩ := h
    exact ⟨[], ⟨rfl, by simp [maxLen], none, 0, rfl, fun h => by simp at h⟩, by simp⟩
  · simp [Value.cells] at h
    obtain ⟨rfl, rfl, rfl⟩ := h
    simp only [if_true] at hmm
    subst hmm
    rw [hce] at hx
    have each : ∀ i, i < len → ∃ p : Int × Int, w.cell? (a.add (i * 2)) = some (.int k p.1) ∧ w.cell? ((a.add (i * 2)).add 1) = some (.int k p.2) ∧ (Lit.int k p.1).wf = true ∧ (Lit.int k p.2).wf = true := by
      intro i hi
      obtain ⟨cs', h1, h2⟩ := hx i (by omega)
      obtain ⟨c0, c1, rfl, k0, k1⟩ := cells_two h1
      obtain ⟨m, n, rfl, rfl, w0, w1⟩ := trod_two he hq hcq h2
      exact ⟨(m, n), k0, k1, w0, w1⟩
    obtain ⟨f, hfp⟩ := Deep.choose_lt each
    refine ⟨(List.range len).map f, ⟨by simp [prsK_length], by simp; omega, some a, m, by simp, fun h0 => ?_⟩, fun p hp => ?_⟩
    · simp at h0
      obtain ⟨b, off, spot⟩ := a
      have hspot : spot = none := by simpa [Addr.add] using World.cell?_spot (hfp 0 h0).1
      subst hspot
      have hlt := cell_lt (hfp 0 h0).1
      refine ⟨b, off, rfl, by simpa [Addr.add] using hlt, fun j hj => ?_⟩
      simp only [List.length_map, List.length_range] at hj
      have hi : j / 2 < len := by omega
      obtain ⟨q0, q1, _, _⟩ := hfp (j / 2) hi
      have g := prsK_get k ((List.range len).map f) (j / 2) (by simpa using hi)
      simp only [List.getElem_map, List.getElem_range] at g
      rw [← Go.WideShapes.add_plain, List.getD_eq_getElem?_getD]
      rcases Nat.mod_two_eq_zero_or_one j with hj2 | hj2
      · have ej : j / 2 * 2 = j := by omega
        rw [ej] at q0 g
        rw [q0, g.1]; rfl
      · have ej : j / 2 * 2 + 1 = j := by omega
        rw [Deep.add_add, ej] at q1
        rw [ej] at g
        rw [q1, g.2]; rfl
    · obtain ⟨i, hi, rfl⟩ := List.mem_map.1 hp
      have := hfp i (List.mem_range.1 hi)
      exact this.2.2

/-- Bytes as numbers. -/
theorem nat_pairs {l : List (Int × Int)} (h : ∀ p ∈ l, (Lit.int .u8 p.1).wf = true ∧ (Lit.int .u8 p.2).wf = true) :
    ∃ m : List (Nat × Nat), m.length = l.length ∧ prsK .u8 l = m.flatMap (fun p => [Value.int .u8 p.1, Value.int .u8 p.2]) ∧ ∀ p ∈ m, p.1 < 256 ∧ p.2 < 256 := by
  induction l with
  | nil => exact ⟨[], rfl, rfl, by simp⟩
  | cons p l ih =>
    obtain ⟨m, h1, h2, h3⟩ := ih fun q hq => h q (List.mem_cons_of_mem _ hq)
    have hp := h p (List.mem_cons_self ..)
    have b1 := bounds_u8 hp.1
    have b2 := bounds_u8 hp.2
    refine ⟨(p.1.toNat, p.2.toNat) :: m, by simp [h1], ?_, ?_⟩
    · rw [prsK_cons, h2]
      simp [Int.toNat_of_nonneg b1.1, Int.toNat_of_nonneg b2.1]
    · intro q hq
      rcases List.mem_cons.1 hq with rfl | hq
      · constructor <;> simp only [] <;> omega
      · exact h3 q hq

/-- An array of two integers. -/
theorem open_pair (ht : P.underlying t = some (.array 2 q)) (hq : P.underlying q = some (.int k)) (hc : P.cellsOf q = 1) (hc2 : P.cellsOf t = 2) (hval : Value.okWide P w r b0 t v) (hd : DataW.Trod enc P w base (fun _ => true) held t v d ps) :
    ∃ m n, v = .agg #[.int k m, .int k n] ∧ (Lit.int k m).wf = true ∧ (Lit.int k n).wf = true := by
  have : ∃ cs, v = .agg cs ∧ cs.size = P.cellsOf t := by
    unfold Value.okWide at hval
    rw [ht] at hval
    obtain ⟨cs, h1, h2, _⟩ := hval
    exact ⟨cs, h1, h2⟩
  obtain ⟨cs, rfl, hs⟩ := this
  rw [hc2] at hs
  obtain ⟨fuel, hf⟩ := hd
  obtain ⟨c0, c1, rfl⟩ : ∃ c0 c1, cs = #[c0, c1] := ⟨cs[0], cs[1], by apply Array.ext; simp [hs]; intro i h1 h2; match i, h2 with | 0, _ => rfl | 1, _ => rfl⟩
  simp [Value.cells] at hf
  obtain ⟨m, n, rfl, rfl, w0, w1⟩ := trod_two ht hq hc hf
  exact ⟨m, n, rfl, w0, w1⟩
end
end Go.Ab

namespace Go.Proofs.YtapfoaiibjdfnaaDoor
open Go.RowKit Go.Ab Go.ChangeShapes Go.WideShapes

section
variable {H : Type} {enc : TypeId × Value → H} {w : World} {base b0 : Nat} {held : Bool} {r : Reach} {v : Value} {d : DataW H} {ps : List MemPlace} {spare : Nat → Bool}

theorem cellsOf_snd : Tryd.prog.cellsOf 24 = 2 := by kernel_rfl
theorem cellsOf_pat : Tryd.prog.cellsOf 27 = 7 := by kernel_rfl
theorem cellsOf_u32 : Tryd.prog.cellsOf 22 = 1 := by kernel_rfl
theorem cellsOf_int : Tryd.prog.cellsOf 3 = 1 := by kernel_rfl
theorem cellsOf_bool : Tryd.prog.cellsOf 4 = 1 := by kernel_rfl
theorem cellsOf_pats : Tryd.prog.cellsOf 25 = 1 := by kernel_rfl

theorem nat_u32 {n : Int} (h : (Lit.int .u32 n).wf = true) : ∃ m : Nat, n = m ∧ m < 4294967296 := by
  have := bounds_u32 h
  exact ⟨n.toNat, by omega, by omega⟩

set_option maxRecDepth 100000 in
theorem trod_snd {fuel : Nat} {cs : List Value} {x : DataW H × List MemPlace} (h : DataW.trod enc Tryd.prog w base spare held fuel 24 cs = some x) :
    ∃ a b : Nat, cs = [.int .u32 (a : Int), .int .u32 (b : Int)] ∧ a < 4294967296 ∧ b < 4294967296 := by
  obtain ⟨y0, y1, n, _, hl, h0, h1⟩ := trod_struct2 Tryd.underlying24 h
  rw [cellsOf_snd] at hl
  match cs, hl with
  | [c0, c1], _ =>
    simp only [cellsOf_u32] at h0 h1
    obtain ⟨m0, e0, _, w0⟩ := DataW.trod_int Tryd.underlying22 h0
    obtain ⟨m1, e1, _, w1⟩ := DataW.trod_int Tryd.underlying22 h1
    simp at e0 e1
    obtain ⟨a, rfl, ha⟩ := nat_u32 w0
    obtain ⟨b, rfl, hb⟩ := nat_u32 w1
    exact ⟨a, b, by rw [e0, e1], ha, hb⟩

/-- The cells of an element of a slice. -/
theorem cells_range {a : Addr} {n : Nat} {cs : List Value} (hn : 0 < n) (h : w.cells? base a n = some cs) : a.spot = none ∧ a.block < w.heap.size ∧ cs.length = n ∧ w.rangeAt a.block a.off cs := by
  obtain ⟨_, hl, hx⟩ := World.cells?_some h
  have h0 := hx 0 hn
  rw [List.getElem?_eq_getElem (by omega)] at h0
  have hs : a.spot = none := World.cell?_spot (by simpa [Addr.add] using h0)
  have hb : a.block < w.heap.size := by simpa [Addr.add] using cell_lt h0
  refine ⟨hs, hb, hl, fun j u hj => ?_⟩
  have hlt := (List.getElem?_eq_some_iff.1 hj).1
  have := hx j (by omega)
  rw [hj] at this
  have e : a.add j = ⟨a.block, a.off + j, none⟩ := by
    obtain ⟨b, o, s⟩ := a
    simp only at hs
    subst hs
    exact add_plain _ _ _
  rw [← e]; exact this

set_option maxRecDepth 100000 in
theorem open_word (hval : Value.okWide Tryd.prog w r b0 28 v) (hd : DataW.Trod enc Tryd.prog w base (fun _ => true) held 28 v d ps) : ∃ ws : Wd, WordAt w v ws := by
  obtain ⟨ao, len, cap, rfl⟩ := okWide_slice Tryd.underlying28 hval
  obtain ⟨fuel, hf⟩ := hd
  rcases Deep.open_slice Tryd.underlying28 hf with ⟨h, _⟩ | ⟨a, len', cap', m, n, D, Pl, h, _, hl, hm, hmm, _, hx⟩
  · simp [Value.cells] at h
    obtain ⟨rfl, rfl, rfl⟩ := h
    exact ⟨[], ⟨rfl, by simp [maxLen], none, 0, rfl, fun h => by simp at h⟩, by simp [WdOk]⟩
  · simp [Value.cells] at h
    obtain ⟨rfl, rfl, rfl⟩ := h
    simp only [if_true] at hmm
    subst hmm
    rw [cellsOf_snd] at hx
    have each : ∀ i, i < len → ∃ p : Nat × Nat, w.cell? (a.add (i * 2)) = some (.int .u32 (p.1 : Int)) ∧ w.cell? ((a.add (i * 2)).add 1) = some (.int .u32 (p.2 : Int)) ∧ p.1 < 4294967296 ∧ p.2 < 4294967296 := by
      intro i hi
      obtain ⟨cs', h1, h2⟩ := hx i (by omega)
      obtain ⟨c0, c1, rfl, k0, k1⟩ := cells_two h1
      obtain ⟨x, y, he, w0, w1⟩ := trod_snd h2
      simp at he
      obtain ⟨rfl, rfl⟩ := he
      exact ⟨(x, y), k0, k1, w0, w1⟩
    obtain ⟨f, hfp⟩ := Deep.choose_lt each
    refine ⟨(List.range len).map f, ⟨by simp [sndL_length], by simp; omega, some a, m, by simp, fun h0 => ?_⟩, fun p hp => ?_⟩
    · simp at h0
      obtain ⟨b, off, spot⟩ := a
      have hspot : spot = none := by simpa [Addr.add] using World.cell?_spot (hfp 0 h0).1
      subst hspot
      have hlt := cell_lt (hfp 0 h0).1
      refine ⟨b, off, rfl, by simpa [Addr.add] using hlt, fun j hj => ?_⟩
      simp only [List.length_map, List.length_range] at hj
      have hi : j / 2 < len := by omega
      obtain ⟨q0, q1, _, _⟩ := hfp (j / 2) hi
      have g := sndL_get ((List.range len).map f) (j / 2) (by simpa using hi)
      have e : ((List.range len).map f).getD (j / 2) (0, 0) = f (j / 2) := by
        rw [List.getD_eq_getElem?_getD, List.getElem?_eq_getElem (by simpa using hi)]; simp
      rw [e] at g
      rw [← Go.WideShapes.add_plain, List.getD_eq_getElem?_getD]
      rcases Nat.mod_two_eq_zero_or_one j with hj2 | hj2
      · have ej : j / 2 * 2 = j := by omega
        rw [ej] at q0 g
        rw [q0, g.1]; rfl
      · have ej : j / 2 * 2 + 1 = j := by omega
        rw [Deep.add_add, ej] at q1
        rw [ej] at g
        rw [q1, g.2]; rfl
    · obtain ⟨i, hi, rfl⟩ := List.mem_map.1 hp
      have := hfp i (List.mem_range.1 hi)
      exact this.2.2

instance : Inhabited Pat := ⟨.node 0 0 0 false 0 0 []⟩

theorem take1 {cs : List Value} {i : Nat} (hl : cs.length = 7) (h : i < 7) : (cs.drop i).take 1 = [cs.getD i undef] := Deep.take1_drop cs i undef (by omega)

set_option maxRecDepth 100000 in
theorem trod_pat : ∀ (fuel : Nat) {cs : List Value} {x : DataW H × List MemPlace}, DataW.trod enc Tryd.prog w base (fun _ => true) held fuel 27 cs = some x →
    ∃ p : Pat, PatAt (fun g => g < w.heap.size) w p cs := by
  intro fuel
  induction fuel with
  | zero => intro cs x h; simp [DataW.trod] at h
  | succ n ih =>
    intro cs x h
    obtain ⟨xs, n', hn, _, hl, hxl, hf⟩ := DataW.trod_struct Tryd.underlying27 h
    obtain rfl : n = n' := by omega
    rw [cellsOf_pat] at hl
    have hxl : xs.length = 6 := hxl
    match xs, hxl with
    | [y0, y1, y2, y3, y4, y5], _ =>
    have h0 : DataW.trod enc Tryd.prog w base (fun _ => true) held n 3 ((cs.drop 0).take (Tryd.prog.cellsOf 3)) = some y0 := hf 0 _ rfl
    have h1 : DataW.trod enc Tryd.prog w base (fun _ => true) held n 24 ((cs.drop 1).take (Tryd.prog.cellsOf 24)) = some y1 := hf 1 _ rfl
    have h2 : DataW.trod enc Tryd.prog w base (fun _ => true) held n 4 ((cs.drop 3).take (Tryd.prog.cellsOf 4)) = some y2 := hf 2 _ rfl
    have h3 : DataW.trod enc Tryd.prog w base (fun _ => true) held n 3 ((cs.drop 4).take (Tryd.prog.cellsOf 3)) = some y3 := hf 3 _ rfl
    have h4 : DataW.trod enc Tryd.prog w base (fun _ => true) held n 3 ((cs.drop 5).take (Tryd.prog.cellsOf 3)) = some y4 := hf 4 _ rfl
    have h5 : DataW.trod enc Tryd.prog w base (fun _ => true) held n 25 ((cs.drop 6).take (Tryd.prog.cellsOf 25)) = some y5 := hf 5 _ rfl
    rw [cellsOf_int] at h0 h3 h4
    rw [cellsOf_bool] at h2
    rw [cellsOf_snd] at h1
    rw [cellsOf_pats] at h5
    match cs, hl with
    | [c0, c1, c2, c3, c4, c5, c6], _ =>
    obtain ⟨k, e0, _, _⟩ := DataW.trod_int Tryd.underlying3 h0
    obtain ⟨a, b, e1, ha, hb⟩ := trod_snd h1
    obtain ⟨nt, e2, _⟩ := DataW.trod_bool Tryd.underlying4 h2
    obtain ⟨mn, e3, _, _⟩ := DataW.trod_int Tryd.underlying3 h3
    obtain ⟨mx, e4, _, _⟩ := DataW.trod_int Tryd.underlying3 h4
    simp at e0 e1 e2 e3 e4
    obtain ⟨e1, e1'⟩ := e1
    subst e0 e1 e1' e2 e3 e4
    rcases DataW.trod_slice Tryd.underlying25 h5 with ⟨h, _⟩ | ⟨A, len, cap, elems, rest, n2, hn2, h, _, _, hlc, hcm, hel, hx, _, _⟩
    · simp at h
      subst h
      refine ⟨.node k a b nt mn mx [], ?_⟩
      unfold PatAt
      exact ⟨none, 0, rfl, ha, hb, by simp, by simp [maxLen], by unfold PatsAt; trivial⟩
    · simp at h
      subst h
      rw [cellsOf_pat] at hx
      have hsp : 0 < len → A.spot = none := by
        intro h0
        have key := hx 0 h0
        rw [List.getElem?_eq_getElem (by omega)] at key
        obtain ⟨cs', k1, k2⟩ := Option.bind_eq_some_iff.1 key
        obtain ⟨s1, _⟩ := cells_range (by decide) k1
        simpa [Addr.add] using s1
      have each : ∀ i, i < len → ∃ p : Pat × List Value, A.spot = none ∧ A.block < w.heap.size ∧ w.rangeAt A.block (A.off + i * 7) p.2 ∧ PatAt (fun g => g < w.heap.size) w p.1 p.2 := by
        intro i hi
        have key := hx i hi
        rw [List.getElem?_eq_getElem (by omega)] at key
        obtain ⟨cs', k1, k2⟩ := Option.bind_eq_some_iff.1 key
        obtain ⟨s1, s2, s3, s4⟩ := cells_range (by decide) k1
        have k3 := DataW.trod_le (show n2 ≤ n by omega) k2
        obtain ⟨p, hp⟩ := ih k3
        have hs := hsp (by omega)
        have e : A.add (i * 7) = ⟨A.block, A.off + i * 7, none⟩ := by
          obtain ⟨b, o, s⟩ := A
          simp only at hs
          subst hs
          exact add_plain _ _ _
        rw [e] at s2 s4
        exact ⟨(p, cs'), hs, s2, s4, hp⟩
      obtain ⟨f, hfp⟩ := Deep.choose_lt each
      refine ⟨.node k a b nt mn mx ((List.range len).map fun i => (f i).1), ?_⟩
      unfold PatAt
      refine ⟨some A, cap, by simp [patCells], ha, hb, by simpa using hlc, hcm, PatsAt.mk fun j hj => ?_⟩
      have hj' : j < len := by simpa using hj
      obtain ⟨q1, q2, q3, q4⟩ := hfp j hj'
      refine ⟨A.block, A.off, (f j).2, ?_, q2, q2, by rw [Nat.zero_add]; exact q3, by simpa using q4⟩
      obtain ⟨b, o, s⟩ := A
      simp only at q1
      subst q1; rfl

set_option maxRecDepth 100000 in
theorem open_pat (hval : Value.okWide Tryd.prog w r b0 27 v) (hd : DataW.Trod enc Tryd.prog w base (fun _ => true) held 27 v d ps) : ∃ (p : Pat) (cs : List Value), v = .agg cs.toArray ∧ PatAt (fun g => g < w.heap.size) w p cs := by
  have : ∃ cs, v = .agg cs ∧ cs.size = Tryd.prog.cellsOf 27 := by
    unfold Value.okWide at hval
    rw [Tryd.underlying27] at hval
    obtain ⟨cs, h1, h2, _⟩ := hval
    exact ⟨cs, h1, h2⟩
  obtain ⟨cs, rfl, hs⟩ := this
  obtain ⟨fuel, hf⟩ := hd
  obtain ⟨p, hp⟩ := trod_pat fuel hf
  exact ⟨p, cs.toList, by simp, by simpa [Value.cells] using hp⟩
end
end Go.Proofs.YtapfoaiibjdfnaaDoor
