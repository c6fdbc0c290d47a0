/- ablautlaw06.ends: the table of the ends. -/
import Derived.Test.YtapfoaiibjdfnaaDoorGrid
import Derived.Test.YtapfoaiibjdfnaaDoorPatLaw
import Derived.Test.YtapfoaiibjdfnaaDoorEnds
import Derived.Test.YtapfoaiibjdfnaaDoorPlaces
namespace Go.Proofs.YtapfoaiibjdfnaaDoor
open Go.RowKit Go.Ab
attribute [local go_sem] Oper.semAt_some wide_fn wide_depth

theorem Tryd.infoBool : (Tryd.prog.info? 4).map (fun i => (i.zero, i.size, i.bytes)) = some (some (.bool false), 1, 1) := by kernel_rfl
theorem Tryd.infoBools : (Tryd.prog.info? 46).map (fun i => (i.zero, i.size, i.bytes)) = some (some (.slice none 0 0), 1, 24) := by kernel_rfl

structure Ups (n k : Nat) (R : Nat → Bool) (L : List Nat) : Prop where
  at_ : ∀ i (h : i < L.length), k ≤ L[i] ∧ L[i] ≤ n
  lt : ∀ i (h : i + 1 < L.length), L[i] < L[i + 1]
  len : L.length ≤ n + 1
  any : ∀ b, b ≤ n → (L.any (· == b)) = R b
theorem ups_filter {n k : Nat} {R : Bin2} (hm : Mono n R) : Ups n k (R k) ((List.range (n + 1)).filter fun b => R k b) := by
  have hmem : ∀ x, x ∈ (List.range (n + 1)).filter (fun b => R k b) ↔ x < n + 1 ∧ R k x = true := fun x => by rw [List.mem_filter, List.mem_range]
  refine ⟨fun i h => ?_, fun i h => ?_, ?_, fun b hb => ?_⟩
  · have := (hmem _).1 (List.getElem_mem h)
    have := hm _ _ this.2
    omega
  · have := (List.pairwise_lt_range (n := n + 1)).filter (fun b => R k b)
    exact List.pairwise_iff_getElem.1 this i (i + 1) (by omega) h (by omega)
  · have := List.length_filter_le (fun b => R k b) (List.range (n + 1))
    simpa using this
  · apply Bool.eq_iff_iff.2
    rw [List.any_eq_true]
    constructor
    · rintro ⟨x, hx, e⟩
      have := (hmem x).1 hx
      have e : x = b := by simpa using e
      rw [← e]; exact this.2
    · intro h
      exact ⟨b, (hmem b).2 ⟨by omega, h⟩, by simp⟩
theorem ups_take {L : List Nat} {i : Nat} (h : i < L.length) (b : Nat) : (L.take (i + 1)).any (· == b) = ((L.take i).any (· == b) || b == L[i]) := by
  rw [List.take_succ_eq_append_getElem h, List.any_append]
  simp only [List.any_cons, List.any_nil, Bool.or_false]
  rw [show (L[i] == b) = (b == L[i]) by apply Bool.eq_iff_iff.2; rw [beq_iff_eq, beq_iff_eq]; exact eq_comm]
theorem endL_good {p : Pat} {ws : Wd} (h : relE p ws = 0) {k : Nat} (hk : k ≤ ws.length) : placeE p ws k = 0 ∧ endL p ws k = (List.range (ws.length + 1)).filter (fun b => relP ws p k b) := by
  have h1 : placeE p ws k = 0 := by
    unfold placeE
    rw [if_pos h]
    unfold exE
    rw [if_neg (by omega)]
  refine ⟨h1, ?_⟩
  unfold endL
  rw [if_pos h1, relR_good h, show ((k : Int)).toNat = k by omega]

set_option maxRecDepth 100000 in
set_option maxHeartbeats 8000000 in
theorem outs_any {K : Nat → Prop} {w : World} {p : Pat} {cs : List Value} {v : Value} {ws : Wd} (hp : PatAt K w p cs) (hK : ∀ g, K g → g < w.heap.size) (hv : WordAt w v ws) (hT : Tab w) (hok : relE p ws = 0) :
    Calls Tryd.prog 27 #[.agg cs.toArray, v] w fun e w' => ∃ u, e = .returned (.tuple #[u, .bool true]) ∧ Grid w' u (ws.length + 1) (ws.length + 1) (relP ws p) ∧ Ext w w' := by
  have hen0 := fun (V : World) (k : Nat) (hk : k ≤ ws.length) (hE : Ext w V) => ends_any (K := K) (hp.ext hE) (fun g hg => Nat.lt_of_lt_of_le (hK g hg) hE.size) (hv.ext hE) (hT.keep hE id) (k : Int)
  have hen : ∀ (V : World) (k : Nat), k ≤ ws.length → Ext w V → Calls Tryd.prog 15 #[.agg cs.toArray, v, .int .i64 k] V fun e w' => ∃ u L, e = .returned (.tuple #[u, .int .i64 0]) ∧ Ups ws.length k (relP ws p k) L ∧ w'.ownsRow V.heap.size 3 1 u L.length (natV L) ∧ Ext V w' := by
    intro V k hk hE
    refine (hen0 V k hk hE).mono ?_
    rintro e w' ⟨u, he, h1, h2⟩
    obtain ⟨g1, g2⟩ := endL_good hok hk
    rw [g2] at h1
    exact ⟨u, _, by rw [he, g1], ups_filter (relP_mono ws p), h1, h2⟩
  clear hen0
  obtain ⟨ao, cap, rfl, hlc, hcm, _⟩ := patAt_cells hp
  obtain ⟨bo, bcap, rfl, hbm⟩ := hv.slice
  have hn : ws.length ≤ 32 := (relE_zero.1 hok).2.1
  clear hp hlc hcm hv hT hK hok
  obtain ⟨n, hN⟩ : ∃ n, ws.length = n := ⟨_, rfl⟩
  obtain ⟨R, hR⟩ : ∃ R, relP ws p = R := ⟨_, rfl⟩
  have HEN := Lib.hid hen
  rw [hN, hR] at HEN
  rw [hN] at hbm hn ⊢
  rw [hR]
  clear hen hN hR
  unfold patCells at HEN ⊢
  go_enter Tryd.func27, Tryd.ntmps27
  go_wp2
  have hx0 : (w.alloc (.cells #[.int .i64 p.k, .int .u32 (p.pl : Int), .int .u32 (p.mi : Int), .bool p.nt, .int .i64 p.mn, .int .i64 p.mx, .slice ao p.l.length cap] 27)).heap[w.heap.size]? = some (.cells #[.int .i64 p.k, .int .u32 (p.pl : Int), .int .u32 (p.mi : Int), .bool p.nt, .int .i64 p.mn, .int .i64 p.mx, .slice ao p.l.length cap] 27 (0, 0)) := new_at rfl
  have hE0 : Ext w (w.alloc (.cells #[.int .i64 p.k, .int .u32 (p.pl : Int), .int .u32 (p.mi : Int), .bool p.nt, .int .i64 p.mn, .int .i64 p.mx, .slice ao p.l.length cap] 27)) := (Turn.refl _ w).alloc _
  generalize (w.alloc (.cells #[.int .i64 p.k, .int .u32 (p.pl : Int), .int .u32 (p.mi : Int), .bool p.nt, .int .i64 p.mn, .int .i64 p.mx, .slice ao p.l.length cap] 27)) = w1 at hx0 hE0 ⊢
  obtain ⟨B, hB⟩ : ∃ B, w.heap.size = B := ⟨_, rfl⟩
  rw [hB] at hx0 ⊢
  have hB1 : B < w1.heap.size := (Array.getElem?_eq_some_iff.1 hx0).1
  obtain ⟨B1, hB1'⟩ : ∃ B1, w1.heap.size = B1 := ⟨_, rfl⟩
  have HB1 := Lib.hid hB1'
  rw [hB1'] at hB1
  clear hB hB1'
  have HX := Lib.hid hx0
  clear hx0
  refine wp_loop (fun a W => ∃ (k : Nat) (v6 : Value), k ≤ n + 1 ∧ a.defers = [] ∧ (a.tmps.size = 79 ∧ a.tmps.getD 1 undef = .slice bo n bcap ∧ a.tmps.getD 2 undef = .pointer (some ⟨B, 0, none⟩) ∧ a.tmps.getD 6 undef = v6 ∧ a.tmps.getD 7 undef = .int .i64 k) ∧ Built W B1 46 4 v6 k (n + 1) R ∧ Ext w1 W)
    (fun a _ => n + 1 - (intOf (a.tmps.getD 7 undef)).toNat) ?_ ?_
  · exact ⟨0, _, by omega, rfl, ⟨rfl, rfl, rfl, rfl, rfl⟩, Built.nil _ _ _ _ _ _, Turn.refl _ _⟩
  rintro ⟨t, _⟩ W ⟨k, v6, hk, hds, ⟨hsz, f1, f2, f6, f7⟩, hBu, hE⟩
  subst hds
  obtain ⟨u', hu⟩ := frame_fun hsz
  obtain ⟨u, rfl⟩ : ∃ x, x = u' := ⟨_, rfl⟩
  have hu' : t = #[u 0, u 1, u 2, u 3, u 4, u 5, u 6, u 7, u 8, u 9, u 10, u 11, u 12, u 13, u 14, u 15, u 16, u 17, u 18, u 19, u 20, u 21, u 22, u 23, u 24, u 25, u 26, u 27, u 28, u 29, u 30, u 31, u 32, u 33, u 34, u 35, u 36, u 37, u 38, u 39, u 40, u 41, u 42, u 43, u 44, u 45, u 46, u 47, u 48, u 49, u 50, u 51, u 52, u 53, u 54, u 55, u 56, u 57, u 58, u 59, u 60, u 61, u 62, u 63, u 64, u 65, u 66, u 67, u 68, u 69, u 70, u 71, u 72, u 73, u 74, u 75, u 76, u 77, u 78] := hu
  clear hu
  subst hu'
  change u 1 = _ at f1
  change u 2 = _ at f2
  change u 6 = _ at f6
  change u 7 = _ at f7
  rw [f1, f2, f6, f7]
  clear f1 f2 f6 f7 hsz
  have HBU := Lib.hid hBu
  clear hBu
  by_cases hkn : k < n + 1
  · have h1 : (k : Int) ≤ (n : Int) := by omega
    have hx := hE.keep HX.out
    have cX := fun j => cell_of_row _ _ j _ _ _ hx
    go_wp2_with fail
    refine (HEN.out W k (by omega) (hE0.trans hE)).mono ?_
    rintro e w2 ⟨u8, L, rfl, hL, hO, hE2⟩
    have hE12 := hE.trans hE2
    have hrd := Rd.of_own hO
    obtain ⟨a8, c8, rfl, hl8, hcell⟩ := Rd.int hrd
    have hBu2 := HBU.out.ext hE2
    have hsz1 : B1 ≤ w2.heap.size := by have := hE12.size; have := HB1.out; omega
    obtain ⟨Ln, hLn⟩ : ∃ Ln, L.length = Ln := ⟨_, rfl⟩
    have hlen := hL.len
    have HL := Lib.hid hL
    have HCELL := Lib.hid hcell
    have HLN := Lib.hid hLn
    have HB2 := Lib.hid hBu2
    rw [hLn] at hl8 hlen ⊢
    clear hx cX hO hrd hcell hLn hL HBU hBu2 hE hE2 hl8
    go_wp2_with (at_make; refine make_row1 rfl (.tmp 27) (.tmp 27) 46 rfl w2.heap.size 4 _ 1 Tryd.underlying46 Tryd.infoBool rfl .i64 .i64 ((n : Int) + 1) ((n : Int) + 1) (n + 1) rfl rfl (by omega) (by omega) ?c1 ?c2 (Nat.le_refl _) ?_)
    case c1 => omega
    case c2 => unfold maxLen; omega
    intro w3 hO3 hE3
    obtain ⟨r, hr⟩ : ∃ r, w2.heap.size = r := ⟨_, rfl⟩
    rw [hr] at hO3 hsz1 ⊢
    rw [boolV_false, show boolV (n + 1) (fun _ => false) = boolV (n + 1) (fun b => (L.take 0).any (· == b)) from rfl] at hO3
    have hr3 : r < w3.heap.size := (hO3.lt _ rfl).2
    have HR2 := Lib.hid hr
    clear hr
    go_wp2
    refine wp_loop (fun a V => ∃ (i : Nat), i ≤ Ln ∧ a.defers = [] ∧ (a.tmps.size = 79 ∧ a.tmps.getD 1 undef = .slice bo n bcap ∧ a.tmps.getD 2 undef = .pointer (some ⟨B, 0, none⟩) ∧ a.tmps.getD 6 undef = v6 ∧ a.tmps.getD 7 undef = .int .i64 k ∧ a.tmps.getD 8 undef = .slice a8 Ln c8 ∧ a.tmps.getD 9 undef = .int .i64 0 ∧ a.tmps.getD 10 undef = .slice (some ⟨r, 0, none⟩) (n + 1) (n + 1) ∧ a.tmps.getD 11 undef = .int .i64 i) ∧ V.ownsRow r 4 1 (.slice (some ⟨r, 0, none⟩) (n + 1) (n + 1)) (n + 1) (boolV (n + 1) (fun b => (L.take i).any (· == b))) ∧ Ext w2 V)
      (fun a _ => Ln - (intOf (a.tmps.getD 11 undef)).toNat) ?_ ?_
    · exact ⟨0, by omega, rfl, ⟨rfl, rfl, rfl, rfl, rfl, rfl, rfl, rfl, rfl⟩, hO3, hE3⟩
    clear hO3 hE3 hr3
    rintro ⟨t, _⟩ V ⟨i, hi, hds, ⟨hsz, f1, f2, f6, f7, f8, f9, f10, f11⟩, hO, hE⟩
    subst hds
    obtain ⟨u', hu⟩ := frame_fun hsz
    obtain ⟨u, rfl⟩ : ∃ x, x = u' := ⟨_, rfl⟩
    have hu' : t = #[u 0, u 1, u 2, u 3, u 4, u 5, u 6, u 7, u 8, u 9, u 10, u 11, u 12, u 13, u 14, u 15, u 16, u 17, u 18, u 19, u 20, u 21, u 22, u 23, u 24, u 25, u 26, u 27, u 28, u 29, u 30, u 31, u 32, u 33, u 34, u 35, u 36, u 37, u 38, u 39, u 40, u 41, u 42, u 43, u 44, u 45, u 46, u 47, u 48, u 49, u 50, u 51, u 52, u 53, u 54, u 55, u 56, u 57, u 58, u 59, u 60, u 61, u 62, u 63, u 64, u 65, u 66, u 67, u 68, u 69, u 70, u 71, u 72, u 73, u 74, u 75, u 76, u 77, u 78] := hu
    clear hu
    subst hu'
    change u 1 = _ at f1
    change u 2 = _ at f2
    change u 6 = _ at f6
    change u 7 = _ at f7
    change u 8 = _ at f8
    change u 9 = _ at f9
    change u 10 = _ at f10
    change u 11 = _ at f11
    rw [f1, f2, f6, f7, f8, f9, f10, f11]
    clear f1 f2 f6 f7 f8 f9 f10 f11 hsz
    have HO := Lib.hid hO
    by_cases hin : i < Ln
    · have h1 : (i : Int) < (Ln : Int) := by omega
      have hiL : i < L.length := by rw [HLN.out]; exact hin
      obtain ⟨g, off, rfl, d1⟩ := HCELL.out i hiL
      have c1 := hE.cell_some d1 id
      obtain ⟨b1, b2⟩ := HL.out.at_ i hiL
      have htk := ups_take hiL
      obtain ⟨x, hx⟩ : ∃ x, L[i] = x := ⟨_, rfl⟩
      have hpre : 0 < i → ∃ y : Nat, y < x ∧ V.cell? ⟨g, off + (i - 1), none⟩ = some (.int .i64 y) := by
        intro h0
        obtain ⟨g', off', e, d2⟩ := HCELL.out (i - 1) (by omega)
        simp only [Option.some.injEq, Addr.mk.injEq] at e
        obtain ⟨rfl, rfl, _⟩ := e
        refine ⟨_, ?_, hE.cell_some d2 id⟩
        have := HL.out.lt (i - 1) (by omega)
        simp only [show i - 1 + 1 = i by omega] at this
        rw [← hx]; exact this
      rw [hx] at c1 b1 b2 htk
      have HTK := Lib.hid htk
      have HP := Lib.hid hpre
      have hcr : ∀ x, x < n + 1 → V.cell? ⟨r, x, none⟩ = some (.bool ((L.take i).any (· == x))) ∧ V.frozen? ⟨r, x, none⟩ = false := fun x hx => ⟨by rw [HO.out.cellAt x (by omega), boolV_get _ hx], HO.out.frozenAt x⟩
      obtain ⟨c2, c3⟩ := hcr x (by omega)
      clear hpre htk hx d1 hcr hO
      have g1 : ¬ ((x : Int) < (k : Int)) := by omega
      have g2 : ¬ ((n : Int) < (x : Int)) := by omega
      have g3 : (x : Int) < (n : Int) + 1 := by omega
      have g1' : ¬ x < k := by omega
      have g2' : ¬ n < x := by omega
      have hnew : ∀ m, ((V.drewN m).setCell ⟨r, x, none⟩ (.bool true)).ownsRow r 4 1 (.slice (some ⟨r, 0, none⟩) (n + 1) (n + 1)) (n + 1) (boolV (n + 1) (fun b => (L.take (i + 1)).any (· == b))) ∧ Ext w2 ((V.drewN m).setCell ⟨r, x, none⟩ (.bool true)) := by
        intro m
        constructor
        · have h1 := own_store (own_ext HO.out ((Turn.refl _ V).drewN m)) x (.bool true)
          rw [boolV_set] at h1
          rw [show (fun b => (L.take (i + 1)).any (· == b)) = (fun j => (L.take i).any (· == j) || j == x) from funext HTK.out]
          exact h1
        · exact (hE.drewN m).setCell (p := ⟨r, x, none⟩) (.inl (by rw [HR2.out]; exact Nat.le_refl r)) _
      have HNEW := Lib.hid hnew
      clear hnew HTK
      rcases i with _ | j
      · rw [Nat.add_zero] at c1
        clear HP
        go_wp2
        go_quiet (fail)
        go_wp2
        exact ⟨⟨1, by omega, by first | rfl | trivial, ⟨rfl, rfl, rfl, rfl, rfl, rfl, rfl, rfl, rfl⟩, (HNEW.out _).1, (HNEW.out _).2⟩, by simp [intOf]; omega⟩
      · obtain ⟨y, hy, c4⟩ := HP.out (by omega)
        rw [show j + 1 - 1 = j by omega] at c4
        have g4 : ¬ ((x : Int) ≤ (y : Int)) := by omega
        have g4' : ¬ x ≤ y := by omega
        have g5 : (0 : Int) ≤ (j : Int) + 1 := by omega
        have g6 : (0 : Int) < (j : Int) + 1 := by omega
        clear HP
        go_wp2
        go_quiet (fail)
        go_wp2
        exact ⟨⟨j + 2, by omega, by first | rfl | trivial, ⟨rfl, rfl, rfl, rfl, rfl, rfl, rfl, rfl, rfl⟩, (HNEW.out _).1, (HNEW.out _).2⟩, by simp [intOf]; omega⟩
    · obtain rfl : i = Ln := by omega
      have h1 : ¬ ((i : Int) < (i : Int)) := by omega
      have hfin : boolV (n + 1) (fun b => (L.take i).any (· == b)) = boolV (n + 1) (R k) := by
        refine List.map_congr_left fun b hb => ?_
        show Value.bool ((L.take i).any (· == b)) = Value.bool (R k b)
        rw [List.take_of_length_le (by rw [HLN.out]; exact Nat.le_refl _), HL.out.any b (by have := List.mem_range.1 hb; omega)]
      rw [hfin] at HO
      clear hfin hO
      obtain ⟨us, hU, hrows⟩ := (HB2.out.ext hE).ext ((Turn.refl _ V).alloc (.cells #[.slice (some ⟨r, 0, none⟩) (n + 1) (n + 1)] 46))
      have hr5 := own_base (own_ext HO.out ((Turn.refl _ V).alloc (.cells #[.slice (some ⟨r, 0, none⟩) (n + 1) (n + 1)] 46))) hsz1
      have hEV : Ext w1 (V.alloc (.cells #[.slice (some ⟨r, 0, none⟩) (n + 1) (n + 1)] 46)) := (hE12.trans hE).alloc _
      have hVB : B1 ≤ V.heap.size := by have := hE.size; have := HR2.out; omega
      have HU := Lib.hid hU; have HROWS := Lib.hid hrows
      clear hU hrows hE
      go_wp2_with (at_builtin; refine append_row rfl (.tmp 74) (.tmp 76) 43 rfl B1 46 _ 1 24 Tryd.underlying43 Tryd.infoBools rfl (by decide) _ _ _ rfl HU.out ⟨V.heap.size, 0, none⟩ 1 1 [.slice (some ⟨r, 0, none⟩) (n + 1) (n + 1)] rfl rfl (new_cells' rfl) ?d2 ?d3 ?d4 ?d5 ?_)
      case d2 => first | rfl | (intro u hu; simp at hu; rcases hu with rfl; rfl)
      case d3 => unfold maxLen; omega
      case d4 => omega
      case d5 => first | omega | (simp; omega)
      intro ao5 c5 w5 hO5 hT5 _
      have hE5 := hEV.after hT5 (fun b' h1 e => by have := (HU.out.lt _ e).1; have := HB1.out; omega)
      have hB5 := Built.snoc HU.out HROWS.out hr5 (by decide) hT5 hO5
      clear hT5 hO5 hr5 hEV
      go_wp2
      exact ⟨⟨k + 1, _, by omega, by first | rfl | trivial, ⟨rfl, rfl, rfl, rfl, rfl⟩, hB5, hE5⟩, by simp [intOf]; omega⟩
  · obtain rfl : k = n + 1 := by omega
    have h1 : ¬ (((n + 1 : Nat) : Int) ≤ (n : Int)) := by omega
    go_wp2
    exact bodyPost_ret (results_two rfl _ _ _) rfl ⟨_, rfl, HBU.out.grid, hE0.trans hE⟩
end Go.Proofs.YtapfoaiibjdfnaaDoor
