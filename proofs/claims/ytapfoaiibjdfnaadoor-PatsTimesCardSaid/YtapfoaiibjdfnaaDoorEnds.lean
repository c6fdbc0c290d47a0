/- slices.Collect over a set; pats.Ends. -/
import Derived.Test.YtapfoaiibjdfnaaDoorCollect
namespace Go.Proofs.YtapfoaiibjdfnaaDoor
open Go.RowKit Go.Ab
attribute [local go_sem] Oper.semAt_some wide_fn wide_depth

theorem collect_any {w : World} {bx v : Nat} (hv : v < 18446744073709551616) (hbx : bx ≠ 0) (hb : SBox w bx v) (hT : Tab w) (hl : (evs v).length ≤ 64) :
    Calls Tryd.prog 49 #[.func (.func 71) #[] #[.pointer (some ⟨bx, 0, none⟩)]] w fun e w' => ∃ u, e = .returned u ∧ w'.ownsRow w.heap.size 3 1 u (evs v).length (natV (evs v)) ∧ Turn (· = bx) w w' := by
  go_enter Tryd.func49, Tryd.ntmps49
  go_wp2_with fail
  refine (append_seq hv hbx hb hT hl).mono ?_
  rintro e w2 ⟨u, rfl, h1, h2⟩
  go_wp2
  go_ret
  exact ⟨_, rfl, h1, h2⟩
theorem evs_row (R : Bin2) (a : Nat) : evs (rowM R a) = (List.range 33).filter (R a) := evs_rowM R a
/-- Nothing is matched beyond the word. -/
theorem rng_filter {R : Bin2} {a n : Nat} (hn : n ≤ 32) (hR : ∀ b, R a b = true → b ≤ n) : (List.range 33).filter (R a) = (List.range (n + 1)).filter (fun b => R a b) := by
  have e : List.range 33 = List.range (n + 1) ++ (List.range (32 - n)).map (n + 1 + ·) := by
    rw [← List.range_add, show n + 1 + (32 - n) = 33 by omega]
  rw [e, List.filter_append]
  have : ((List.range (32 - n)).map (n + 1 + ·)).filter (R a) = [] := by
    rw [List.filter_eq_nil_iff]
    intro x hx h
    obtain ⟨i, _, rfl⟩ := List.mem_map.1 hx
    have := hR _ h
    omega
  rw [this, List.append_nil]

set_option maxRecDepth 100000 in
set_option maxHeartbeats 8000000 in
theorem ends_any {K : Nat → Prop} {w : World} {p : Pat} {cs : List Value} {v : Value} {ws : Wd} (hp : PatAt K w p cs) (hK : ∀ g, K g → g < w.heap.size) (hv : WordAt w v ws) (hT : Tab w) (at' : Int) :
    Calls Tryd.prog 15 #[.agg cs.toArray, v, .int .i64 at'] w fun e w' => ∃ u, e = .returned (.tuple #[u, .int .i64 (placeE p ws at')]) ∧ w'.ownsRow w.heap.size 3 1 u (endL p ws at').length (natV (endL p ws at')) ∧ Ext w w' := by
  have hmono : Mono ws.length (relR p ws) := by
    unfold relR
    split
    · exact relP_mono ws p
    · exact Mono.no _
  have HT := Lib.hid hT
  have hre := fun (V : World) (hE : Ext w V) => relate_any (K := K) (hp.ext hE) (fun g hg => Nat.lt_of_lt_of_le (hK g hg) hE.size) (hv.ext hE) (hT.keep hE id)
  obtain ⟨ao, cap, rfl, hlc, hcm, _⟩ := patAt_cells hp
  obtain ⟨bo, bcap, rfl, hbm⟩ := hv.slice
  clear hp hlc hcm hv hT hK
  have HRE := Lib.hid hre
  clear hre
  obtain ⟨z, hz⟩ : ∃ z, relE p ws = z := ⟨_, rfl⟩
  obtain ⟨R, hR⟩ : ∃ R, relR p ws = R := ⟨_, rfl⟩
  obtain ⟨n, hN⟩ : ∃ n, ws.length = n := ⟨_, rfl⟩
  have HP : Hid (placeE p ws at' = if z = 0 then exE n at' else z) := Lib.hid (by unfold placeE; rw [hz, hN])
  have HL : Hid (endL p ws at' = if placeE p ws at' = 0 then (List.range (n + 1)).filter (fun b => R at'.toNat b) else []) := Lib.hid (by unfold endL; rw [hR, hN])
  have hn32 : z = 0 → n ≤ 32 := fun h => by
    subst hz; subst hN
    exact relE_len h
  rw [hz] at HRE
  rw [hR] at HRE hmono
  rw [hN] at HRE hbm hmono ⊢
  have HMO := Lib.hid hmono
  clear hmono
  clear hz hR hN
  have HNL := Lib.hid hn32
  clear hn32
  unfold patCells at HRE ⊢
  have z1 := zero_rel
  have z2 := relArr_size noB
  have z3 := relArr_ne noB
  go_enter Tryd.func15, Tryd.ntmps15
  go_wp2_with fail
  refine (HRE.out _ ((Turn.refl _ w).alloc _)).mono ?_
  rintro e w2 ⟨rfl, hE2⟩
  have hE02 : Ext w w2 := Turn.trans ((Turn.refl _ w).alloc _) hE2
  clear hE2
  have hR0 : (w2.alloc (.cells (relArr noB) 68)).heap[w2.heap.size]? = some (.cells (relArr noB) 68 (0, 0)) := new_at rfl
  have hR3 : RowsAt ((w2.alloc (.cells (relArr noB) 68)).setRow w2.heap.size (rowArr (rowM R))) w2.heap.size (rowM R) := setRow_heap _ _ _ _ _ _ hR0
  have hE3 : Ext w ((w2.alloc (.cells (relArr noB) 68)).setRow w2.heap.size (rowArr (rowM R))) := hE02.trans (((Turn.refl _ w2).alloc _).after (Turn.setRow _ _ _) (fun b' h1 h2 => by omega))
  go_upto_region 2 with (refine wpList_store_row rfl 68 (.tmp 8) (.tmp 14) rfl w2.heap.size (rowArr (rowM R)) rfl rfl _ _ hR0 (Tryd.relInfo _) (by rw [relArr_size, rowArr_size]) (rowArr_one _) ?_)
  generalize ((w2.alloc (.cells (relArr noB) 68)).setRow w2.heap.size (rowArr (rowM R))) = w3 at hR3 hE3 ⊢
  generalize w2.heap.size = b at hR3 ⊢
  clear hR0 hE02 z1 z2 z3
  by_cases hz0 : z = 0
  · have hn := HNL.out hz0
    rw [if_pos hz0] at HP
    subst hz0
    go_wp2_with fail
    refine (exists_any _ _ _ _ _).mono ?_
    rintro e w4 ⟨rfl, rfl⟩
    by_cases hin : at' < 0 ∨ (n : Int) < at'
    · have hex : exE n at' = 3 := by unfold exE; rw [if_pos hin]
      rw [hex] at HP ⊢
      clear hex
      go_wp2
      refine bodyPost_ret (results_two rfl _ _ _) rfl ⟨_, by rw [HP.out]; rfl, ?_, hE3⟩
      rw [HL.out, HP.out, if_neg (by decide)]
      exact World.ownsRow_nil _ _ _ _
    · have hex : exE n at' = 0 := by unfold exE; rw [if_neg hin]
      rw [hex] at HP ⊢
      obtain ⟨m, rfl⟩ : ∃ m : Nat, at' = m := ⟨at'.toNat, by omega⟩
      have HL2 : Hid (endL p ws m = (List.range (n + 1)).filter (fun b => R m b)) := Lib.hid (by rw [HL.out, HP.out]; rfl)
      have hmn : m ≤ n := by omega
      have c0 := hR3.cell (a := m) (by omega)
      have hl := rowM_lt R m
      have hrg : (List.range 33).filter (R m) = (List.range (n + 1)).filter (fun b => R m b) := rng_filter hn (fun b hb => (HMO.out m b hb).2)
      have HRG := Lib.hid hrg
      clear hex HL hin hrg
      go_wp2_with (go_at_call 50; refine (all_any _ _).mono ?_; rintro e w' ⟨rfl, rfl⟩)
      have hTl := tab_lt HT.out
      have hs4 := hE3.size
      have hE4 : Ext w (w4.alloc (.cells #[.int .u64 (rowM R m : Int)] 66)) := Turn.alloc hE3 _
      have hlen : (evs (rowM R m)).length ≤ 64 := by
        rw [evs_row]
        have := List.length_filter_le (R m) (List.range 33)
        simp at this
        omega
      refine (collect_any (v := rowM R m) (bx := w4.heap.size) (by omega) (by omega) (new_at rfl) (HT.out.keep hE4 id) hlen).mono ?_
      rintro e w6 ⟨u, rfl, hO6, hT6⟩
      rw [evs_row, HRG.out, ← HL2.out] at hO6
      have hE6 : Ext w w6 := hE4.after hT6 (fun b' h1 h2 => by omega)
      have hO7 := own_base hO6 hE4.size
      clear hO6 hT6 hE4 hlen
      go_wp2
      exact bodyPost_ret (results_two rfl _ _ _) rfl ⟨_, by rw [HP.out]; rfl, hO7, hE6⟩
  · have hz1 : (z == 0) = false := by rw [beq_eq_false_iff_ne]; exact hz0
    rw [if_neg hz0] at HP
    go_wp2
    refine bodyPost_ret (results_two rfl _ _ _) rfl ⟨_, by rw [HP.out]; rfl, ?_, hE3⟩
    rw [HL.out, HP.out, if_neg hz0]
    exact World.ownsRow_nil _ _ _ _
end Go.Proofs.YtapfoaiibjdfnaaDoor
