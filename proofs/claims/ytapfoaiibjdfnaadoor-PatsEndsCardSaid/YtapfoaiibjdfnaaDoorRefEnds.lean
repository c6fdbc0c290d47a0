/- ablautref06.Ends, Begins (printed by genrefends.py). -/
import Derived.Test.YtapfoaiibjdfnaaDoorTableC
import Derived.Test.YtapfoaiibjdfnaaDoorRefWalk
import Derived.Test.YtapfoaiibjdfnaaDoorEnds
namespace Go.Proofs.YtapfoaiibjdfnaaDoor
open Go.RowKit Go.Ab
attribute [local go_sem] Oper.semAt_some wide_fn wide_depth

set_option maxRecDepth 100000 in
set_option maxHeartbeats 8000000 in
theorem refends_any {K : Nat → Prop} {w : World} {p : Pat} {cs : List Value} {v : Value} {ws : Wd} (hp : PatAt K w p cs) (hv : WordAt w v ws) (at' : Int) :
    Calls Tryd.prog 16 #[.agg cs.toArray, v, .int .i64 at'] w fun e w' => ∃ u, e = .returned (.tuple #[u, .int .i64 (placeE p ws at')]) ∧ w'.ownsRow w.heap.size 3 1 u (endL p ws at').length (natV (endL p ws at')) ∧ Ext w w' := by
  have hbo := fun (V : World) (hE : Ext w V) => refboth_any (hp.ext hE) (hv.ext hE)
  have htb := fun (V : World) (hE : Ext w V) (h : relE p ws = 0) => table_all p K V cs v ws (hp.ext hE) (hv.ext hE) (relE_zero.1 h).2.1 (good_allN h)
  have hgd : relE p ws = 0 → relR p ws = relP ws p ∧ ws.length ≤ 32 := fun h => ⟨relR_good h, (relE_zero.1 h).2.1⟩
  obtain ⟨ao, cap, rfl, hlc, hcm, _⟩ := patAt_cells hp
  obtain ⟨bo, bcap, rfl, hbm⟩ := hv.slice
  have HBO := Lib.hid hbo; have HTB := Lib.hid htb; have HGD := Lib.hid hgd
  clear hp hlc hcm hv hbo htb hgd
  obtain ⟨z, hz⟩ : ∃ z, relE p ws = z := ⟨_, rfl⟩
  obtain ⟨n, hN⟩ : ∃ n, ws.length = n := ⟨_, rfl⟩
  obtain ⟨R, hR⟩ : ∃ R, relP ws p = R := ⟨_, rfl⟩
  have HP : Hid (placeE p ws at' = if z = 0 then exE n at' else z) := Lib.hid (by unfold placeE; rw [hz, hN])
  have HL : Hid (endL p ws at' = if placeE p ws at' = 0 then (List.range (n + 1)).filter (fun x => relR p ws at'.toNat x) else []) := Lib.hid (by unfold endL; rw [hN])
  rw [hz] at HBO HTB HGD
  rw [hR] at HTB HGD
  rw [hN] at HBO HTB HGD hbm ⊢
  clear hz hN hR
  unfold maxLen at hbm
  unfold patCells at HBO HTB ⊢
  go_enter Tryd.func16, Tryd.ntmps16
  go_wp2_with fail
  refine (HBO.out _ ((Turn.refl _ w).alloc _)).mono ?_
  rintro e w2 ⟨rfl, hE2⟩
  have hE02 : Ext w w2 := Turn.trans ((Turn.refl _ w).alloc _) hE2
  have hx : w2.heap[w.heap.size]? = some (.cells #[.int .i64 p.k, .int .u32 (p.pl : Int), .int .u32 (p.mi : Int), .bool p.nt, .int .i64 p.mn, .int .i64 p.mx, .slice ao p.l.length cap] 27 (0, 0)) := hE2.keep (new_at rfl)
  have cX := fun j => cell_of_row _ _ j _ _ _ hx
  clear hE2
  by_cases hz0 : z = 0
  case neg =>
    have gz : (z == 0) = false := by rw [beq_eq_false_iff_ne]; exact hz0
    rw [if_neg hz0] at HP
    have HL2 : Hid (endL p ws at' = []) := Lib.hid (by rw [HL.out, HP.out, if_neg hz0])
    clear hz0 cX hx
    go_wp2
    refine bodyPost_ret (results_two rfl _ _ _) rfl ⟨_, by rw [HP.out]; rfl, ?_, hE02⟩
    rw [HL2.out]
    exact World.ownsRow_nil _ _ _ _
  rw [if_pos hz0] at HP
  subst hz0
  obtain ⟨hrr, hn⟩ := HGD.out rfl
  rw [hrr] at HL
  clear hrr HGD
  by_cases hin : at' < 0 ∨ (n : Int) < at'
  · have hex : exE n at' = 3 := by unfold exE; rw [if_pos hin]
    rw [hex] at HP
    have HL2 : Hid (endL p ws at' = []) := Lib.hid (by rw [HL.out, HP.out, if_neg (by decide)])
    clear hex cX hx
    go_wp2
    all_goals
      refine bodyPost_ret (results_two rfl _ _ _) rfl ⟨_, by rw [HP.out]; rfl, ?_, hE02⟩
      rw [HL2.out]
      exact World.ownsRow_nil _ _ _ _
  have hex : exE n at' = 0 := by unfold exE; rw [if_neg hin]
  rw [hex] at HP
  obtain ⟨m, rfl⟩ : ∃ m : Nat, at' = m := ⟨at'.toNat, by omega⟩
  have HL2 : Hid (endL p ws m = (List.range (n + 1)).filter (fun x => R m x)) := Lib.hid (by rw [HL.out, HP.out]; rfl)
  have hmn : m ≤ n := by omega
  have g1 : ¬ ((m : Int) < 0) := by omega
  have g2 : ¬ ((n : Int) < (m : Int)) := by omega
  clear hex HL hin
  go_wp2_with fail
  refine (HTB.out _ hE02 (by first | rfl | trivial)).mono ?_
  rintro e w3 ⟨ut, rfl, hOt, hE3⟩
  obtain ⟨gt, ct, rfl, hgt, hct⟩ := RowsR.own hOt
  have hE03 := hE02.trans hE3
  have HCT := Lib.hid hct
  obtain ⟨B3, hB3⟩ : ∃ b, w3.heap.size = b := ⟨_, rfl⟩
  have HB3 := Lib.hid hB3
  have hB03 : w.heap.size ≤ B3 := by rw [← hB3]; exact hE03.size
  clear hB3
  clear hOt hE3 cX hx hE02 hct hgt
  go_wp2
  refine wp_loop (fun a W => ∃ (k : Nat) (v10 : Value), k ≤ n + 1 ∧ a.defers = [] ∧ (a.tmps.size = 48 ∧ a.tmps.getD 1 undef = .slice bo n bcap ∧ a.tmps.getD 2 undef = .int .i64 m ∧ a.tmps.getD 9 undef = .slice (some ⟨gt, 0, none⟩) (n + 1) ct ∧ a.tmps.getD 10 undef = v10 ∧ a.tmps.getD 11 undef = .int .i64 k) ∧ W.ownsRow B3 3 1 v10 ((List.range k).filter (fun x => R m x)).length (natV ((List.range k).filter (fun x => R m x))) ∧ Ext w3 W)
    (fun a _ => n + 1 - (intOf (a.tmps.getD 11 undef)).toNat) ?_ ?_
  · exact ⟨0, _, by omega, rfl, ⟨rfl, rfl, rfl, rfl, rfl, rfl⟩, World.ownsRow_nil _ _ _ _, Turn.refl _ _⟩
  rintro ⟨t, _⟩ W ⟨k, v10, hk, hds, ⟨hsz, f1, f2, f9, f10, f11⟩, hO, hE⟩
  subst hds
  obtain ⟨u', hu⟩ := frame_fun hsz
  obtain ⟨u, rfl⟩ : ∃ x, x = u' := ⟨_, rfl⟩
  have hu' : t = #[u 0, u 1, u 2, u 3, u 4, u 5, u 6, u 7, u 8, u 9, u 10, u 11, u 12, u 13, u 14, u 15, u 16, u 17, u 18, u 19, u 20, u 21, u 22, u 23, u 24, u 25, u 26, u 27, u 28, u 29, u 30, u 31, u 32, u 33, u 34, u 35, u 36, u 37, u 38, u 39, u 40, u 41, u 42, u 43, u 44, u 45, u 46, u 47] := hu
  clear hu
  subst hu'
  change u 1 = _ at f1
  change u 2 = _ at f2
  change u 9 = _ at f9
  change u 10 = _ at f10
  change u 11 = _ at f11
  rw [f1, f2, f9, f10, f11]
  clear f1 f2 f9 f10 f11 hsz
  by_cases hkn : k < n + 1
  · have h1 : (k : Int) ≤ (n : Int) := by omega
    have h2 : (m : Int) < (n : Int) + 1 := by omega
    have h3 : (k : Int) < 64 := by omega
    have h4 : (m : Int) < 64 := by omega
    have c0 := hE.cell_some (HCT.out m (by omega)) id
    have hl := rowM_lt R m
    have hb := bitR R m k (by omega)
    have hfil : (List.range (k + 1)).filter (fun x => R m x) = (List.range k).filter (fun x => R m x) ++ if R m k then [k] else [] := by
      rw [List.range_succ, List.filter_append]; cases hq : R m k <;> simp [hq]
    have hlen : ((List.range k).filter (fun x => R m x)).length ≤ 33 := by
      have := List.length_filter_le (fun x => R m x) (List.range k); simp at this; omega
    have HF := Lib.hid hfil
    obtain ⟨rw0, hrw⟩ : ∃ r, rowM R m = r := ⟨_, rfl⟩
    rw [hrw] at c0 hl hb
    clear hfil hrw
    obtain ⟨q, hq⟩ : ∃ q, R m k = q := ⟨_, rfl⟩
    rw [hq] at hb HF
    have HO := Lib.hid hO
    clear hq hO
    cases q
    · have hf := HF.out
      rw [if_neg (by decide), List.append_nil] at hf
      have HO2 := HO.out
      rw [← hf] at HO2
      have HO3 := Lib.hid HO2
      clear hf HO2
      go_wp2
      exact ⟨⟨k + 1, _, by omega, by first | rfl | trivial, ⟨rfl, rfl, rfl, rfl, rfl, rfl⟩, HO3.out, hE⟩, by simp [intOf]; omega⟩
    · have hwb : B3 ≤ W.heap.size := by have := hE.size; have := HB3.out; omega
      go_wp2_with (at_builtin; refine append_row rfl (.tmp 43) (.tmp 45) 30 rfl B3 3 _ 1 8 Tryd.underlying30 Tryd.infoI rfl (by decide) _ _ _ rfl (own_ext HO.out ((Turn.refl _ W).alloc _)) ⟨W.heap.size, 0, none⟩ 1 1 [.int .i64 k] rfl rfl (new_cells' rfl) ?c2 ?c3 ?c4 ?c5 ?_)
      case c2 => first | rfl | (intro u hu; simp at hu; rcases hu with rfl; rfl)
      case c3 => unfold maxLen; omega
      case c4 => omega
      case c5 => first | omega | (simp; omega)
      intro ao' c' w5 hO5 hT5 _
      have hT6 : Turn (fun b' => v10.ownBlock = some b') W w5 := Turn.trans (Turn.alloc (Turn.refl _ W) _) hT5
      have hE5 := hE.after hT6 (fun b' h1 e => by have := (HO.out.lt _ e).1; have := HB3.out; omega)
      have hf := HF.out
      simp only [if_true] at hf
      have hO6 : w5.ownsRow B3 3 1 (.slice ao' (((List.range k).filter (fun x => R m x)).length + 1) c') ((List.range (k + 1)).filter (fun x => R m x)).length (natV ((List.range (k + 1)).filter (fun x => R m x))) := by
        rw [hf, List.length_append, natV_append]
        exact hO5
      have HO6 := Lib.hid hO6
      clear hO5 hO6 hT5 hT6 hf
      go_wp2
      exact ⟨⟨k + 1, _, by omega, by first | rfl | trivial, ⟨rfl, rfl, rfl, rfl, rfl, rfl⟩, HO6.out, hE5⟩, by simp [intOf]; omega⟩
  · obtain rfl : k = n + 1 := by omega
    have h1 : ¬ (((n + 1 : Nat) : Int) ≤ (n : Int)) := by omega
    rw [← HL2.out] at hO
    have hO := own_base hO hB03
    have HO := Lib.hid hO
    clear hO
    go_wp2
    exact bodyPost_ret (results_two rfl _ _ _) rfl ⟨_, by rw [HP.out]; rfl, HO.out, hE03.trans hE⟩

set_option maxRecDepth 100000 in
set_option maxHeartbeats 8000000 in
theorem refbegins_any {K : Nat → Prop} {w : World} {p : Pat} {cs : List Value} {v : Value} {ws : Wd} (hp : PatAt K w p cs) (hv : WordAt w v ws) (at' : Int) :
    Calls Tryd.prog 18 #[.agg cs.toArray, v, .int .i64 at'] w fun e w' => ∃ u, e = .returned (.tuple #[u, .int .i64 (placeE p ws at')]) ∧ w'.ownsRow w.heap.size 3 1 u (begL p ws at').length (natV (begL p ws at')) ∧ Ext w w' := by
  have hbo := fun (V : World) (hE : Ext w V) => refboth_any (hp.ext hE) (hv.ext hE)
  have htb := fun (V : World) (hE : Ext w V) (h : relE p ws = 0) => table_all p K V cs v ws (hp.ext hE) (hv.ext hE) (relE_zero.1 h).2.1 (good_allN h)
  have hgd : relE p ws = 0 → relR p ws = relP ws p ∧ ws.length ≤ 32 := fun h => ⟨relR_good h, (relE_zero.1 h).2.1⟩
  obtain ⟨ao, cap, rfl, hlc, hcm, _⟩ := patAt_cells hp
  obtain ⟨bo, bcap, rfl, hbm⟩ := hv.slice
  have HBO := Lib.hid hbo; have HTB := Lib.hid htb; have HGD := Lib.hid hgd
  clear hp hlc hcm hv hbo htb hgd
  obtain ⟨z, hz⟩ : ∃ z, relE p ws = z := ⟨_, rfl⟩
  obtain ⟨n, hN⟩ : ∃ n, ws.length = n := ⟨_, rfl⟩
  obtain ⟨R, hR⟩ : ∃ R, relP ws p = R := ⟨_, rfl⟩
  have HP : Hid (placeE p ws at' = if z = 0 then exE n at' else z) := Lib.hid (by unfold placeE; rw [hz, hN])
  have HL : Hid (begL p ws at' = if placeE p ws at' = 0 then (List.range (n + 1)).filter (fun x => relR p ws x at'.toNat) else []) := Lib.hid (by unfold begL; rw [hN])
  rw [hz] at HBO HTB HGD
  rw [hR] at HTB HGD
  rw [hN] at HBO HTB HGD hbm ⊢
  clear hz hN hR
  unfold maxLen at hbm
  unfold patCells at HBO HTB ⊢
  go_enter Tryd.func18, Tryd.ntmps18
  go_wp2_with fail
  refine (HBO.out _ ((Turn.refl _ w).alloc _)).mono ?_
  rintro e w2 ⟨rfl, hE2⟩
  have hE02 : Ext w w2 := Turn.trans ((Turn.refl _ w).alloc _) hE2
  have hx : w2.heap[w.heap.size]? = some (.cells #[.int .i64 p.k, .int .u32 (p.pl : Int), .int .u32 (p.mi : Int), .bool p.nt, .int .i64 p.mn, .int .i64 p.mx, .slice ao p.l.length cap] 27 (0, 0)) := hE2.keep (new_at rfl)
  have cX := fun j => cell_of_row _ _ j _ _ _ hx
  clear hE2
  by_cases hz0 : z = 0
  case neg =>
    have gz : (z == 0) = false := by rw [beq_eq_false_iff_ne]; exact hz0
    rw [if_neg hz0] at HP
    have HL2 : Hid (begL p ws at' = []) := Lib.hid (by rw [HL.out, HP.out, if_neg hz0])
    clear hz0 cX hx
    go_wp2
    refine bodyPost_ret (results_two rfl _ _ _) rfl ⟨_, by rw [HP.out]; rfl, ?_, hE02⟩
    rw [HL2.out]
    exact World.ownsRow_nil _ _ _ _
  rw [if_pos hz0] at HP
  subst hz0
  obtain ⟨hrr, hn⟩ := HGD.out rfl
  rw [hrr] at HL
  clear hrr HGD
  by_cases hin : at' < 0 ∨ (n : Int) < at'
  · have hex : exE n at' = 3 := by unfold exE; rw [if_pos hin]
    rw [hex] at HP
    have HL2 : Hid (begL p ws at' = []) := Lib.hid (by rw [HL.out, HP.out, if_neg (by decide)])
    clear hex cX hx
    go_wp2
    all_goals
      refine bodyPost_ret (results_two rfl _ _ _) rfl ⟨_, by rw [HP.out]; rfl, ?_, hE02⟩
      rw [HL2.out]
      exact World.ownsRow_nil _ _ _ _
  have hex : exE n at' = 0 := by unfold exE; rw [if_neg hin]
  rw [hex] at HP
  obtain ⟨m, rfl⟩ : ∃ m : Nat, at' = m := ⟨at'.toNat, by omega⟩
  have HL2 : Hid (begL p ws m = (List.range (n + 1)).filter (fun x => R x m)) := Lib.hid (by rw [HL.out, HP.out]; rfl)
  have hmn : m ≤ n := by omega
  have g1 : ¬ ((m : Int) < 0) := by omega
  have g2 : ¬ ((n : Int) < (m : Int)) := by omega
  clear hex HL hin
  go_wp2_with fail
  refine (HTB.out _ hE02 (by first | rfl | trivial)).mono ?_
  rintro e w3 ⟨ut, rfl, hOt, hE3⟩
  obtain ⟨gt, ct, rfl, hgt, hct⟩ := RowsR.own hOt
  have hE03 := hE02.trans hE3
  have HCT := Lib.hid hct
  obtain ⟨B3, hB3⟩ : ∃ b, w3.heap.size = b := ⟨_, rfl⟩
  have HB3 := Lib.hid hB3
  have hB03 : w.heap.size ≤ B3 := by rw [← hB3]; exact hE03.size
  clear hB3
  clear hOt hE3 cX hx hE02 hct hgt
  go_wp2
  refine wp_loop (fun a W => ∃ (k : Nat) (v10 : Value), k ≤ n + 1 ∧ a.defers = [] ∧ (a.tmps.size = 48 ∧ a.tmps.getD 1 undef = .slice bo n bcap ∧ a.tmps.getD 2 undef = .int .i64 m ∧ a.tmps.getD 9 undef = .slice (some ⟨gt, 0, none⟩) (n + 1) ct ∧ a.tmps.getD 10 undef = v10 ∧ a.tmps.getD 11 undef = .int .i64 k) ∧ W.ownsRow B3 3 1 v10 ((List.range k).filter (fun x => R x m)).length (natV ((List.range k).filter (fun x => R x m))) ∧ Ext w3 W)
    (fun a _ => n + 1 - (intOf (a.tmps.getD 11 undef)).toNat) ?_ ?_
  · exact ⟨0, _, by omega, rfl, ⟨rfl, rfl, rfl, rfl, rfl, rfl⟩, World.ownsRow_nil _ _ _ _, Turn.refl _ _⟩
  rintro ⟨t, _⟩ W ⟨k, v10, hk, hds, ⟨hsz, f1, f2, f9, f10, f11⟩, hO, hE⟩
  subst hds
  obtain ⟨u', hu⟩ := frame_fun hsz
  obtain ⟨u, rfl⟩ : ∃ x, x = u' := ⟨_, rfl⟩
  have hu' : t = #[u 0, u 1, u 2, u 3, u 4, u 5, u 6, u 7, u 8, u 9, u 10, u 11, u 12, u 13, u 14, u 15, u 16, u 17, u 18, u 19, u 20, u 21, u 22, u 23, u 24, u 25, u 26, u 27, u 28, u 29, u 30, u 31, u 32, u 33, u 34, u 35, u 36, u 37, u 38, u 39, u 40, u 41, u 42, u 43, u 44, u 45, u 46, u 47] := hu
  clear hu
  subst hu'
  change u 1 = _ at f1
  change u 2 = _ at f2
  change u 9 = _ at f9
  change u 10 = _ at f10
  change u 11 = _ at f11
  rw [f1, f2, f9, f10, f11]
  clear f1 f2 f9 f10 f11 hsz
  by_cases hkn : k < n + 1
  · have h1 : (k : Int) ≤ (n : Int) := by omega
    have h2 : (k : Int) < (n : Int) + 1 := by omega
    have h3 : (k : Int) < 64 := by omega
    have h4 : (m : Int) < 64 := by omega
    have c0 := hE.cell_some (HCT.out k (by omega)) id
    have hl := rowM_lt R k
    have hb := bitR R k m (by omega)
    have hfil : (List.range (k + 1)).filter (fun x => R x m) = (List.range k).filter (fun x => R x m) ++ if R k m then [k] else [] := by
      rw [List.range_succ, List.filter_append]; cases hq : R k m <;> simp [hq]
    have hlen : ((List.range k).filter (fun x => R x m)).length ≤ 33 := by
      have := List.length_filter_le (fun x => R x m) (List.range k); simp at this; omega
    have HF := Lib.hid hfil
    obtain ⟨rw0, hrw⟩ : ∃ r, rowM R k = r := ⟨_, rfl⟩
    rw [hrw] at c0 hl hb
    clear hfil hrw
    obtain ⟨q, hq⟩ : ∃ q, R k m = q := ⟨_, rfl⟩
    rw [hq] at hb HF
    have HO := Lib.hid hO
    clear hq hO
    cases q
    · have hf := HF.out
      rw [if_neg (by decide), List.append_nil] at hf
      have HO2 := HO.out
      rw [← hf] at HO2
      have HO3 := Lib.hid HO2
      clear hf HO2
      go_wp2
      exact ⟨⟨k + 1, _, by omega, by first | rfl | trivial, ⟨rfl, rfl, rfl, rfl, rfl, rfl⟩, HO3.out, hE⟩, by simp [intOf]; omega⟩
    · have hwb : B3 ≤ W.heap.size := by have := hE.size; have := HB3.out; omega
      go_wp2_with (at_builtin; refine append_row rfl (.tmp 43) (.tmp 45) 30 rfl B3 3 _ 1 8 Tryd.underlying30 Tryd.infoI rfl (by decide) _ _ _ rfl (own_ext HO.out ((Turn.refl _ W).alloc _)) ⟨W.heap.size, 0, none⟩ 1 1 [.int .i64 k] rfl rfl (new_cells' rfl) ?c2 ?c3 ?c4 ?c5 ?_)
      case c2 => first | rfl | (intro u hu; simp at hu; rcases hu with rfl; rfl)
      case c3 => unfold maxLen; omega
      case c4 => omega
      case c5 => first | omega | (simp; omega)
      intro ao' c' w5 hO5 hT5 _
      have hT6 : Turn (fun b' => v10.ownBlock = some b') W w5 := Turn.trans (Turn.alloc (Turn.refl _ W) _) hT5
      have hE5 := hE.after hT6 (fun b' h1 e => by have := (HO.out.lt _ e).1; have := HB3.out; omega)
      have hf := HF.out
      simp only [if_true] at hf
      have hO6 : w5.ownsRow B3 3 1 (.slice ao' (((List.range k).filter (fun x => R x m)).length + 1) c') ((List.range (k + 1)).filter (fun x => R x m)).length (natV ((List.range (k + 1)).filter (fun x => R x m))) := by
        rw [hf, List.length_append, natV_append]
        exact hO5
      have HO6 := Lib.hid hO6
      clear hO5 hO6 hT5 hT6 hf
      go_wp2
      exact ⟨⟨k + 1, _, by omega, by first | rfl | trivial, ⟨rfl, rfl, rfl, rfl, rfl, rfl⟩, HO6.out, hE5⟩, by simp [intOf]; omega⟩
  · obtain rfl : k = n + 1 := by omega
    have h1 : ¬ (((n + 1 : Nat) : Int) ≤ (n : Int)) := by omega
    rw [← HL2.out] at hO
    have hO := own_base hO hB03
    have HO := Lib.hid hO
    clear hO
    go_wp2
    exact bodyPost_ret (results_two rfl _ _ _) rfl ⟨_, by rw [HP.out]; rfl, HO.out, hE03.trans hE⟩
end Go.Proofs.YtapfoaiibjdfnaaDoor
