/- ablautref06.Matches, Find; ablautref02.Copy, Equal (printed by genreffind.py). -/
import Derived.Test.YtapfoaiibjdfnaaDoorTableC
import Derived.Test.YtapfoaiibjdfnaaDoorRefWalk
import Derived.Test.YtapfoaiibjdfnaaDoorFind
namespace Go.Proofs.YtapfoaiibjdfnaaDoor
open Go.RowKit Go.Ab
attribute [local go_sem] Oper.semAt_some wide_fn wide_depth

theorem findIs_unique {R : Bin2} {n m : Nat} (_hR : Mono n R) {x y x' y' : Int} {ok ok' : Bool} (h : FindIs R n m x y ok) (h' : FindIs R n m x' y' ok') : x = x' ∧ y = y' ∧ ok = ok' := by
  rcases h with ⟨rfl, rfl, rfl, h1⟩ | ⟨rfl, a, b, rfl, rfl, h2, h3, h4, h5, h6⟩
  · rcases h' with ⟨rfl, rfl, rfl, _⟩ | ⟨rfl, a', b', rfl, rfl, k2, k3, k4, _, _⟩
    · exact ⟨rfl, rfl, rfl⟩
    · rw [h1 a' b' k2 k3] at k4; cases k4
  · rcases h' with ⟨rfl, rfl, rfl, k1⟩ | ⟨rfl, a', b', rfl, rfl, k2, k3, k4, k5, k6⟩
    · rw [k1 a b h2 h3] at h4; cases h4
    · have e1 : a = a' := by
        rcases Nat.lt_trichotomy a a' with h | h | h
        · rw [k5 a b h2 h] at h4; cases h4
        · exact h
        · rw [h5 a' b' k2 h] at k4; cases k4
      subst e1
      have := h6 b' k4
      have := k6 b h4
      have e2 : b = b' := by omega
      subst e2
      exact ⟨rfl, rfl, rfl⟩

set_option maxRecDepth 100000 in
set_option maxHeartbeats 8000000 in
theorem refmatches_any {K : Nat → Prop} {w : World} {p : Pat} {cs : List Value} {v : Value} {ws : Wd} (hp : PatAt K w p cs) (hv : WordAt w v ws) :
    Calls Tryd.prog 22 #[.agg cs.toArray, v] w fun e w' => e = .returned (.tuple #[.bool (matV p ws), .int .i64 (relE p ws)]) ∧ Ext w w' := by
  have hbo := fun (V : World) (hE : Ext w V) => refboth_any (hp.ext hE) (hv.ext hE)
  have htb := fun (V : World) (hE : Ext w V) (h : relE p ws = 0) => table_all p K V cs v ws (hp.ext hE) (hv.ext hE) (relE_zero.1 h).2.1 (good_allN h)
  have hgd : relE p ws = 0 → relR p ws = relP ws p ∧ ws.length ≤ 32 ∧ Mono ws.length (relP ws p) := fun h => ⟨relR_good h, (relE_zero.1 h).2.1, relP_mono ws p⟩
  obtain ⟨ao, cap, rfl, hlc, hcm, _⟩ := patAt_cells hp
  obtain ⟨bo, bcap, rfl, hbm⟩ := hv.slice
  have HBO := Lib.hid hbo; have HTB := Lib.hid htb; have HGD := Lib.hid hgd
  clear hp hlc hcm hv hbo htb hgd
  obtain ⟨z, hz⟩ : ∃ z, relE p ws = z := ⟨_, rfl⟩
  obtain ⟨n, hN⟩ : ∃ n, ws.length = n := ⟨_, rfl⟩
  obtain ⟨R, hR⟩ : ∃ R, relP ws p = R := ⟨_, rfl⟩
  have HM : Hid (matV p ws = (decide (z = 0) && relR p ws 0 n)) := Lib.hid (by unfold matV; rw [hz, hN])
  rw [hz] at HBO HTB HGD ⊢
  rw [hR] at HTB HGD
  rw [hN] at HBO HTB HGD hbm ⊢
  clear hz hN hR
  unfold maxLen at hbm
  unfold patCells at HBO HTB ⊢
  obtain ⟨mv, hmv⟩ : ∃ b, matV p ws = b := ⟨_, rfl⟩
  rw [hmv] at HM ⊢
  clear hmv
  go_enter Tryd.func22, Tryd.ntmps22
  go_wp2_with fail
  refine (HBO.out _ ((Turn.refl _ w).alloc _)).mono ?_
  rintro e w2 ⟨rfl, hE2⟩
  have hE02 : Ext w w2 := Turn.trans ((Turn.refl _ w).alloc _) hE2
  have hx : w2.heap[w.heap.size]? = some (.cells #[.int .i64 p.k, .int .u32 (p.pl : Int), .int .u32 (p.mi : Int), .bool p.nt, .int .i64 p.mn, .int .i64 p.mx, .slice ao p.l.length cap] 27 (0, 0)) := hE2.keep (new_at rfl)
  have cX := fun j => cell_of_row _ _ j _ _ _ hx
  clear hE2
  by_cases hz0 : z = 0
  case neg =>
    have gz : (z == 0) = false := by rw [beq_eq_false_iff_ne]; exact hz0
    have hm : mv = false := by rw [HM.out, decide_eq_false hz0, Bool.false_and]
    subst hm
    clear hz0 cX hx HM
    go_wp2
    exact bodyPost_ret (results_two rfl _ _ _) rfl ⟨rfl, hE02⟩
  subst hz0
  obtain ⟨hrr, hn, hmono⟩ := HGD.out rfl
  have hm : mv = R 0 n := by rw [HM.out, hrr, decide_eq_true rfl, Bool.true_and]
  have HMV := Lib.hid hm
  clear hrr HGD hmono HM hm
  go_wp2_with fail
  refine (HTB.out _ hE02 (by first | rfl | trivial)).mono ?_
  rintro e w3 ⟨ut, rfl, hOt, hE3⟩
  obtain ⟨gt, ct, rfl, hgt, hct⟩ := RowsR.own hOt
  have hE03 := hE02.trans hE3
  have c0 := hct 0 (by omega)
  have hl := rowM_lt R 0
  have hb := bitR R 0 n (by omega)
  have h3 : (n : Int) < 64 := by omega
  obtain ⟨rw0, hrw⟩ : ∃ r, rowM R 0 = r := ⟨_, rfl⟩
  rw [hrw] at c0 hl hb
  rw [← HMV.out] at hb
  clear hOt hE3 cX hx hE02 hct hgt hrw
  have g0 : (0 : Int) < (n : Int) + 1 := by omega
  go_wp2
  exact bodyPost_ret (results_two rfl _ _ _) rfl ⟨rfl, hE03⟩

set_option maxRecDepth 100000 in
set_option maxHeartbeats 8000000 in
theorem reffind_any {K : Nat → Prop} {w : World} {p : Pat} {cs : List Value} {v : Value} {ws : Wd} (hp : PatAt K w p cs) (hv : WordAt w v ws) (at' : Int) :
    Calls Tryd.prog 24 #[.agg cs.toArray, v, .int .i64 at'] w fun e w' => FindE (placeE p ws at') (relR p ws) ws.length at' e ∧ Ext w w' := by
  have hbo := fun (V : World) (hE : Ext w V) => refboth_any (hp.ext hE) (hv.ext hE)
  have htb := fun (V : World) (hE : Ext w V) (h : relE p ws = 0) => table_all p K V cs v ws (hp.ext hE) (hv.ext hE) (relE_zero.1 h).2.1 (good_allN h)
  have hgd : relE p ws = 0 → relR p ws = relP ws p ∧ ws.length ≤ 32 ∧ Mono ws.length (relP ws p) := fun h => ⟨relR_good h, (relE_zero.1 h).2.1, relP_mono ws p⟩
  obtain ⟨ao, cap, rfl, hlc, hcm, _⟩ := patAt_cells hp
  obtain ⟨bo, bcap, rfl, hbm⟩ := hv.slice
  have HBO := Lib.hid hbo; have HTB := Lib.hid htb; have HGD := Lib.hid hgd
  clear hp hlc hcm hv hbo htb hgd
  obtain ⟨z, hz⟩ : ∃ z, relE p ws = z := ⟨_, rfl⟩
  obtain ⟨n, hN⟩ : ∃ n, ws.length = n := ⟨_, rfl⟩
  obtain ⟨R, hR⟩ : ∃ R, relP ws p = R := ⟨_, rfl⟩
  have HP : Hid (placeE p ws at' = if z = 0 then exE n at' else z) := Lib.hid (by unfold placeE; rw [hz, hN])
  obtain ⟨R0, hR0⟩ : ∃ R, relR p ws = R := ⟨_, rfl⟩
  rw [hR0] at HGD ⊢
  rw [hz] at HBO HTB HGD
  rw [hR] at HTB HGD
  rw [hN] at HBO HTB HGD hbm ⊢
  clear hz hN hR hR0
  unfold maxLen at hbm
  unfold patCells at HBO HTB ⊢
  go_enter Tryd.func24, Tryd.ntmps24
  go_wp2_with fail
  refine (HBO.out _ ((Turn.refl _ w).alloc _)).mono ?_
  rintro e w2 ⟨rfl, hE2⟩
  have hE02 : Ext w w2 := Turn.trans ((Turn.refl _ w).alloc _) hE2
  have hx : w2.heap[w.heap.size]? = some (.cells #[.int .i64 p.k, .int .u32 (p.pl : Int), .int .u32 (p.mi : Int), .bool p.nt, .int .i64 p.mn, .int .i64 p.mx, .slice ao p.l.length cap] 27 (0, 0)) := hE2.keep (new_at rfl)
  have cX := fun j => cell_of_row _ _ j _ _ _ hx
  clear hE2
  by_cases hz0 : z = 0
  case neg =>
    have gz : (z == 0) = false := by rw [beq_eq_false_iff_ne]; exact hz0
    rw [if_neg hz0] at HP
    have HZ := Lib.hid hz0
    clear hz0 cX hx
    go_wp2
    exact bodyPost_ret (results_four rfl _ _ _) rfl ⟨⟨0, 0, false, by rw [HP.out]; rfl, by rw [HP.out, if_neg HZ.out]; exact ⟨rfl, rfl, rfl⟩⟩, hE02⟩
  rw [if_pos hz0] at HP
  subst hz0
  obtain ⟨hrr, hn, hmono⟩ := HGD.out rfl
  subst hrr
  have HMO := Lib.hid hmono
  clear HGD hmono
  by_cases hin : at' < 0 ∨ (n : Int) < at'
  · have hex : exE n at' = 3 := by unfold exE; rw [if_pos hin]
    rw [hex] at HP
    clear hex cX hx
    go_wp2
    all_goals exact bodyPost_ret (results_four rfl _ _ _) rfl ⟨⟨0, 0, false, by rw [HP.out]; rfl, by rw [HP.out, if_neg (by decide)]; exact ⟨rfl, rfl, rfl⟩⟩, hE02⟩
  have hex : exE n at' = 0 := by unfold exE; rw [if_neg hin]
  rw [hex] at HP
  obtain ⟨m, rfl⟩ : ∃ m : Nat, at' = m := ⟨at'.toNat, by omega⟩
  have hmn : m ≤ n := by omega
  have g1 : ¬ ((m : Int) < 0) := by omega
  have g2 : ¬ ((n : Int) < (m : Int)) := by omega
  clear hex hin
  go_wp2_with fail
  refine (HTB.out _ hE02 (by first | rfl | trivial)).mono ?_
  rintro e w3 ⟨ut, rfl, hOt, hE3⟩
  obtain ⟨gt, ct, rfl, hgt, hct⟩ := RowsR.own hOt
  have hE03 := hE02.trans hE3
  have HCT := Lib.hid hct
  clear hOt hE3 cX hx hE02 hct hgt
  go_wp2
  refine wp_loop (fun a W => ∃ (i : Nat), m ≤ i ∧ i ≤ n + 1 ∧ a.defers = [] ∧ (a.tmps.size = 55 ∧ a.tmps.getD 1 undef = .slice bo n bcap ∧ a.tmps.getD 11 undef = .slice (some ⟨gt, 0, none⟩) (n + 1) ct ∧ a.tmps.getD 12 undef = .int .i64 i) ∧ (∀ a b, m ≤ a → a < i → R0 a b = false) ∧ W = w3)
    (fun a _ => n + 1 - (intOf (a.tmps.getD 12 undef)).toNat) ?_ ?_
  · exact ⟨m, Nat.le_refl _, by omega, rfl, ⟨rfl, rfl, rfl, rfl⟩, fun a b h1 h2 => by omega, rfl⟩
  rintro ⟨t, _⟩ W ⟨i, hi1, hi2, hds, ⟨hsz, f1, f11, f12⟩, hno, hW⟩
  subst hW
  subst hds
  obtain ⟨u', hu⟩ := frame_fun hsz
  obtain ⟨u, rfl⟩ : ∃ x, x = u' := ⟨_, rfl⟩
  have hu' : t = #[u 0, u 1, u 2, u 3, u 4, u 5, u 6, u 7, u 8, u 9, u 10, u 11, u 12, u 13, u 14, u 15, u 16, u 17, u 18, u 19, u 20, u 21, u 22, u 23, u 24, u 25, u 26, u 27, u 28, u 29, u 30, u 31, u 32, u 33, u 34, u 35, u 36, u 37, u 38, u 39, u 40, u 41, u 42, u 43, u 44, u 45, u 46, u 47, u 48, u 49, u 50, u 51, u 52, u 53, u 54] := hu
  clear hu
  subst hu'
  change u 1 = _ at f1
  change u 11 = _ at f11
  change u 12 = _ at f12
  rw [f1, f11, f12]
  clear f1 f11 f12 hsz
  have HNO := Lib.hid hno
  clear hno
  by_cases hin : i < n + 1
  · have h1 : (i : Int) ≤ (n : Int) := by omega
    have h2 : (i : Int) < (n : Int) + 1 := by omega
    go_wp2
    refine wp_loop (fun a V => ∃ (j : Nat), i ≤ j ∧ j ≤ n + 1 ∧ a.defers = [] ∧ (a.tmps.size = 55 ∧ a.tmps.getD 1 undef = .slice bo n bcap ∧ a.tmps.getD 11 undef = .slice (some ⟨gt, 0, none⟩) (n + 1) ct ∧ a.tmps.getD 12 undef = .int .i64 i ∧ a.tmps.getD 13 undef = .int .i64 ((j : Int) - 1)) ∧ (∀ b, j ≤ b → R0 i b = false) ∧ V = W)
      (fun a _ => ((intOf (a.tmps.getD 13 undef)) + 1).toNat) ?_ ?_
    · exact ⟨n + 1, by omega, Nat.le_refl _, rfl, ⟨rfl, rfl, rfl, rfl, by show Value.int .i64 (n : Int) = _; congr 1; omega⟩, fun b hb => by
        cases hq : R0 i b with
        | false => rfl
        | true => have := HMO.out i b hq; omega, rfl⟩
    rintro ⟨t, _⟩ V ⟨j, hj1, hj2, hds, ⟨hsz, f1, f11, f12, f13⟩, hno, hV⟩
    subst hV
    subst hds
    obtain ⟨u', hu⟩ := frame_fun hsz
    obtain ⟨u, rfl⟩ : ∃ x, x = u' := ⟨_, rfl⟩
    have hu' : t = #[u 0, u 1, u 2, u 3, u 4, u 5, u 6, u 7, u 8, u 9, u 10, u 11, u 12, u 13, u 14, u 15, u 16, u 17, u 18, u 19, u 20, u 21, u 22, u 23, u 24, u 25, u 26, u 27, u 28, u 29, u 30, u 31, u 32, u 33, u 34, u 35, u 36, u 37, u 38, u 39, u 40, u 41, u 42, u 43, u 44, u 45, u 46, u 47, u 48, u 49, u 50, u 51, u 52, u 53, u 54] := hu
    clear hu
    subst hu'
    change u 1 = _ at f1
    change u 11 = _ at f11
    change u 12 = _ at f12
    change u 13 = _ at f13
    rw [f1, f11, f12, f13]
    clear f1 f11 f12 f13 hsz
    have HN2 := Lib.hid hno
    clear hno
    by_cases hij : i < j
    · obtain ⟨b, rfl⟩ : ∃ b, j = b + 1 := ⟨j - 1, by omega⟩
      have e1 : ((b + 1 : Nat) : Int) - 1 = (b : Int) := by omega
      rw [e1]
      have h3 : (i : Int) ≤ (b : Int) := by omega
      have h4 : (b : Int) < 64 := by omega
      have c0 := HCT.out i hin
      have hl := rowM_lt R0 i
      have hb := bitR R0 i b (by omega)
      obtain ⟨rw0, hrw⟩ : ∃ r, rowM R0 i = r := ⟨_, rfl⟩
      rw [hrw] at c0 hl hb
      obtain ⟨q, hq⟩ : ∃ q, R0 i b = q := ⟨_, rfl⟩
      rw [hq] at hb
      have HQ := Lib.hid hq
      clear hrw hq e1
      cases q
      · have hnew : ∀ c, b ≤ c → R0 i c = false := fun c hc => by
          by_cases e : c = b
          · rw [e]; exact HQ.out
          · exact HN2.out c (by omega)
        have HNW := Lib.hid hnew
        clear hnew
        go_wp2
        refine ⟨⟨b, by omega, by omega, by first | rfl | trivial, ⟨rfl, rfl, rfl, rfl, rfl⟩, HNW.out, by first | rfl | trivial⟩, ?_⟩
        first | (simp [intOf]; done) | (simp [intOf]; omega)
      · go_wp2
        refine bodyPost_ret (results_four rfl _ _ _) rfl ⟨⟨(i : Int), (b : Int), true, by rw [HP.out]; rfl, ?_⟩, hE03⟩
        rw [HP.out, if_pos rfl, show ((m : Int)).toNat = m by omega]
        refine .inr ⟨rfl, i, b, rfl, rfl, hi1, by omega, HQ.out, fun a' b' k1 k2 => HNO.out a' b' k1 k2, fun b' hb' => ?_⟩
        apply Nat.le_of_not_lt
        intro hlt
        rw [HN2.out b' (by omega)] at hb'
        cases hb'
    · obtain rfl : j = i := by omega
      have h3 : ¬ ((j : Int) ≤ (j : Int) - 1) := by omega
      have hnew : ∀ a b, m ≤ a → a < j + 1 → R0 a b = false := fun a b k1 k2 => by
        by_cases e : a = j
        · subst e
          by_cases hb : a ≤ b
          · exact HN2.out b hb
          · cases hq : R0 a b with
            | false => rfl
            | true => have := HMO.out a b hq; omega
        · exact HNO.out a b k1 (by omega)
      have HNW := Lib.hid hnew
      clear hnew
      go_wp2
      first | exact ⟨⟨j + 1, by omega, by omega, by first | rfl | trivial, ⟨rfl, rfl, rfl, rfl⟩, HNW.out, by first | rfl | trivial⟩, by simp [intOf]; omega⟩ | exact ⟨⟨j + 1, by omega, by omega, by simp, HNW.out⟩, by simp [intOf]; omega⟩
  · obtain rfl : i = n + 1 := by omega
    have h1 : ¬ (((n + 1 : Nat) : Int) ≤ (n : Int)) := by omega
    go_wp2
    refine bodyPost_ret (results_four rfl _ _ _) rfl ⟨⟨0, 0, false, by rw [HP.out]; rfl, ?_⟩, hE03⟩
    rw [HP.out, if_pos rfl, show ((m : Int)).toNat = m by omega]
    exact .inl ⟨rfl, rfl, rfl, fun a b k1 k2 => HNO.out a b k1 (by omega)⟩
end Go.Proofs.YtapfoaiibjdfnaaDoor
