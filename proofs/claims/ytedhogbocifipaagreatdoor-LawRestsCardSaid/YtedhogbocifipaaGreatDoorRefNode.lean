/- ablautref02.Valid, Check; ablautref06.node (printed by gennode.py). -/
import Derived.Test.YtedhogbocifipaaGreatDoorGa24
import Derived.Test.YtedhogbocifipaaGreatDoorGa08
set_option maxRecDepth 100000
set_option maxHeartbeats 16000000
namespace Go.Proofs.YtedhogbocifipaaGreatDoor
open Go.RowKit Go.Ab
attribute [local go_sem] Oper.semAt_some wide_fn wide_depth

theorem or_lt24 (a b : Nat) : ((a ||| b) / 16777216 == 0) = (decide (a < 16777216) && decide (b < 16777216)) := by
 apply Bool.eq_iff_iff.2
 rw [beq_iff_eq, Bool.and_eq_true, decide_eq_true_eq, decide_eq_true_eq]
 constructor
 ·intro h
  have h1 : a ||| b < 16777216 := by omega
  have h2 : a ≤ a ||| b := Nat.left_le_or
  have h3 : b ≤ a ||| b := Nat.right_le_or
  omega
 ·rintro ⟨h1, h2⟩
  have := Nat.or_lt_two_pow (n := 24) h1 h2
  omega

theorem rvalid_any (a b : Nat) (ha : a < 4294967296) (hb : b < 4294967296) (w : World) :
  Calls Tryz.prog 126 #[.agg #[.int .u32 (a : Int), .int .u32 (b : Int)]] w fun e w' => e = .returned (.bool (okSound a b)) ∧ Ext w w' := by
 obtain ⟨o1, _⟩ := okSound_bits ha hb
 have hok : okSound a b = ((a &&& b == 0) && (decide (a < 16777216) && decide (b < 16777216))) := by unfold okSound; rw [or_lt24]
 obtain ⟨x, hx⟩ : ∃ x, (a &&& b == 0) = x := ⟨_, rfl⟩
 rw [hx] at o1 hok
 have HOK := Lib.hid hok
 clear hok hx
 go_enter Tryz.func126, Tryz.ntmps126
 cases x
 ·go_wp2
  go_ret
  exact ⟨by rw [HOK.out]; rfl, (Turn.refl _ _).alloc _⟩
 ·by_cases h1 : a < 16777216
  ·have g1 : (a : Int) < 16777216 := by omega
   by_cases h2 : b < 16777216
   ·have g2 : (b : Int) < 16777216 := by omega
    have hf : okSound a b = true := by rw [HOK.out, decide_eq_true h1, decide_eq_true h2]; rfl
    have HF := Lib.hid hf
    clear hf h1 h2
    go_wp2
    go_ret
    exact ⟨by rw [HF.out]; rfl, (Turn.refl _ _).alloc _⟩
   ·have g2 : ¬ (b : Int) < 16777216 := by omega
    have hf : okSound a b = false := by rw [HOK.out, decide_eq_false h2, Bool.and_false, Bool.and_false]
    have HF := Lib.hid hf
    clear hf h1 h2
    go_wp2
    go_ret
    exact ⟨by rw [HF.out]; rfl, (Turn.refl _ _).alloc _⟩
  ·have g1 : ¬ (a : Int) < 16777216 := by omega
   have hf : okSound a b = false := by rw [HOK.out, decide_eq_false h1, Bool.false_and, Bool.and_false]
   have HF := Lib.hid hf
   clear hf h1
   go_wp2
   go_ret
   exact ⟨by rw [HF.out]; rfl, (Turn.refl _ _).alloc _⟩

theorem rcheck_any {w : World} {v : Value} {ws : Wd} (hv : WordAt w v ws) :
  Calls Tryz.prog 90 #[v] w fun e w' => e = .returned (.int .i64 (wE ws)) ∧ Ext w w' := by
 obtain ⟨ao, cap, rfl, hlm⟩ := hv.slice
 unfold maxLen at hlm
 have HV := Lib.hid hv
 clear hv
 obtain ⟨N, hN⟩ : ∃ N, ws.length = N := ⟨_, rfl⟩
 have HN := Lib.hid hN
 have HE : Hid (wE ws = if 32 < N then 11 else if allV ws = true then 0 else 14) := Lib.hid (by unfold wE; rw [hN])
 rw [hN] at hlm HV ⊢
 clear hN
 by_cases h32 : 32 < N
 ·rw [if_pos h32] at HE
  have h1 : (32 : Int) < (N : Int) := by omega
  go_enter Tryz.func90, Tryz.ntmps90
  go_wp2
  go_ret
  exact ⟨by rw [HE.out]; rfl, Turn.refl _ _⟩
 rw [if_neg h32] at HE
 have h0 : ¬ (32 : Int) < (N : Int) := by omega
 go_enter Tryz.func90, Tryz.ntmps90
 go_wp2
 refine wp_loop (fun a W => ∃ (k : Nat), k ≤ N ∧ a.defers = [] ∧ (a.tmps.size = 19 ∧ a.tmps.getD 0 undef = .slice ao N cap ∧ a.tmps.getD 3 undef = .int .i64 k) ∧ allV (ws.take k) = true ∧ Ext w W)
  (fun a _ => N - (intOf (a.tmps.getD 3 undef)).toNat) ?_ ?_
 ·exact ⟨0, by omega, rfl, ⟨rfl, rfl, rfl⟩, by simp [allV], Turn.refl _ _⟩
 rintro ⟨t, _⟩ W ⟨k, hk, hds, ⟨hsz, f0, f3⟩, hall, hE⟩
 subst hds
 obtain ⟨u', hu⟩ := frame_fun hsz
 obtain ⟨u, rfl⟩ : ∃ x, x = u' := ⟨_, rfl⟩
 have hu' : t = #[u 0, u 1, u 2, u 3, u 4, u 5, u 6, u 7, u 8, u 9, u 10, u 11, u 12, u 13, u 14, u 15, u 16, u 17, u 18] := hu
 clear hu
 subst hu'
 change u 0 = _ at f0
 change u 3 = _ at f3
 rw [f0, f3]
 clear f0 f3 hsz
 have HALL := Lib.hid hall
 clear hall
 by_cases hkN : k < N
 ·have h1 : (k : Int) < (N : Int) := by omega
  have hkl : k < ws.length := by rw [HN.out]; exact hkN
  obtain ⟨g, off, cap', he, hg, d1, d2⟩ := (HV.out.ext hE).at hkl
  simp only [Value.slice.injEq] at he
  obtain ⟨rfl, hq', rfl⟩ := he
  clear hq'
  obtain ⟨hs1, hs2⟩ := HV.out.2.get k hkl
  obtain ⟨a, ha⟩ : ∃ a, (ws.getD k (0, 0)).1 = a := ⟨_, rfl⟩
  obtain ⟨b, hb⟩ : ∃ b, (ws.getD k (0, 0)).2 = b := ⟨_, rfl⟩
  rw [ha] at d1 hs1
  rw [hb] at d2 hs2
  have HA := Lib.hid ha; have HB := Lib.hid hb
  clear ha hb
  go_wp2_with fail
  refine (rvalid_any a b hs1 hs2 _).mono ?_
  rintro e W2 ⟨rfl, hE2⟩
  have hE02 : Ext w W2 := hE.trans hE2
  clear hE hE2 d1 d2
  cases hok : okSound a b
  ·have hfin : allV ws = false := allV_at hkl (by rw [HA.out, HB.out]; exact hok)
   have HF := Lib.hid hfin
   clear hfin hok
   go_wp2
   go_ret
   exact ⟨by rw [HE.out, HF.out]; rfl, hE02⟩
  ·have hfin := allV_take hkl HALL.out (by rw [HA.out, HB.out]; exact hok)
   have HF := Lib.hid hfin
   clear hfin hok
   go_wp2
   exact ⟨⟨k + 1, by omega, by first | rfl | trivial, ⟨rfl, rfl, rfl⟩, HF.out, hE02⟩, by simp [intOf]; omega⟩
 ·obtain rfl : k = N := by omega
  have h1 : ¬ (k : Int) < (k : Int) := by omega
  have hfin : allV ws = true := by have := HALL.out; rwa [List.take_of_length_le (by rw [HN.out]; exact Nat.le_refl _)] at this
  have HF := Lib.hid hfin
  clear hfin
  go_wp2
  go_ret
  exact ⟨by rw [HE.out, HF.out]; rfl, hE⟩

/-! ### node -/

def okE (pl mi : Nat) : Int := if okSound pl mi = true then 0 else 14
section
variable (pl mi : Nat) (nt : Bool) (mn mx : Int) (n : Nat)
theorem nodeF_bad {k : Int} (h : k < 0 ∨ 6 < k) : nodeF k pl mi nt mn mx n = 2 := by unfold nodeF; rw [if_pos h]
theorem nodeF_0 : nodeF 0 pl mi nt mn mx n = if pl ≠ 0 ∨ mi ≠ 0 ∨ nt = true then 2 else if n ≠ 0 then 2 else if mn ≠ 0 ∨ mx ≠ 0 then 2 else okE pl mi := by simp [nodeF, okE]
theorem nodeF_2 : nodeF 2 pl mi nt mn mx n = if pl ≠ 0 ∨ mi ≠ 0 ∨ nt = true then 2 else if n ≠ 0 then 2 else if mn ≠ 0 ∨ mx ≠ 0 then 2 else okE pl mi := by simp [nodeF, okE]
theorem nodeF_6 : nodeF 6 pl mi nt mn mx n = if pl ≠ 0 ∨ mi ≠ 0 ∨ nt = true then 2 else if n ≠ 0 then 2 else if mn ≠ 0 ∨ mx ≠ 0 then 2 else okE pl mi := by simp [nodeF, okE]
theorem nodeF_1 : nodeF 1 pl mi nt mn mx n = if n ≠ 0 then 2 else if mn ≠ 0 ∨ mx ≠ 0 then 2 else okE pl mi := by simp [nodeF, okE]
theorem nodeF_3 : nodeF 3 pl mi nt mn mx n = if pl ≠ 0 ∨ mi ≠ 0 ∨ nt = true then 2 else if mn ≠ 0 ∨ mx ≠ 0 then 2 else okE pl mi := by simp [nodeF, okE]
theorem nodeF_4 : nodeF 4 pl mi nt mn mx n = if pl ≠ 0 ∨ mi ≠ 0 ∨ nt = true then 2 else if mn ≠ 0 ∨ mx ≠ 0 then 2 else okE pl mi := by simp [nodeF, okE]
theorem nodeF_5 : nodeF 5 pl mi nt mn mx n = if pl ≠ 0 ∨ mi ≠ 0 ∨ nt = true then 2 else if n ≠ 1 ∨ mn < 0 ∨ 32 < mn ∨ (mx ≠ -1 ∧ (mx < mn ∨ 32 < mx)) then 2 else okE pl mi := by simp [nodeF, okE]
end

theorem node_cells (k : Int) (pl mi : Nat) (nt : Bool) (mn mx : Int) (ao : Option Addr) (n cap : Nat) (hpl : pl < 4294967296) (hmi : mi < 4294967296) (hn : n ≤ maxLen) (w : World) :
  Calls Tryz.prog 101 #[.agg #[.int .i64 k, .int .u32 (pl : Int), .int .u32 (mi : Int), .bool nt, .int .i64 mn, .int .i64 mx, .slice ao n cap]] w fun e w' => e = .returned (.int .i64 (nodeF k pl mi nt mn mx n)) ∧ Ext w w' := by
 unfold maxLen at hn
 by_cases hk0 : k < 0
 case pos =>
  go_enter Tryz.func101, Tryz.ntmps101
  have HN := Lib.hid (nodeF_bad pl mi nt mn mx n (.inl hk0))
  go_wp2
  go_ret
  exact ⟨by rw [HN.out]; rfl, (Turn.refl _ w).alloc _⟩
 by_cases hk6 : 6 < k
 case pos =>
  go_enter Tryz.func101, Tryz.ntmps101
  have HN := Lib.hid (nodeF_bad pl mi nt mn mx n (.inr hk6))
  go_wp2
  go_ret
  exact ⟨by rw [HN.out]; rfl, (Turn.refl _ w).alloc _⟩
 have hk : k = 0 ∨ k = 1 ∨ k = 2 ∨ k = 3 ∨ k = 4 ∨ k = 5 ∨ k = 6 := by omega
 clear hk0 hk6
 obtain ⟨z, hz⟩ : ∃ z, okSound pl mi = z := ⟨_, rfl⟩
 have hr := fun (W : World) => rvalid_any pl mi hpl hmi W
 rw [hz] at hr
 have HR := Lib.hid hr
 have HZ := Lib.hid hz
 clear hr hz
 obtain ⟨v, hv⟩ : ∃ v, nodeF k pl mi nt mn mx n = v := ⟨_, rfl⟩
 rw [hv]
 have HV := Lib.hid hv
 clear hv
 rcases hk with rfl | rfl | rfl | rfl | rfl | rfl | rfl
 ·go_enter Tryz.func101, Tryz.ntmps101
  by_cases hp0 : pl = 0
  case pos =>
   have gp : ((pl : Int) == 0) = true := by rw [beq_iff_eq]; omega
   have HP0 := Lib.hid hp0
   clear hp0
   by_cases hm0 : mi = 0
   case pos =>
    have gm : ((mi : Int) == 0) = true := by rw [beq_iff_eq]; omega
    have HM0 := Lib.hid hm0
    clear hm0
    cases nt
    case true =>
     have HN : Hid (v = 2) := Lib.hid (by rw [← HV.out]; rw [nodeF_0, if_pos (.inr (.inr rfl))])
     go_wp2
     go_ret
     exact ⟨by rw [HN.out]; rfl, (Turn.refl _ w).alloc _⟩
    case false =>
     by_cases hn0 : n = 0
     case pos =>
      have gn : ¬ (0 : Int) < (n : Int) := by omega
      have HN0 := Lib.hid hn0
      clear hn0
      by_cases hmn : mn = 0
      case pos =>
       have gn2 : (mn == 0) = true := by rw [beq_iff_eq]; exact hmn
       have HMN := Lib.hid hmn
       clear hmn
       by_cases hmx : mx = 0
       case pos =>
        have gx : (mx == 0) = true := by rw [beq_iff_eq]; exact hmx
        have HMX := Lib.hid hmx
        clear hmx
        have HN : Hid (v = okE pl mi) := Lib.hid (by rw [← HV.out]; rw [nodeF_0, if_neg (by simp [HP0.out, HM0.out]), if_neg (by simp [HN0.out]), if_neg (by simp [HMN.out, HMX.out])])
        go_wp2_with fail
        refine (HR.out _).mono ?_
        rintro e w2 ⟨rfl, hE2⟩
        have hE02 : Ext w w2 := Turn.trans ((Turn.refl _ w).alloc _) hE2
        clear hE2
        cases z
        all_goals
         go_wp2
         go_ret
         exact ⟨by rw [HN.out]; unfold okE; rw [HZ.out]; rfl, hE02⟩
       case neg =>
        have gx : (mx == 0) = false := by rw [beq_eq_false_iff_ne]; exact hmx
        have HMX := Lib.hid hmx
        clear hmx
        have HN : Hid (v = 2) := Lib.hid (by rw [← HV.out]; rw [nodeF_0, if_neg (by simp [HP0.out, HM0.out]), if_neg (by simp [HN0.out]), if_pos (.inr HMX.out)])
        go_wp2
        go_ret
        exact ⟨by rw [HN.out]; rfl, (Turn.refl _ w).alloc _⟩
      case neg =>
       have gn2 : (mn == 0) = false := by rw [beq_eq_false_iff_ne]; exact hmn
       have HMN := Lib.hid hmn
       clear hmn
       have HN : Hid (v = 2) := Lib.hid (by rw [← HV.out]; rw [nodeF_0, if_neg (by simp [HP0.out, HM0.out]), if_neg (by simp [HN0.out]), if_pos (.inl HMN.out)])
       go_wp2
       go_ret
       exact ⟨by rw [HN.out]; rfl, (Turn.refl _ w).alloc _⟩
     case neg =>
      have gn : (0 : Int) < (n : Int) := by omega
      have HN0 := Lib.hid hn0
      clear hn0
      have HN : Hid (v = 2) := Lib.hid (by rw [← HV.out]; rw [nodeF_0, if_neg (by simp [HP0.out, HM0.out]), if_pos HN0.out])
      go_wp2
      go_ret
      exact ⟨by rw [HN.out]; rfl, (Turn.refl _ w).alloc _⟩
   case neg =>
    have gm : ((mi : Int) == 0) = false := by rw [beq_eq_false_iff_ne]; omega
    have HM0 := Lib.hid hm0
    clear hm0
    have HN : Hid (v = 2) := Lib.hid (by rw [← HV.out]; rw [nodeF_0, if_pos (.inr (.inl HM0.out))])
    go_wp2
    go_ret
    exact ⟨by rw [HN.out]; rfl, (Turn.refl _ w).alloc _⟩
  case neg =>
   have gp : ((pl : Int) == 0) = false := by rw [beq_eq_false_iff_ne]; omega
   have HP0 := Lib.hid hp0
   clear hp0
   have HN : Hid (v = 2) := Lib.hid (by rw [← HV.out]; rw [nodeF_0, if_pos (.inl HP0.out)])
   go_wp2
   go_ret
   exact ⟨by rw [HN.out]; rfl, (Turn.refl _ w).alloc _⟩
 ·go_enter Tryz.func101, Tryz.ntmps101
  by_cases hn0 : n = 0
  case pos =>
   have gn : ¬ (0 : Int) < (n : Int) := by omega
   have HN0 := Lib.hid hn0
   clear hn0
   by_cases hmn : mn = 0
   case pos =>
    have gn2 : (mn == 0) = true := by rw [beq_iff_eq]; exact hmn
    have HMN := Lib.hid hmn
    clear hmn
    by_cases hmx : mx = 0
    case pos =>
     have gx : (mx == 0) = true := by rw [beq_iff_eq]; exact hmx
     have HMX := Lib.hid hmx
     clear hmx
     have HN : Hid (v = okE pl mi) := Lib.hid (by rw [← HV.out]; rw [nodeF_1, if_neg (by simp [HN0.out]), if_neg (by simp [HMN.out, HMX.out])])
     go_wp2_with fail
     refine (HR.out _).mono ?_
     rintro e w2 ⟨rfl, hE2⟩
     have hE02 : Ext w w2 := Turn.trans ((Turn.refl _ w).alloc _) hE2
     clear hE2
     cases z
     all_goals
      go_wp2
      go_ret
      exact ⟨by rw [HN.out]; unfold okE; rw [HZ.out]; rfl, hE02⟩
    case neg =>
     have gx : (mx == 0) = false := by rw [beq_eq_false_iff_ne]; exact hmx
     have HMX := Lib.hid hmx
     clear hmx
     have HN : Hid (v = 2) := Lib.hid (by rw [← HV.out]; rw [nodeF_1, if_neg (by simp [HN0.out]), if_pos (.inr HMX.out)])
     go_wp2
     go_ret
     exact ⟨by rw [HN.out]; rfl, (Turn.refl _ w).alloc _⟩
   case neg =>
    have gn2 : (mn == 0) = false := by rw [beq_eq_false_iff_ne]; exact hmn
    have HMN := Lib.hid hmn
    clear hmn
    have HN : Hid (v = 2) := Lib.hid (by rw [← HV.out]; rw [nodeF_1, if_neg (by simp [HN0.out]), if_pos (.inl HMN.out)])
    go_wp2
    go_ret
    exact ⟨by rw [HN.out]; rfl, (Turn.refl _ w).alloc _⟩
  case neg =>
   have gn : (0 : Int) < (n : Int) := by omega
   have HN0 := Lib.hid hn0
   clear hn0
   have HN : Hid (v = 2) := Lib.hid (by rw [← HV.out]; rw [nodeF_1, if_pos HN0.out])
   go_wp2
   go_ret
   exact ⟨by rw [HN.out]; rfl, (Turn.refl _ w).alloc _⟩
 ·go_enter Tryz.func101, Tryz.ntmps101
  by_cases hp0 : pl = 0
  case pos =>
   have gp : ((pl : Int) == 0) = true := by rw [beq_iff_eq]; omega
   have HP0 := Lib.hid hp0
   clear hp0
   by_cases hm0 : mi = 0
   case pos =>
    have gm : ((mi : Int) == 0) = true := by rw [beq_iff_eq]; omega
    have HM0 := Lib.hid hm0
    clear hm0
    cases nt
    case true =>
     have HN : Hid (v = 2) := Lib.hid (by rw [← HV.out]; rw [nodeF_2, if_pos (.inr (.inr rfl))])
     go_wp2
     go_ret
     exact ⟨by rw [HN.out]; rfl, (Turn.refl _ w).alloc _⟩
    case false =>
     by_cases hn0 : n = 0
     case pos =>
      have gn : ¬ (0 : Int) < (n : Int) := by omega
      have HN0 := Lib.hid hn0
      clear hn0
      by_cases hmn : mn = 0
      case pos =>
       have gn2 : (mn == 0) = true := by rw [beq_iff_eq]; exact hmn
       have HMN := Lib.hid hmn
       clear hmn
       by_cases hmx : mx = 0
       case pos =>
        have gx : (mx == 0) = true := by rw [beq_iff_eq]; exact hmx
        have HMX := Lib.hid hmx
        clear hmx
        have HN : Hid (v = okE pl mi) := Lib.hid (by rw [← HV.out]; rw [nodeF_2, if_neg (by simp [HP0.out, HM0.out]), if_neg (by simp [HN0.out]), if_neg (by simp [HMN.out, HMX.out])])
        go_wp2_with fail
        refine (HR.out _).mono ?_
        rintro e w2 ⟨rfl, hE2⟩
        have hE02 : Ext w w2 := Turn.trans ((Turn.refl _ w).alloc _) hE2
        clear hE2
        cases z
        all_goals
         go_wp2
         go_ret
         exact ⟨by rw [HN.out]; unfold okE; rw [HZ.out]; rfl, hE02⟩
       case neg =>
        have gx : (mx == 0) = false := by rw [beq_eq_false_iff_ne]; exact hmx
        have HMX := Lib.hid hmx
        clear hmx
        have HN : Hid (v = 2) := Lib.hid (by rw [← HV.out]; rw [nodeF_2, if_neg (by simp [HP0.out, HM0.out]), if_neg (by simp [HN0.out]), if_pos (.inr HMX.out)])
        go_wp2
        go_ret
        exact ⟨by rw [HN.out]; rfl, (Turn.refl _ w).alloc _⟩
      case neg =>
       have gn2 : (mn == 0) = false := by rw [beq_eq_false_iff_ne]; exact hmn
       have HMN := Lib.hid hmn
       clear hmn
       have HN : Hid (v = 2) := Lib.hid (by rw [← HV.out]; rw [nodeF_2, if_neg (by simp [HP0.out, HM0.out]), if_neg (by simp [HN0.out]), if_pos (.inl HMN.out)])
       go_wp2
       go_ret
       exact ⟨by rw [HN.out]; rfl, (Turn.refl _ w).alloc _⟩
     case neg =>
      have gn : (0 : Int) < (n : Int) := by omega
      have HN0 := Lib.hid hn0
      clear hn0
      have HN : Hid (v = 2) := Lib.hid (by rw [← HV.out]; rw [nodeF_2, if_neg (by simp [HP0.out, HM0.out]), if_pos HN0.out])
      go_wp2
      go_ret
      exact ⟨by rw [HN.out]; rfl, (Turn.refl _ w).alloc _⟩
   case neg =>
    have gm : ((mi : Int) == 0) = false := by rw [beq_eq_false_iff_ne]; omega
    have HM0 := Lib.hid hm0
    clear hm0
    have HN : Hid (v = 2) := Lib.hid (by rw [← HV.out]; rw [nodeF_2, if_pos (.inr (.inl HM0.out))])
    go_wp2
    go_ret
    exact ⟨by rw [HN.out]; rfl, (Turn.refl _ w).alloc _⟩
  case neg =>
   have gp : ((pl : Int) == 0) = false := by rw [beq_eq_false_iff_ne]; omega
   have HP0 := Lib.hid hp0
   clear hp0
   have HN : Hid (v = 2) := Lib.hid (by rw [← HV.out]; rw [nodeF_2, if_pos (.inl HP0.out)])
   go_wp2
   go_ret
   exact ⟨by rw [HN.out]; rfl, (Turn.refl _ w).alloc _⟩
 ·go_enter Tryz.func101, Tryz.ntmps101
  by_cases hp0 : pl = 0
  case pos =>
   have gp : ((pl : Int) == 0) = true := by rw [beq_iff_eq]; omega
   have HP0 := Lib.hid hp0
   clear hp0
   by_cases hm0 : mi = 0
   case pos =>
    have gm : ((mi : Int) == 0) = true := by rw [beq_iff_eq]; omega
    have HM0 := Lib.hid hm0
    clear hm0
    cases nt
    case true =>
     have HN : Hid (v = 2) := Lib.hid (by rw [← HV.out]; rw [nodeF_3, if_pos (.inr (.inr rfl))])
     go_wp2
     go_ret
     exact ⟨by rw [HN.out]; rfl, (Turn.refl _ w).alloc _⟩
    case false =>
     by_cases hmn : mn = 0
     case pos =>
      have gn2 : (mn == 0) = true := by rw [beq_iff_eq]; exact hmn
      have HMN := Lib.hid hmn
      clear hmn
      by_cases hmx : mx = 0
      case pos =>
       have gx : (mx == 0) = true := by rw [beq_iff_eq]; exact hmx
       have HMX := Lib.hid hmx
       clear hmx
       have HN : Hid (v = okE pl mi) := Lib.hid (by rw [← HV.out]; rw [nodeF_3, if_neg (by simp [HP0.out, HM0.out]), if_neg (by simp [HMN.out, HMX.out])])
       go_wp2_with fail
       refine (HR.out _).mono ?_
       rintro e w2 ⟨rfl, hE2⟩
       have hE02 : Ext w w2 := Turn.trans ((Turn.refl _ w).alloc _) hE2
       clear hE2
       cases z
       all_goals
        go_wp2
        go_ret
        exact ⟨by rw [HN.out]; unfold okE; rw [HZ.out]; rfl, hE02⟩
      case neg =>
       have gx : (mx == 0) = false := by rw [beq_eq_false_iff_ne]; exact hmx
       have HMX := Lib.hid hmx
       clear hmx
       have HN : Hid (v = 2) := Lib.hid (by rw [← HV.out]; rw [nodeF_3, if_neg (by simp [HP0.out, HM0.out]), if_pos (.inr HMX.out)])
       go_wp2
       go_ret
       exact ⟨by rw [HN.out]; rfl, (Turn.refl _ w).alloc _⟩
     case neg =>
      have gn2 : (mn == 0) = false := by rw [beq_eq_false_iff_ne]; exact hmn
      have HMN := Lib.hid hmn
      clear hmn
      have HN : Hid (v = 2) := Lib.hid (by rw [← HV.out]; rw [nodeF_3, if_neg (by simp [HP0.out, HM0.out]), if_pos (.inl HMN.out)])
      go_wp2
      go_ret
      exact ⟨by rw [HN.out]; rfl, (Turn.refl _ w).alloc _⟩
   case neg =>
    have gm : ((mi : Int) == 0) = false := by rw [beq_eq_false_iff_ne]; omega
    have HM0 := Lib.hid hm0
    clear hm0
    have HN : Hid (v = 2) := Lib.hid (by rw [← HV.out]; rw [nodeF_3, if_pos (.inr (.inl HM0.out))])
    go_wp2
    go_ret
    exact ⟨by rw [HN.out]; rfl, (Turn.refl _ w).alloc _⟩
  case neg =>
   have gp : ((pl : Int) == 0) = false := by rw [beq_eq_false_iff_ne]; omega
   have HP0 := Lib.hid hp0
   clear hp0
   have HN : Hid (v = 2) := Lib.hid (by rw [← HV.out]; rw [nodeF_3, if_pos (.inl HP0.out)])
   go_wp2
   go_ret
   exact ⟨by rw [HN.out]; rfl, (Turn.refl _ w).alloc _⟩
 ·go_enter Tryz.func101, Tryz.ntmps101
  by_cases hp0 : pl = 0
  case pos =>
   have gp : ((pl : Int) == 0) = true := by rw [beq_iff_eq]; omega
   have HP0 := Lib.hid hp0
   clear hp0
   by_cases hm0 : mi = 0
   case pos =>
    have gm : ((mi : Int) == 0) = true := by rw [beq_iff_eq]; omega
    have HM0 := Lib.hid hm0
    clear hm0
    cases nt
    case true =>
     have HN : Hid (v = 2) := Lib.hid (by rw [← HV.out]; rw [nodeF_4, if_pos (.inr (.inr rfl))])
     go_wp2
     go_ret
     exact ⟨by rw [HN.out]; rfl, (Turn.refl _ w).alloc _⟩
    case false =>
     by_cases hmn : mn = 0
     case pos =>
      have gn2 : (mn == 0) = true := by rw [beq_iff_eq]; exact hmn
      have HMN := Lib.hid hmn
      clear hmn
      by_cases hmx : mx = 0
      case pos =>
       have gx : (mx == 0) = true := by rw [beq_iff_eq]; exact hmx
       have HMX := Lib.hid hmx
       clear hmx
       have HN : Hid (v = okE pl mi) := Lib.hid (by rw [← HV.out]; rw [nodeF_4, if_neg (by simp [HP0.out, HM0.out]), if_neg (by simp [HMN.out, HMX.out])])
       go_wp2_with fail
       refine (HR.out _).mono ?_
       rintro e w2 ⟨rfl, hE2⟩
       have hE02 : Ext w w2 := Turn.trans ((Turn.refl _ w).alloc _) hE2
       clear hE2
       cases z
       all_goals
        go_wp2
        go_ret
        exact ⟨by rw [HN.out]; unfold okE; rw [HZ.out]; rfl, hE02⟩
      case neg =>
       have gx : (mx == 0) = false := by rw [beq_eq_false_iff_ne]; exact hmx
       have HMX := Lib.hid hmx
       clear hmx
       have HN : Hid (v = 2) := Lib.hid (by rw [← HV.out]; rw [nodeF_4, if_neg (by simp [HP0.out, HM0.out]), if_pos (.inr HMX.out)])
       go_wp2
       go_ret
       exact ⟨by rw [HN.out]; rfl, (Turn.refl _ w).alloc _⟩
     case neg =>
      have gn2 : (mn == 0) = false := by rw [beq_eq_false_iff_ne]; exact hmn
      have HMN := Lib.hid hmn
      clear hmn
      have HN : Hid (v = 2) := Lib.hid (by rw [← HV.out]; rw [nodeF_4, if_neg (by simp [HP0.out, HM0.out]), if_pos (.inl HMN.out)])
      go_wp2
      go_ret
      exact ⟨by rw [HN.out]; rfl, (Turn.refl _ w).alloc _⟩
   case neg =>
    have gm : ((mi : Int) == 0) = false := by rw [beq_eq_false_iff_ne]; omega
    have HM0 := Lib.hid hm0
    clear hm0
    have HN : Hid (v = 2) := Lib.hid (by rw [← HV.out]; rw [nodeF_4, if_pos (.inr (.inl HM0.out))])
    go_wp2
    go_ret
    exact ⟨by rw [HN.out]; rfl, (Turn.refl _ w).alloc _⟩
  case neg =>
   have gp : ((pl : Int) == 0) = false := by rw [beq_eq_false_iff_ne]; omega
   have HP0 := Lib.hid hp0
   clear hp0
   have HN : Hid (v = 2) := Lib.hid (by rw [← HV.out]; rw [nodeF_4, if_pos (.inl HP0.out)])
   go_wp2
   go_ret
   exact ⟨by rw [HN.out]; rfl, (Turn.refl _ w).alloc _⟩
 ·go_enter Tryz.func101, Tryz.ntmps101
  by_cases hp0 : pl = 0
  case pos =>
   have gp : ((pl : Int) == 0) = true := by rw [beq_iff_eq]; omega
   have HP0 := Lib.hid hp0
   clear hp0
   by_cases hm0 : mi = 0
   case pos =>
    have gm : ((mi : Int) == 0) = true := by rw [beq_iff_eq]; omega
    have HM0 := Lib.hid hm0
    clear hm0
    cases nt
    case true =>
     have HN : Hid (v = 2) := Lib.hid (by rw [← HV.out]; rw [nodeF_5, if_pos (.inr (.inr rfl))])
     go_wp2
     go_ret
     exact ⟨by rw [HN.out]; rfl, (Turn.refl _ w).alloc _⟩
    case false =>
     by_cases hn1 : n = 1
     case pos =>
      subst hn1
      have hn1 : (1 : Nat) = 1 := rfl
      have HN1 := Lib.hid hn1
      clear hn1
      by_cases hq1 : mn < 0
      case pos =>
       have HQ1 := Lib.hid hq1
       have HN : Hid (v = 2) := Lib.hid (by rw [← HV.out]; rw [nodeF_5, if_neg (by simp [HP0.out, HM0.out]), if_pos (by first | omega | (have a1 := HN1.out; omega) | (have a1 := HN1.out; have a2 := HX1.out; omega))])
       go_wp2
       go_ret
       exact ⟨by rw [HN.out]; rfl, (Turn.refl _ w).alloc _⟩
      case neg =>
       have HQ1 := Lib.hid hq1
       by_cases hq2 : 32 < mn
       case pos =>
        have HQ2 := Lib.hid hq2
        have HN : Hid (v = 2) := Lib.hid (by rw [← HV.out]; rw [nodeF_5, if_neg (by simp [HP0.out, HM0.out]), if_pos (by first | omega | (have a1 := HN1.out; omega) | (have a1 := HN1.out; have a2 := HX1.out; omega))])
        go_wp2
        go_ret
        exact ⟨by rw [HN.out]; rfl, (Turn.refl _ w).alloc _⟩
       case neg =>
        have HQ2 := Lib.hid hq2
        by_cases hx1 : mx = -1
        case pos =>
         have gx : (mx == -1) = true := by rw [beq_iff_eq]; exact hx1
         have HX1 := Lib.hid hx1
         clear hx1
         have HN : Hid (v = okE pl mi) := Lib.hid (by rw [← HV.out]; rw [nodeF_5, if_neg (by simp [HP0.out, HM0.out]), if_neg (by first | omega | (have a1 := HN1.out; omega) | (have a1 := HN1.out; have a2 := HX1.out; omega))])
         go_wp2_with fail
         refine (HR.out _).mono ?_
         rintro e w2 ⟨rfl, hE2⟩
         have hE02 : Ext w w2 := Turn.trans ((Turn.refl _ w).alloc _) hE2
         clear hE2
         cases z
         all_goals
          go_wp2
          go_ret
          exact ⟨by rw [HN.out]; unfold okE; rw [HZ.out]; rfl, hE02⟩
        case neg =>
         have gx : (mx == -1) = false := by rw [beq_eq_false_iff_ne]; exact hx1
         have HX1 := Lib.hid hx1
         clear hx1
         by_cases hx2 : mx < mn
         case pos =>
          have HX2 := Lib.hid hx2
          have HN : Hid (v = 2) := Lib.hid (by rw [← HV.out]; rw [nodeF_5, if_neg (by simp [HP0.out, HM0.out]), if_pos (by first | omega | (have a1 := HN1.out; omega) | (have a1 := HN1.out; have a2 := HX1.out; omega))])
          go_wp2
          go_ret
          exact ⟨by rw [HN.out]; rfl, (Turn.refl _ w).alloc _⟩
         case neg =>
          have HX2 := Lib.hid hx2
          by_cases hx3 : 32 < mx
          case pos =>
           have HX3 := Lib.hid hx3
           have HN : Hid (v = 2) := Lib.hid (by rw [← HV.out]; rw [nodeF_5, if_neg (by simp [HP0.out, HM0.out]), if_pos (by first | omega | (have a1 := HN1.out; omega) | (have a1 := HN1.out; have a2 := HX1.out; omega))])
           go_wp2
           go_ret
           exact ⟨by rw [HN.out]; rfl, (Turn.refl _ w).alloc _⟩
          case neg =>
           have HX3 := Lib.hid hx3
           have HN : Hid (v = okE pl mi) := Lib.hid (by rw [← HV.out]; rw [nodeF_5, if_neg (by simp [HP0.out, HM0.out]), if_neg (by first | omega | (have a1 := HN1.out; omega) | (have a1 := HN1.out; have a2 := HX1.out; omega))])
           go_wp2_with fail
           refine (HR.out _).mono ?_
           rintro e w2 ⟨rfl, hE2⟩
           have hE02 : Ext w w2 := Turn.trans ((Turn.refl _ w).alloc _) hE2
           clear hE2
           cases z
           all_goals
            go_wp2
            go_ret
            exact ⟨by rw [HN.out]; unfold okE; rw [HZ.out]; rfl, hE02⟩
     case neg =>
      have gn : ((n : Int) == 1) = false := by rw [beq_eq_false_iff_ne]; omega
      have gn3 : ¬ (n : Int) = 1 := by omega
      have HN1 := Lib.hid hn1
      clear hn1
      have HN : Hid (v = 2) := Lib.hid (by rw [← HV.out]; rw [nodeF_5, if_neg (by simp [HP0.out, HM0.out]), if_pos (by first | omega | (have a1 := HN1.out; omega) | (have a1 := HN1.out; have a2 := HX1.out; omega))])
      go_wp2
      go_ret
      exact ⟨by rw [HN.out]; rfl, (Turn.refl _ w).alloc _⟩
   case neg =>
    have gm : ((mi : Int) == 0) = false := by rw [beq_eq_false_iff_ne]; omega
    have HM0 := Lib.hid hm0
    clear hm0
    have HN : Hid (v = 2) := Lib.hid (by rw [← HV.out]; rw [nodeF_5, if_pos (.inr (.inl HM0.out))])
    go_wp2
    go_ret
    exact ⟨by rw [HN.out]; rfl, (Turn.refl _ w).alloc _⟩
  case neg =>
   have gp : ((pl : Int) == 0) = false := by rw [beq_eq_false_iff_ne]; omega
   have HP0 := Lib.hid hp0
   clear hp0
   have HN : Hid (v = 2) := Lib.hid (by rw [← HV.out]; rw [nodeF_5, if_pos (.inl HP0.out)])
   go_wp2
   go_ret
   exact ⟨by rw [HN.out]; rfl, (Turn.refl _ w).alloc _⟩
 ·go_enter Tryz.func101, Tryz.ntmps101
  by_cases hp0 : pl = 0
  case pos =>
   have gp : ((pl : Int) == 0) = true := by rw [beq_iff_eq]; omega
   have HP0 := Lib.hid hp0
   clear hp0
   by_cases hm0 : mi = 0
   case pos =>
    have gm : ((mi : Int) == 0) = true := by rw [beq_iff_eq]; omega
    have HM0 := Lib.hid hm0
    clear hm0
    cases nt
    case true =>
     have HN : Hid (v = 2) := Lib.hid (by rw [← HV.out]; rw [nodeF_6, if_pos (.inr (.inr rfl))])
     go_wp2
     go_ret
     exact ⟨by rw [HN.out]; rfl, (Turn.refl _ w).alloc _⟩
    case false =>
     by_cases hn0 : n = 0
     case pos =>
      have gn : ¬ (0 : Int) < (n : Int) := by omega
      have HN0 := Lib.hid hn0
      clear hn0
      by_cases hmn : mn = 0
      case pos =>
       have gn2 : (mn == 0) = true := by rw [beq_iff_eq]; exact hmn
       have HMN := Lib.hid hmn
       clear hmn
       by_cases hmx : mx = 0
       case pos =>
        have gx : (mx == 0) = true := by rw [beq_iff_eq]; exact hmx
        have HMX := Lib.hid hmx
        clear hmx
        have HN : Hid (v = okE pl mi) := Lib.hid (by rw [← HV.out]; rw [nodeF_6, if_neg (by simp [HP0.out, HM0.out]), if_neg (by simp [HN0.out]), if_neg (by simp [HMN.out, HMX.out])])
        go_wp2_with fail
        refine (HR.out _).mono ?_
        rintro e w2 ⟨rfl, hE2⟩
        have hE02 : Ext w w2 := Turn.trans ((Turn.refl _ w).alloc _) hE2
        clear hE2
        cases z
        all_goals
         go_wp2
         go_ret
         exact ⟨by rw [HN.out]; unfold okE; rw [HZ.out]; rfl, hE02⟩
       case neg =>
        have gx : (mx == 0) = false := by rw [beq_eq_false_iff_ne]; exact hmx
        have HMX := Lib.hid hmx
        clear hmx
        have HN : Hid (v = 2) := Lib.hid (by rw [← HV.out]; rw [nodeF_6, if_neg (by simp [HP0.out, HM0.out]), if_neg (by simp [HN0.out]), if_pos (.inr HMX.out)])
        go_wp2
        go_ret
        exact ⟨by rw [HN.out]; rfl, (Turn.refl _ w).alloc _⟩
      case neg =>
       have gn2 : (mn == 0) = false := by rw [beq_eq_false_iff_ne]; exact hmn
       have HMN := Lib.hid hmn
       clear hmn
       have HN : Hid (v = 2) := Lib.hid (by rw [← HV.out]; rw [nodeF_6, if_neg (by simp [HP0.out, HM0.out]), if_neg (by simp [HN0.out]), if_pos (.inl HMN.out)])
       go_wp2
       go_ret
       exact ⟨by rw [HN.out]; rfl, (Turn.refl _ w).alloc _⟩
     case neg =>
      have gn : (0 : Int) < (n : Int) := by omega
      have HN0 := Lib.hid hn0
      clear hn0
      have HN : Hid (v = 2) := Lib.hid (by rw [← HV.out]; rw [nodeF_6, if_neg (by simp [HP0.out, HM0.out]), if_pos HN0.out])
      go_wp2
      go_ret
      exact ⟨by rw [HN.out]; rfl, (Turn.refl _ w).alloc _⟩
   case neg =>
    have gm : ((mi : Int) == 0) = false := by rw [beq_eq_false_iff_ne]; omega
    have HM0 := Lib.hid hm0
    clear hm0
    have HN : Hid (v = 2) := Lib.hid (by rw [← HV.out]; rw [nodeF_6, if_pos (.inr (.inl HM0.out))])
    go_wp2
    go_ret
    exact ⟨by rw [HN.out]; rfl, (Turn.refl _ w).alloc _⟩
  case neg =>
   have gp : ((pl : Int) == 0) = false := by rw [beq_eq_false_iff_ne]; omega
   have HP0 := Lib.hid hp0
   clear hp0
   have HN : Hid (v = 2) := Lib.hid (by rw [← HV.out]; rw [nodeF_6, if_pos (.inl HP0.out)])
   go_wp2
   go_ret
   exact ⟨by rw [HN.out]; rfl, (Turn.refl _ w).alloc _⟩
end Go.Proofs.YtedhogbocifipaaGreatDoor
