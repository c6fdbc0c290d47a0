/- word.valid, word.Check; good. -/
import Derived.Test.YtapfoaiibjdfnaaDoorCheckP
namespace Go.Proofs.YtapfoaiibjdfnaaDoor
open Go.RowKit Go.Ab
attribute [local go_sem] Oper.semAt_some wide_fn wide_depth

theorem wvalid_any (a b : Nat) (ha : a < 4294967296) (hb : b < 4294967296) (w : World) :
    Calls Tryd.prog 79 #[.agg #[.int .u32 (a : Int), .int .u32 (b : Int)]] w fun e w' => e = .returned (.bool (okSound a b)) ∧ Ext w w' := by
  obtain ⟨o1, o2⟩ := okSound_bits ha hb
  have hl : a ||| b < 4294967296 := Nat.or_lt_two_pow (n := 32) ha hb
  have hok : okSound a b = ((a &&& b == 0) && ((a ||| b) / 16777216 == 0)) := rfl
  obtain ⟨x, hx⟩ : ∃ x, (a &&& b == 0) = x := ⟨_, rfl⟩
  obtain ⟨c, hc⟩ : ∃ c, a ||| b = c := ⟨_, rfl⟩
  rw [hx] at o1 hok
  rw [hc] at o2 hok hl
  have q : ((c : Int) / 16777216 == 0) = (c / 16777216 == 0) := by
    apply Bool.eq_iff_iff.2
    rw [beq_iff_eq, beq_iff_eq]; omega
  obtain ⟨y, hy⟩ : ∃ y, (c / 16777216 == 0) = y := ⟨_, rfl⟩
  rw [hy] at q hok
  have HOK := Lib.hid hok
  clear hok hx hc hy
  go_enter Tryd.func79, Tryd.ntmps79
  cases x
  · go_wp2
    go_ret
    exact ⟨by rw [HOK.out]; rfl, (Turn.refl _ _).alloc _⟩
  · go_wp2
    go_ret
    exact ⟨by rw [HOK.out]; rfl, (Turn.refl _ _).alloc _⟩

def wE (ws : Wd) : Int := if 32 < ws.length then 11 else if allV ws = true then 0 else 14

set_option maxRecDepth 100000 in
set_option maxHeartbeats 4000000 in
theorem wcheck_any {w : World} {v : Value} {ws : Wd} (hv : WordAt w v ws) :
    Calls Tryd.prog 54 #[v] w fun e w' => e = .returned (.int .i64 (wE ws)) ∧ Ext w w' := by
  obtain ⟨ao, cap, rfl, hlm⟩ := hv.slice
  unfold maxLen at hlm
  have HV := Lib.hid hv
  clear hv
  obtain ⟨N, hN⟩ : ∃ N, ws.length = N := ⟨_, rfl⟩
  have HN := Lib.hid hN
  have HE : Hid (wE ws = if 32 < N then 11 else if allV ws = true then 0 else 14) := Lib.hid (by unfold wE; rw [hN])
  rw [hN] at hlm HV ⊢
  clear hN
  by_cases h32 : 32 < N
  · rw [if_pos h32] at HE
    have h1 : (32 : Int) < (N : Int) := by omega
    go_enter Tryd.func54, Tryd.ntmps54
    go_wp2
    go_ret
    exact ⟨by rw [HE.out]; rfl, Turn.refl _ _⟩
  rw [if_neg h32] at HE
  have h0 : ¬ (32 : Int) < (N : Int) := by omega
  go_enter Tryd.func54, Tryd.ntmps54
  go_wp2
  refine wp_loop (fun a W => ∃ (k : Nat), k ≤ N ∧ a.defers = [] ∧ (a.tmps.size = 18 ∧ a.tmps.getD 8 undef = .slice ao N cap ∧ a.tmps.getD 9 undef = .int .i64 N ∧ a.tmps.getD 10 undef = .int .i64 k) ∧ allV (ws.take k) = true ∧ Ext w W)
    (fun a _ => N - (intOf (a.tmps.getD 10 undef)).toNat) ?_ ?_
  · exact ⟨0, by omega, rfl, ⟨rfl, rfl, rfl, rfl⟩, by simp [allV], Turn.refl _ _⟩
  rintro ⟨t, _⟩ W ⟨k, hk, hds, ⟨hsz, f8, f9, f10⟩, hall, hE⟩
  subst hds
  obtain ⟨u', hu⟩ := frame_fun hsz
  obtain ⟨u, rfl⟩ : ∃ x, x = u' := ⟨_, rfl⟩
  have hu' : t = #[u 0, u 1, u 2, u 3, u 4, u 5, u 6, u 7, u 8, u 9, u 10, u 11, u 12, u 13, u 14, u 15, u 16, u 17] := hu
  clear hu
  subst hu'
  change u 8 = _ at f8
  change u 9 = _ at f9
  change u 10 = _ at f10
  rw [f8, f9, f10]
  clear f8 f9 f10 hsz
  have HALL := Lib.hid hall
  clear hall
  by_cases hkN : k < N
  · have h1 : (k : Int) < (N : Int) := by omega
    have hkl : k < ws.length := by rw [HN.out]; exact hkN
    obtain ⟨g, off, cap', he, hg, d1, d2⟩ := (HV.out.ext hE).at hkl
    simp only [Value.slice.injEq] at he
    obtain ⟨rfl, hq', rfl⟩ := he
    clear hq'
    obtain ⟨hs1, hs2⟩ := HV.out.2.get k hkl
    obtain ⟨a, ha⟩ : ∃ a, (ws.getD k (0, 0)).1 = a := ⟨_, rfl⟩
    obtain ⟨b, hb⟩ : ∃ b, (ws.getD k (0, 0)).2 = b := ⟨_, rfl⟩
    rw [ha] at d1 hs1
    rw [hb] at d2 hs2
    have HA := Lib.hid ha; have HB := Lib.hid hb
    clear ha hb
    go_wp2_with fail
    refine (wvalid_any a b hs1 hs2 _).mono ?_
    rintro e W2 ⟨rfl, hE2⟩
    have hE02 : Ext w W2 := hE.trans (Turn.trans ((Turn.refl _ W).alloc _) hE2)
    clear hE hE2 d1 d2
    cases hok : okSound a b
    · have hfin : allV ws = false := allV_at hkl (by rw [HA.out, HB.out]; exact hok)
      have HF := Lib.hid hfin
      clear hfin hok
      go_wp2
      go_ret
      exact ⟨by rw [HE.out, HF.out]; rfl, hE02⟩
    · have hfin := allV_take hkl HALL.out (by rw [HA.out, HB.out]; exact hok)
      have HF := Lib.hid hfin
      clear hfin hok
      go_wp2
      exact ⟨⟨k + 1, by omega, by first | rfl | trivial, ⟨rfl, rfl, rfl, rfl⟩, HF.out, hE02⟩, by simp [intOf]; omega⟩
  · obtain rfl : k = N := by omega
    have h1 : ¬ (k : Int) < (k : Int) := by omega
    have hfin : allV ws = true := by have := HALL.out; rwa [List.take_of_length_le (by rw [HN.out]; exact Nat.le_refl _)] at this
    have HF := Lib.hid hfin
    clear hfin
    go_wp2
    go_ret
    exact ⟨by rw [HE.out, HF.out]; rfl, hE⟩

def goodV (p : Pat) (ws : Wd) : Bool := decide (ws.length ≤ 32) && decide (wE ws = 0) && decide (chkP p = 0)
set_option maxRecDepth 100000 in
set_option maxHeartbeats 4000000 in
theorem good_any {K : Nat → Prop} {w : World} {p : Pat} {cs : List Value} {v : Value} {ws : Wd} (hp : PatAt K w p cs) (hK : ∀ g, K g → g < w.heap.size) (hv : WordAt w v ws) (hT : Tab w) :
    Calls Tryd.prog 26 #[.agg cs.toArray, v] w fun e w' => e = .returned (.bool (goodV p ws)) ∧ Ext w w' := by
  have hck := fun (V : World) (hE : Ext w V) => check_any (K := K) (hp.ext hE) (fun g hg => Nat.lt_of_lt_of_le (hK g hg) hE.size) (hT.keep hE id)
  have hwc := fun (V : World) (hE : Ext w V) => wcheck_any (hv.ext hE)
  obtain ⟨ao, cap, rfl, hlc, hcm, _⟩ := patAt_cells hp
  obtain ⟨bo, bcap, rfl, hbm⟩ := hv.slice
  clear hp hlc hcm hv hT hK
  obtain ⟨z, hz⟩ : ∃ z, chkP p = z := ⟨_, rfl⟩
  obtain ⟨y, hy⟩ : ∃ z, wE ws = z := ⟨_, rfl⟩
  obtain ⟨n, hN⟩ : ∃ n, ws.length = n := ⟨_, rfl⟩
  have HE : Hid (goodV p ws = (decide (n ≤ 32) && decide (y = 0) && decide (z = 0))) := Lib.hid (by unfold goodV; rw [hz, hy, hN])
  have HCK := Lib.hid hck; have HWC := Lib.hid hwc
  rw [hz] at HCK
  rw [hy, hN] at HWC
  rw [hN] at hbm ⊢
  clear hck hwc hz hy hN
  unfold maxLen at hbm
  unfold patCells at HCK ⊢
  by_cases hn : n ≤ 32
  · have h1 : (n : Int) ≤ 32 := by omega
    go_enter Tryd.func26, Tryd.ntmps26
    go_wp2_with fail
    refine (HWC.out _ ((Turn.refl _ w).alloc _)).mono ?_
    rintro e w2 ⟨rfl, hE2⟩
    have hE02 : Ext w w2 := Turn.trans ((Turn.refl _ w).alloc _) hE2
    have hx : w2.heap[w.heap.size]? = some (.cells #[.int .i64 p.k, .int .u32 (p.pl : Int), .int .u32 (p.mi : Int), .bool p.nt, .int .i64 p.mn, .int .i64 p.mx, .slice ao p.l.length cap] 27 (0, 0)) := hE2.keep (new_at rfl)
    have cX := fun j => cell_of_row _ _ j _ _ _ hx
    clear hE2
    by_cases hy0 : y = 0
    · have hy1 : (y == 0) = true := by rw [beq_iff_eq]; exact hy0
      go_wp2_with fail
      refine (HCK.out _ hE02).mono ?_
      rintro e w3 ⟨rfl, hE3⟩
      have hE03 := hE02.trans hE3
      clear hE3 cX hx
      go_wp2
      go_ret
      refine ⟨?_, hE03⟩
      rw [HE.out, decide_eq_true hn, decide_eq_true hy0, Bool.true_and, Bool.true_and]
      rfl
    · have hy1 : (y == 0) = false := by rw [beq_eq_false_iff_ne]; exact hy0
      go_wp2
      go_ret
      exact ⟨by rw [HE.out, decide_eq_false hy0, Bool.and_false, Bool.false_and]; rfl, hE02⟩
  · have h1 : ¬ (n : Int) ≤ 32 := by omega
    go_enter Tryd.func26, Tryd.ntmps26
    go_wp2
    go_ret
    exact ⟨by rw [HE.out, decide_eq_false hn, Bool.false_and, Bool.false_and]; rfl, (Turn.refl _ w).alloc _⟩
end Go.Proofs.YtapfoaiibjdfnaaDoor
