/- pats.valid, and slices.ContainsFunc over the sounds of a word. -/
import Derived.Test.YtapfoaiibjdfnaaDoorCompile
namespace Go.Proofs.YtapfoaiibjdfnaaDoor
open Go.RowKit Go.Ab

set_option maxHeartbeats 2000000 in
theorem valid_any (a b : Nat) (ha : a < 4294967296) (hb : b < 4294967296) (w : World) :
    Calls Tryd.prog 68 #[.agg #[.int .u32 (a : Int), .int .u32 (b : Int)]] w fun e w' => e = .returned (.bool (okSound a b)) ∧ Ext w w' := by
  obtain ⟨o1, o2⟩ := okSound_bits ha hb
  have hl : a ||| b < 4294967296 := Nat.or_lt_two_pow (n := 32) ha hb
  have hok : okSound a b = ((a &&& b == 0) && ((a ||| b) / 16777216 == 0)) := rfl
  obtain ⟨x, hx⟩ : ∃ x, (a &&& b == 0) = x := ⟨_, rfl⟩
  obtain ⟨c, hc⟩ : ∃ c, a ||| b = c := ⟨_, rfl⟩
  rw [hx] at o1 hok
  rw [hc] at o2 hok hl
  have q : ((c : Int) / 16777216 == 0) = (c / 16777216 == 0) := by
    apply Bool.eq_iff_iff.2
    rw [beq_iff_eq, beq_iff_eq]; omega
  obtain ⟨y, hy⟩ : ∃ y, (c / 16777216 == 0) = y := ⟨_, rfl⟩
  rw [hy] at q hok
  have HOK := Lib.hid hok
  clear hok hx hc hy
  go_enter Tryd.func68, Tryd.ntmps68
  cases x
  · go_wp2
    go_ret
    exact ⟨by rw [HOK.out]; rfl, (Turn.refl _ _).alloc _⟩
  · go_wp2
    go_ret
    exact ⟨by rw [HOK.out]; rfl, (Turn.refl _ _).alloc _⟩

theorem bad_any (a b : Nat) (ha : a < 4294967296) (hb : b < 4294967296) (w : World) :
    Calls Tryd.prog 67 #[.agg #[.int .u32 (a : Int), .int .u32 (b : Int)]] w fun e w' => e = .returned (.bool (!okSound a b)) ∧ Ext w w' := by
  go_enter Tryd.func67, Tryd.ntmps67
  go_wp2_with fail
  refine (valid_any a b ha hb _).mono ?_
  rintro e w2 ⟨rfl, hE2⟩
  have hE := ((Turn.refl (fun _ => False) w).alloc (.cells #[.int .u32 (a : Int), .int .u32 (b : Int)] 24)).trans hE2
  go_wp2
  go_ret
  exact ⟨rfl, hE⟩

/-- All sounds of a word are valid. -/
def allV (ws : Wd) : Bool := ws.all fun s => okSound s.1 s.2
theorem allV_snoc (ws : Wd) (s : Nat × Nat) : allV (ws ++ [s]) = (allV ws && okSound s.1 s.2) := by simp [allV]
theorem allV_at {ws : Wd} {k : Nat} (hk : k < ws.length) (h : okSound (ws.getD k (0, 0)).1 (ws.getD k (0, 0)).2 = false) : allV ws = false := by
  unfold allV
  rw [List.all_eq_false]
  refine ⟨ws[k], List.getElem_mem hk, ?_⟩
  rw [List.getD_eq_getElem?_getD, List.getElem?_eq_getElem hk] at h
  simpa using h
theorem allV_take {ws : Wd} {k : Nat} (hk : k < ws.length) (h0 : allV (ws.take k) = true) (h : okSound (ws.getD k (0, 0)).1 (ws.getD k (0, 0)).2 = true) : allV (ws.take (k + 1)) = true := by
  rw [List.take_succ_eq_append_getElem hk, allV_snoc, h0]
  rw [List.getD_eq_getElem?_getD, List.getElem?_eq_getElem hk] at h
  simpa using h

set_option maxRecDepth 100000 in
set_option maxHeartbeats 4000000 in
theorem index_bad {w : World} {v : Value} {ws : Wd} (hv : WordAt w v ws) :
    Calls Tryd.prog 86 #[v, .func (.func 67) #[] #[]] w fun e w' => ∃ z : Int, e = .returned (.int .i64 z) ∧ decide (0 ≤ z) = (!allV ws) ∧ Ext w w' := by
  obtain ⟨ao, cap, rfl, hlm⟩ := hv.slice
  unfold maxLen at hlm
  have HV := Lib.hid hv
  clear hv
  obtain ⟨N, hN⟩ : ∃ N, ws.length = N := ⟨_, rfl⟩
  have HN := Lib.hid hN
  rw [hN] at hlm HV ⊢
  clear hN
  go_enter Tryd.func86, Tryd.ntmps86
  go_wp2
  refine wp_loop (fun a W => ∃ (k : Nat), k ≤ N ∧ a.defers = [] ∧ (a.tmps.size = 19 ∧ a.tmps.getD 0 undef = .slice ao N cap ∧ a.tmps.getD 1 undef = .func (.func 67) #[] #[] ∧ a.tmps.getD 7 undef = .int .i64 N ∧ a.tmps.getD 8 undef = .int .i64 k) ∧ allV (ws.take k) = true ∧ Ext w W)
    (fun a _ => N - (intOf (a.tmps.getD 8 undef)).toNat) ?_ ?_
  · exact ⟨0, by omega, rfl, ⟨rfl, rfl, rfl, rfl, rfl⟩, by simp [allV], Turn.refl _ _⟩
  rintro ⟨t, _⟩ W ⟨k, hk, hds, ⟨hsz, f0, f1, f7, f8⟩, hall, hE⟩
  subst hds
  obtain ⟨u', hu⟩ := frame_fun hsz
  obtain ⟨u, rfl⟩ : ∃ x, x = u' := ⟨_, rfl⟩
  have hu' : t = #[u 0, u 1, u 2, u 3, u 4, u 5, u 6, u 7, u 8, u 9, u 10, u 11, u 12, u 13, u 14, u 15, u 16, u 17, u 18] := hu
  clear hu
  subst hu'
  change u 0 = _ at f0
  change u 1 = _ at f1
  change u 7 = _ at f7
  change u 8 = _ at f8
  rw [f0, f1, f7, f8]
  clear f0 f1 f7 f8 hsz
  have HALL := Lib.hid hall
  clear hall
  by_cases hkN : k < N
  · have h1 : (k : Int) < (N : Int) := by omega
    have hkl : k < ws.length := by rw [HN.out]; exact hkN
    obtain ⟨g, off, cap', he, hg, d1, d2⟩ := (HV.out.ext hE).at hkl
    simp only [Value.slice.injEq] at he
    obtain ⟨rfl, hq', rfl⟩ := he
    clear hq'
    obtain ⟨hs1, hs2⟩ := HV.out.2.get k hkl
    obtain ⟨a, ha⟩ : ∃ a, (ws.getD k (0, 0)).1 = a := ⟨_, rfl⟩
    obtain ⟨b, hb⟩ : ∃ b, (ws.getD k (0, 0)).2 = b := ⟨_, rfl⟩
    rw [ha] at d1 hs1
    rw [hb] at d2 hs2
    have HA := Lib.hid ha; have HB := Lib.hid hb
    clear ha hb
    go_wp2_with fail
    refine (bad_any a b hs1 hs2 W).mono ?_
    rintro e W2 ⟨rfl, hE2⟩
    have hE02 := hE.trans hE2
    clear hE hE2 d1 d2
    cases hok : okSound a b
    · have hfin : allV ws = false := allV_at hkl (by rw [HA.out, HB.out]; exact hok)
      have HF := Lib.hid hfin
      clear hfin hok
      go_wp2
      go_ret
      exact ⟨_, rfl, by rw [HF.out]; simp, hE02⟩
    · have hfin := allV_take hkl HALL.out (by rw [HA.out, HB.out]; exact hok)
      have HF := Lib.hid hfin
      clear hfin hok
      go_wp2
      exact ⟨⟨k + 1, by omega, by first | rfl | trivial, ⟨rfl, rfl, rfl, rfl, rfl⟩, HF.out, hE02⟩, by simp [intOf]; omega⟩
  · obtain rfl : k = N := by omega
    have h1 : ¬ (k : Int) < (k : Int) := by omega
    have hfin : allV ws = true := by have := HALL.out; rwa [List.take_of_length_le (by rw [HN.out]; exact Nat.le_refl _)] at this
    have HF := Lib.hid hfin
    clear hfin
    go_wp2
    go_ret
    exact ⟨_, rfl, by rw [HF.out]; simp, hE⟩
theorem contains_bad {w : World} {v : Value} {ws : Wd} (hv : WordAt w v ws) :
    Calls Tryd.prog 66 #[v, .func (.func 67) #[] #[]] w fun e w' => e = .returned (.bool (!allV ws)) ∧ Ext w w' := by
  go_enter Tryd.func66, Tryd.ntmps66
  go_wp2_with fail
  refine (index_bad hv).mono ?_
  rintro e w2 ⟨z, rfl, hz, hE⟩
  have HZ := Lib.hid hz
  clear hz
  go_wp2
  go_ret
  exact ⟨by rw [HZ.out]; rfl, hE⟩
end Go.Proofs.YtapfoaiibjdfnaaDoor
