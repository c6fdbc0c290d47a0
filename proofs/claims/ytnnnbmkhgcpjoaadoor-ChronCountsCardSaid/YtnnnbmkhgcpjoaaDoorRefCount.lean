/- ablautref13.Order: Count. -/
import Derived.Test.YtnnnbmkhgcpjoaaDoorRefRed
import Derived.Test.YtnnnbmkhgcpjoaaDoorCntBack
import Derived.Test.YtnnnbmkhgcpjoaaDoorCount
namespace Go.Proofs.YtnnnbmkhgcpjoaaDoor
open Go.RowKit Go.Ab

set_option maxHeartbeats 4000000 in
theorem refCount_many {w : World} {base b n : Nat} {R : Bin} (hn : 16 < n) (h : RefO w base b n R) :
    Calls Tryd.prog 20 #[.pointer (some ⟨b, 0, none⟩)] w fun e w' => e = .returned (.tuple #[.int .i64 0, .int .i64 12]) ∧ w = w' := by
  have cn := h.num
  have hn2 : (16 : Int) < n := by omega
  go_enter Tryd.func20, Tryd.ntmps20
  go_wp2_with (go_at_call 40; refine (refValid_ok h).mono ?_; rintro e w' ⟨rfl, rfl⟩)
  go_ret2
  exact ⟨rfl, rfl⟩

/-- Whether x can be the last of s, as far as the events below a tell. -/
def lastP (R : Bin) (s x a : Nat) : Bool := (List.range a).all fun a => !((R a x && !s.testBit a) || (R x a && s.testBit a))
theorem lastP_zero (R : Bin) (s x : Nat) : lastP R s x 0 = true := rfl
theorem lastP_succ (R : Bin) (s x a : Nat) : lastP R s x (a + 1) = (lastP R s x a && !((R a x && !s.testBit a) || (R x a && s.testBit a))) := by
  unfold lastP; rw [List.range_succ, List.all_append]; simp
theorem lastP_all (n : Nat) (R : Bin) (s x : Nat) : lastP R s x n = lastS n R s x := rfl

theorem i64_bit (c x : Nat) (hc : c < 9223372036854775808) : bits .and .i64 ((c : Int) / 2 ^ x) 1 = if c.testBit x then 1 else 0 := by
  have e : ((c : Int) / 2 ^ x) = ((c / 2 ^ x : Nat) : Int) := by simp
  have hl : c / 2 ^ x ≤ c := Nat.div_le_self _ _
  rw [e]
  show IntKind.i64.wrap ((BitVec.ofInt 64 ((c / 2 ^ x : Nat) : Int) &&& BitVec.ofInt 64 ((1 : Nat) : Int)).toNat : Int) = _
  rw [BitVec.toNat_and, ofInt_u64 _ (by omega), ofInt_u64 1 (by omega), Nat.and_one_is_mod]
  have ht : c.testBit x = decide (c / 2 ^ x % 2 = 1) := by
    rw [Nat.testBit, Nat.shiftRight_eq_div_pow, Nat.and_comm, Nat.and_one_is_mod]
    rcases Nat.mod_two_eq_zero_or_one (c / 2 ^ x) with h | h <;> simp [h]
  rcases Nat.mod_two_eq_zero_or_one (c / 2 ^ x) with h | h <;> simp [h, ht] <;> decide
theorem i64_bit0 (c x : Nat) (hc : c < 9223372036854775808) : (bits .and .i64 ((c : Int) / 2 ^ x) 1 == 0) = !c.testBit x := by
  rw [i64_bit c x hc]; cases c.testBit x <;> rfl
theorem i64_bit1 (c x : Nat) (hc : c < 9223372036854775808) : (bits .and .i64 ((c : Int) / 2 ^ x) 1 == 1) = c.testBit x := by
  rw [i64_bit c x hc]; cases c.testBit x <;> rfl

/-- The row of the reference's table, up to the set c. -/
def manF (n : Nat) (R : Bin) (c : Nat) : Nat → Nat := fun j => if j < c then many n R j else 0

set_option maxRecDepth 100000 in
set_option maxHeartbeats 8000000 in
theorem refCount_ok {w : World} {base b n : Nat} {R : Bin} (hn : n ≤ 9) (hR : Rel n R) (h : RefO w base b n R) :
    Calls Tryd.prog 20 #[.pointer (some ⟨b, 0, none⟩)] w fun e w' => e = .returned (.tuple #[.int .i64 (countR n R), .int .i64 0]) ∧ Ext w w' := by
  have cn := h.num
  have hlt := h.lt
  have hN1 : 1 ≤ 2 ^ n := Nat.one_le_two_pow
  have hN2 : 2 ^ n ≤ 512 := by have := Nat.pow_le_pow_right (n := 2) (by decide) hn; simpa using this
  have hw1 : IntKind.i64.wrap (2 ^ n) = ((2 ^ n : Nat) : Int) := by rw [pow_cast]; exact IntWalk.i64_in _ (by omega)
  obtain ⟨N, hN⟩ : ∃ N, 2 ^ n = N := ⟨_, rfl⟩
  rw [hN] at hw1 hN1 hN2
  have hn2 : ¬ (16 : Int) < n := by omega
  have HN := Lib.hid hN
  have HW1 := Lib.hid hw1
  clear hN
  go_enter Tryd.func20, Tryd.ntmps20
  go_wp2_with (first
    | (go_at_call 40; refine (refValid_ok h).mono ?_; rintro e w' ⟨rfl, rfl⟩)
    | (at_make; refine make_row1 rfl (.tmp 21) (.tmp 21) 71 rfl w.heap.size 2 _ 8 Tryd.underlying71 Tryd.infoI64 rfl .i64 .i64 N N N rfl rfl rfl rfl ?c1 ?c2 (by simp) ?_))
  case c1 => omega
  case c2 => unfold maxLen; omega
  rw [lvRow_zero]
  intro w1 hO1 hE1
  have hol := (hO1.lt _ rfl).2
  have ca := hO1.cellAt 0 (by omega)
  rw [lvRow_get _ _ _ (by omega)] at ca
  have fa := hO1.frozenAt 0
  go_wp2
  have e2 := own_store hO1 0 (.int .i64 (1 : Nat))
  rw [lvRow_set] at e2
  have e3 : lvRow N (upd (fun _ => 0) 0 1) = lvRow N (manF n R 1) := lvRow_congr fun i _ => by
    unfold upd manF
    by_cases e : i = 0
    · subst e; simp [many_zero]
    · rw [if_neg e, if_neg (by omega)]
  rw [e3] at e2
  have hT1 : Turn (· = w.heap.size) w1 (w1.setCell ⟨w.heap.size, 0, none⟩ (.int .i64 1)) := Turn.set1 w1 w.heap.size 0 _
  have hO2 : (w1.setCell ⟨w.heap.size, 0, none⟩ (.int .i64 1)).ownsRow w.heap.size 2 1 (.slice (some ⟨w.heap.size, 0, none⟩) N N) N (lvRow N (manF n R 1)) := e2
  generalize (w1.setCell ⟨w.heap.size, 0, none⟩ (.int .i64 1)) = w2 at hT1 hO2 ⊢
  have hE2 : Ext w w2 := hE1.after hT1 (fun b' h1 h2 => by omega)
  have hgl : w.heap.size < w2.heap.size := (hO2.lt _ rfl).2
  obtain ⟨g, hg⟩ : ∃ g, w.heap.size = g := ⟨_, rfl⟩
  rw [hg] at hO2 hlt hgl ⊢
  clear e2 e3 ca fa hO1 hE1 hT1 hol hw1
  have HG := Lib.hid hg
  clear hg
  refine wp_loop (fun a W => ∃ (c : Nat), 1 ≤ c ∧ c ≤ N ∧ a.defers = [] ∧ (a.tmps.size = 116 ∧ a.tmps.getD 0 undef = .pointer (some ⟨b, 0, none⟩) ∧ a.tmps.getD 2 undef = .int .i64 0 ∧ a.tmps.getD 3 undef = .int .i64 0 ∧ a.tmps.getD 4 undef = .slice (some ⟨g, 0, none⟩) N N ∧ a.tmps.getD 5 undef = .int .i64 c) ∧ W.ownsRow g 2 1 (.slice (some ⟨g, 0, none⟩) N N) N (lvRow N (manF n R c)) ∧ Turn (· = g) w2 W)
    (fun a _ => N - (intOf (a.tmps.getD 5 undef)).toNat) ?_ ?_
  · exact ⟨1, by omega, by omega, rfl, ⟨rfl, rfl, rfl, rfl, rfl, rfl⟩, hO2, Turn.refl _ _⟩
  clear hO2
  rintro ⟨t, _⟩ W ⟨c, hc1, hc, hds, ⟨hsz, f0, f2, f3, f4, f5⟩, hO, ht⟩
  subst hds
  obtain ⟨u', hu⟩ := frame_fun hsz
  obtain ⟨u, rfl⟩ : ∃ x, x = u' := ⟨_, rfl⟩
  have hu' : t = #[u 0, u 1, u 2, u 3, u 4, u 5, u 6, u 7, u 8, u 9, u 10, u 11, u 12, u 13, u 14, u 15, u 16, u 17, u 18, u 19, u 20, u 21, u 22, u 23, u 24, u 25, u 26, u 27, u 28, u 29, u 30, u 31, u 32, u 33, u 34, u 35, u 36, u 37, u 38, u 39, u 40, u 41, u 42, u 43, u 44, u 45, u 46, u 47, u 48, u 49, u 50, u 51, u 52, u 53, u 54, u 55, u 56, u 57, u 58, u 59, u 60, u 61, u 62, u 63, u 64, u 65, u 66, u 67, u 68, u 69, u 70, u 71, u 72, u 73, u 74, u 75, u 76, u 77, u 78, u 79, u 80, u 81, u 82, u 83, u 84, u 85, u 86, u 87, u 88, u 89, u 90, u 91, u 92, u 93, u 94, u 95, u 96, u 97, u 98, u 99, u 100, u 101, u 102, u 103, u 104, u 105, u 106, u 107, u 108, u 109, u 110, u 111, u 112, u 113, u 114, u 115] := hu
  clear hu
  subst hu'
  change u 0 = _ at f0
  change u 2 = _ at f2
  change u 3 = _ at f3
  change u 4 = _ at f4
  change u 5 = _ at f5
  rw [f0, f2, f3, f4, f5]
  clear f0 f2 f3 f4 f5 hsz
  have hEW : Ext w W := hE2.after ht (fun b' h1 h2 => by have := HG.out; omega)
  have hW := h.ext hEW
  have cn := hW.num
  have hw1 := HW1.out
  by_cases hcN : c < N
  · have hc3 : (c : Int) < (N : Int) := by omega
    go_wp2
    have e0 : lvRow N (manF n R c) = lvRow N (upd (manF n R c) c (mpart n R c 0)) := lvRow_congr fun i _ => by
      unfold upd
      by_cases e : i = c
      · subst e; simp [manF, mpart]
      · rw [if_neg e]
    rw [e0] at hO
    refine wp_loop (fun a W => ∃ (x : Nat), x ≤ n ∧ a.defers = [] ∧ (a.tmps.size = 116 ∧ a.tmps.getD 0 undef = .pointer (some ⟨b, 0, none⟩) ∧ a.tmps.getD 2 undef = .int .i64 0 ∧ a.tmps.getD 3 undef = .int .i64 0 ∧ a.tmps.getD 4 undef = .slice (some ⟨g, 0, none⟩) N N ∧ a.tmps.getD 5 undef = .int .i64 c ∧ a.tmps.getD 6 undef = .int .i64 x) ∧ W.ownsRow g 2 1 (.slice (some ⟨g, 0, none⟩) N N) N (lvRow N (upd (manF n R c) c (mpart n R c x))) ∧ Turn (· = g) w2 W)
      (fun a _ => n - (intOf (a.tmps.getD 6 undef)).toNat) ?_ ?_
    · exact ⟨0, by omega, rfl, ⟨rfl, rfl, rfl, rfl, rfl, rfl, rfl⟩, hO, ht⟩
    clear hO ht hW cn hEW hw1 e0
    rintro ⟨t, _⟩ W ⟨x, hx, hds, ⟨hsz, f0, f2, f3, f4, f5, f6⟩, hO, ht⟩
    subst hds
    obtain ⟨u', hu⟩ := frame_fun hsz
    obtain ⟨u, rfl⟩ : ∃ x, x = u' := ⟨_, rfl⟩
    have hu' : t = #[u 0, u 1, u 2, u 3, u 4, u 5, u 6, u 7, u 8, u 9, u 10, u 11, u 12, u 13, u 14, u 15, u 16, u 17, u 18, u 19, u 20, u 21, u 22, u 23, u 24, u 25, u 26, u 27, u 28, u 29, u 30, u 31, u 32, u 33, u 34, u 35, u 36, u 37, u 38, u 39, u 40, u 41, u 42, u 43, u 44, u 45, u 46, u 47, u 48, u 49, u 50, u 51, u 52, u 53, u 54, u 55, u 56, u 57, u 58, u 59, u 60, u 61, u 62, u 63, u 64, u 65, u 66, u 67, u 68, u 69, u 70, u 71, u 72, u 73, u 74, u 75, u 76, u 77, u 78, u 79, u 80, u 81, u 82, u 83, u 84, u 85, u 86, u 87, u 88, u 89, u 90, u 91, u 92, u 93, u 94, u 95, u 96, u 97, u 98, u 99, u 100, u 101, u 102, u 103, u 104, u 105, u 106, u 107, u 108, u 109, u 110, u 111, u 112, u 113, u 114, u 115] := hu
    clear hu
    subst hu'
    change u 0 = _ at f0
    change u 2 = _ at f2
    change u 3 = _ at f3
    change u 4 = _ at f4
    change u 5 = _ at f5
    change u 6 = _ at f6
    rw [f0, f2, f3, f4, f5, f6]
    clear f0 f2 f3 f4 f5 f6 hsz
    have hEW : Ext w W := hE2.after ht (fun b' h1 h2 => by have := HG.out; omega)
    have hW := h.ext hEW
    have cn := hW.num
    by_cases hxn : x < n
    · have hx3 : (x : Int) < (n : Int) := by omega
      have q1 := i64_bit0 c x (by omega)
      have hms := mpart_succ n R c x
      have hml := mpart_le R hn c x (by omega)
      have hml1 := mpart_le R hn c (x + 1) (by omega)
      have HMS := Lib.hid hms
      clear hms
      by_cases hbit : c.testBit x = true
      · rw [hbit] at q1
        have q1' : (bits .and .i64 ((c : Int) / 2 ^ x) 1 == 0) = false := q1
        have HB := Lib.hid hbit
        clear hbit q1
        go_wp2
        refine wp_loop (fun a V => ∃ (y : Nat), y ≤ n ∧ V = W ∧ a.defers = [] ∧ (a.tmps.size = 116 ∧ a.tmps.getD 0 undef = .pointer (some ⟨b, 0, none⟩) ∧ a.tmps.getD 2 undef = .int .i64 0 ∧ a.tmps.getD 3 undef = .int .i64 0 ∧ a.tmps.getD 4 undef = .slice (some ⟨g, 0, none⟩) N N ∧ a.tmps.getD 5 undef = .int .i64 c ∧ a.tmps.getD 6 undef = .int .i64 x ∧ a.tmps.getD 7 undef = .bool (lastP R c x y) ∧ a.tmps.getD 8 undef = .int .i64 y))
          (fun a _ => n - (intOf (a.tmps.getD 8 undef)).toNat) ?_ ?_
        · exact ⟨0, by omega, rfl, rfl, ⟨rfl, rfl, rfl, rfl, rfl, rfl, rfl, rfl, rfl⟩⟩
        clear q1'
        rintro ⟨t, _⟩ W ⟨y, hy, rfl, hds, ⟨hsz, f0, f2, f3, f4, f5, f6, f7, f8⟩⟩
        subst hds
        obtain ⟨u', hu⟩ := frame_fun hsz
        obtain ⟨u, rfl⟩ : ∃ x, x = u' := ⟨_, rfl⟩
        have hu' : t = #[u 0, u 1, u 2, u 3, u 4, u 5, u 6, u 7, u 8, u 9, u 10, u 11, u 12, u 13, u 14, u 15, u 16, u 17, u 18, u 19, u 20, u 21, u 22, u 23, u 24, u 25, u 26, u 27, u 28, u 29, u 30, u 31, u 32, u 33, u 34, u 35, u 36, u 37, u 38, u 39, u 40, u 41, u 42, u 43, u 44, u 45, u 46, u 47, u 48, u 49, u 50, u 51, u 52, u 53, u 54, u 55, u 56, u 57, u 58, u 59, u 60, u 61, u 62, u 63, u 64, u 65, u 66, u 67, u 68, u 69, u 70, u 71, u 72, u 73, u 74, u 75, u 76, u 77, u 78, u 79, u 80, u 81, u 82, u 83, u 84, u 85, u 86, u 87, u 88, u 89, u 90, u 91, u 92, u 93, u 94, u 95, u 96, u 97, u 98, u 99, u 100, u 101, u 102, u 103, u 104, u 105, u 106, u 107, u 108, u 109, u 110, u 111, u 112, u 113, u 114, u 115] := hu
        clear hu
        subst hu'
        change u 0 = _ at f0
        change u 2 = _ at f2
        change u 3 = _ at f3
        change u 4 = _ at f4
        change u 5 = _ at f5
        change u 6 = _ at f6
        change u 7 = _ at f7
        change u 8 = _ at f8
        rw [f0, f2, f3, f4, f5, f6, f7, f8]
        clear f0 f2 f3 f4 f5 f6 f7 f8 hsz
        by_cases hyn : y < n
        · have hy3 : (y : Int) < (n : Int) := by omega
          have HO := Lib.hid hO
          obtain ⟨go, co, c2, htab⟩ := RefK.table hW (by omega)
          obtain ⟨gy, cy, r1, rc⟩ := htab y hyn
          obtain ⟨gx, cx, r2, rd⟩ := htab x hxn
          have d1 := rc x hxn
          have d2 := rd y hyn
          have q1 := i64_bit0 c y (by omega)
          have q2 := i64_bit1 c y (by omega)
          have hls := lastP_succ R c x y
          obtain ⟨A, hA⟩ : ∃ A, R y x = A := ⟨_, rfl⟩
          obtain ⟨B, hB⟩ : ∃ B, R x y = B := ⟨_, rfl⟩
          obtain ⟨C, hC⟩ : ∃ C, c.testBit y = C := ⟨_, rfl⟩
          obtain ⟨L, hL⟩ : ∃ L, lastP R c x y = L := ⟨_, rfl⟩
          rw [hA, hB, hC, hL] at hls
          rw [hA] at d1
          rw [hB] at d2
          rw [hC] at q1 q2
          rw [hL]
          have HLS := Lib.hid hls; have HH := Lib.hid hW
          clear hls hA hB hC hL htab rc rd hO hW
          cases A <;> cases B <;> cases C
          all_goals
            go_wp2
            refine ⟨⟨y + 1, by omega, ?_⟩, by simp [intOf]; omega⟩
            rw [HLS.out]
            cases L <;> simp
        · obtain rfl : y = n := by omega
          have hy3 : ¬ (y : Int) < (y : Int) := by omega
          rw [lastP_all]
          by_cases hlst : lastS y R c x = true
          · rw [hlst]
            have hpx := (xor_sub HB.out).2
            have hpw : 2 ^ x ≤ 512 := by omega
            have hmt : mterm y R c x = many y R (c - 2 ^ x) := by unfold mterm bwd; rw [HB.out, hlst]; rfl
            have hpos : 0 < 2 ^ x := Nat.two_pow_pos x
            have c1 := hO.cellAt c (by omega)
            rw [lvRow_get _ _ _ (by omega)] at c1
            have c2 := hO.cellAt (c - 2 ^ x) (by omega)
            rw [lvRow_get _ _ _ (by omega)] at c2
            have u1 : upd (manF y R c) c (mpart y R c x) c = mpart y R c x := by simp [upd]
            have u2 : upd (manF y R c) c (mpart y R c x) (c - 2 ^ x) = many y R (c - 2 ^ x) := by
              unfold upd manF; rw [if_neg (by omega), if_pos (by omega)]
            rw [u1] at c1
            rw [u2] at c2
            have fz := hO.frozenAt c
            have hst := own_store hO c (.int .i64 ((mpart y R c (x + 1) : Nat) : Int))
            rw [lvRow_set] at hst
            have hsum : mpart y R c (x + 1) = mpart y R c x + many y R (c - 2 ^ x) := by rw [HMS.out, hmt]
            have hw2 : IntKind.i64.wrap (2 ^ x) = ((2 ^ x : Nat) : Int) := by rw [pow_cast]; exact IntWalk.i64_in _ (by omega)
            obtain ⟨P, hP⟩ : ∃ P, 2 ^ x = P := ⟨_, rfl⟩
            rw [hP] at hpx hpw hpos c2 hsum hw2
            obtain ⟨m0, hm0⟩ : ∃ m, mpart y R c x = m := ⟨_, rfl⟩
            obtain ⟨m1, hm1⟩ : ∃ m, many y R (c - P) = m := ⟨_, rfl⟩
            rw [hm0] at c1 hml hsum
            rw [hm1] at c2 hsum
            rw [hsum] at hml1 hst
            obtain ⟨d, hd⟩ : ∃ d, c - P = d := ⟨_, rfl⟩
            rw [hd] at c2
            have hd2 : (c : Int) - (P : Int) = (d : Int) := by omega
            have hst' : (W.setCell ⟨g, c, none⟩ (.int .i64 ((m0 + m1 : Nat) : Int))).ownsRow g 2 1 (.slice (some ⟨g, 0, none⟩) N N) N (lvRow N (upd (manF y R c) c (mpart y R c (x + 1)))) := by
              have e : upd (upd (manF y R c) c (mpart y R c x)) c (m0 + m1) = upd (manF y R c) c (mpart y R c (x + 1)) := by
                funext i; unfold upd
                by_cases hi : i = c
                · rw [if_pos hi, if_pos hi, hsum]
                · rw [if_neg hi, if_neg hi, if_neg hi]
              rw [← e]; exact hst
            have htt : Turn (· = g) w2 (W.setCell ⟨g, c, none⟩ (.int .i64 ((m0 + m1 : Nat) : Int))) := ht.setCell (p := ⟨g, c, none⟩) (.inr rfl) _
            have HST := Lib.hid hst'; have HTT := Lib.hid htt; have HMT := Lib.hid hmt; have HSU := Lib.hid hsum
            clear hst hst' htt hmt hsum hlst hP hm0 hm1 hd u1 u2
            have hlm : (0 : Int) ≤ (m0 : Int) + m1 := by omega
            have hlm2 : (m0 : Int) + m1 ≤ 3486784401 := by omega
            go_wp2
            go_region
            all_goals go_wp2
            all_goals exact ⟨⟨x + 1, by omega, by first | rfl | trivial, ⟨rfl, rfl, rfl, rfl, rfl, rfl, rfl⟩, HST.out, HTT.out.drew⟩, by simp [intOf]; omega⟩
          · have hlst : lastS y R c x = false := by simpa using hlst
            rw [hlst]
            have hm0 : mpart y R c (x + 1) = mpart y R c x := by rw [HMS.out]; simp [mterm, bwd, hlst]
            rw [← hm0] at hO
            have HM0 := Lib.hid hm0; have HLS := Lib.hid hlst
            clear hm0 hlst
            go_wp2
            exact ⟨⟨x + 1, by omega, by simp, hO⟩, by simp [intOf]; omega⟩
      · have hbit : c.testBit x = false := by simpa using hbit
        rw [hbit] at q1
        have q1' : (bits .and .i64 ((c : Int) / 2 ^ x) 1 == 0) = true := q1
        have hm0 : mpart n R c (x + 1) = mpart n R c x := by rw [HMS.out]; simp [mterm, bwd, hbit]
        rw [← hm0] at hO
        have HB := Lib.hid hbit; have HM0 := Lib.hid hm0
        clear hbit q1 hm0
        go_wp2
        exact ⟨⟨x + 1, by omega, by first | rfl | trivial, ⟨rfl, rfl, rfl, rfl, rfl, rfl, rfl⟩, hO, ht⟩, by simp [intOf]; omega⟩
    · obtain rfl : x = n := by omega
      have hx3 : ¬ (x : Int) < (x : Int) := by omega
      have e1 : lvRow N (upd (manF x R c) c (mpart x R c x)) = lvRow N (manF x R (c + 1)) := lvRow_congr fun i _ => by
        unfold upd manF
        by_cases e : i = c
        · subst e
          rw [if_pos rfl, if_pos (by omega), many_step R (by rw [HN.out]; omega) (by omega)]; rfl
        · rw [if_neg e]
          by_cases h2 : i < c
          · rw [if_pos h2, if_pos (by omega)]
          · rw [if_neg h2, if_neg (by omega)]
      rw [e1] at hO
      clear e1
      go_wp2
      exact ⟨⟨c + 1, by omega, by omega, by simp, hO⟩, by simp [intOf]; omega⟩
  · obtain rfl : c = N := by omega
    have hc3 : ¬ (c : Int) < (c : Int) := by omega
    have cW := hO.cellAt (c - 1) (by omega)
    have e1 : manF n R c (c - 1) = countR n R := by
      unfold manF
      rw [if_pos (by omega), ← HN.out, many_full hR]
    rw [lvRow_get _ _ _ (by omega), e1] at cW
    clear e1
    have hz : ((c : Int) - 1).toNat = c - 1 := by omega
    go_wp2
    go_ret2
    exact ⟨rfl, hEW⟩
end Go.Proofs.YtnnnbmkhgcpjoaaDoor
