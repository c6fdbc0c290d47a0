/- chron.Order.Allows, Copy; Before's errors. -/
import Derived.Test.YtnnnbmkhgcpjoaaDoorFirst
namespace Go.Proofs.YtnnnbmkhgcpjoaaDoor
open Go.RowKit Go.Ab

/-- An order that is read: the events that have come, and whether each was possible; none: it is no list of different events. -/
def alGo (n : Nat) (R : Nat → Nat → Bool) : List Int → List Nat → Bool → Option (List Nat × Bool)
  | [], d, b => some (d, b)
  | x :: l, d, b => if isEv n x && !d.contains x.toNat then alGo n R l (d ++ [x.toNat]) (b && (List.range n).all fun a => !R a x.toNat || d.contains a) else none
def allowsR (n : Nat) (R : Nat → Nat → Bool) (l : List Int) : Bool × Int :=
  match alGo n R l [] true with
  | some (_, b) => if l.length = n then (b, 0) else (false, 2)
  | none => (false, 2)

theorem alGo_append (n : Nat) (R : Nat → Nat → Bool) : ∀ (l m : List Int) (d : List Nat) (b : Bool), alGo n R (l ++ m) d b = (alGo n R l d b).bind fun p => alGo n R m p.1 p.2
  | [], m, d, b => by simp [alGo]
  | x :: l, m, d, b => by
    simp only [List.cons_append, alGo]
    split
    · exact alGo_append n R l m _ _
    · rfl

set_option maxHeartbeats 4000000 in
theorem allows_any (b n : Nat) (R : Nat → Nat → Bool) (hn : n ≤ 64) (w : World) (ho : OrdR w b n R) (v : Value) (L : List Int) (hv : Rd w v L.length 1 (ints L)) :
    Calls Tryd.prog 21 #[.pointer (some ⟨b, 0, none⟩), v] w fun e w' => e = .returned (.tuple #[.bool (allowsR n R L).1, .int .i64 (allowsR n R L).2]) ∧ w = w' := by
  obtain ⟨hl1, hm1, ap, cp, rfl, hR⟩ := hv
  unfold maxLen at hm1
  have cn := ho.n
  have cm := ho.made
  go_enter Tryd.func21, Tryd.ntmps21
  go_wp2
  go_loop [6, 7, 21] (fun dv iv cv => ∃ (k : Nat) (d : List Nat) (is : Bool), k ≤ L.length ∧ cv = .int .i64 k ∧ dv = .int .u64 (setL n d) ∧ iv = .bool is ∧ alGo n R (L.take k) [] true = some (d, is)) (fun _ _ cv => L.length - (intOf cv).toNat)
  case atStart => exact ⟨0, [], true, Nat.zero_le _, rfl, by simp [setL_nil], rfl, by simp [alGo]⟩
  case round =>
    obtain ⟨k, d, is, hk, rfl, rfl, rfl, hal⟩ := hrel
    by_cases hlt : k < L.length
    · obtain ⟨g, off, rfl, hg, hc⟩ := hR (by omega)
      obtain ⟨x, hx⟩ : ∃ x, L[k] = x := ⟨_, rfl⟩
      have c1 := hc k (by omega)
      rw [ints_getD _ _ hlt, show L.getD k 0 = x by simp [List.getD_eq_getElem?_getD, hlt, hx]] at c1
      have htk : L.take (k + 1) = L.take k ++ [x] := by rw [List.take_succ_eq_append_getElem hlt, hx]
      have hstep : alGo n R (L.take (k + 1)) [] true = alGo n R [x] d is := by rw [htk, alGo_append, hal]; rfl
      have hmono : alGo n R (L.take (k + 1)) [] true = none → alGo n R L [] true = none := by
        intro h
        rw [← List.take_append_drop (k + 1) L, alGo_append, h]; rfl
      simp only [alGo] at hstep
      by_cases hev : 0 ≤ x ∧ x < n
      · have e1 := isEv_true hev.1 hev.2
        obtain ⟨x, rfl⟩ := Int.eq_ofNat_of_zero_le hev.1
        have hxn : x < n := by omega
        have hx64 : (x : Int) < 64 := by omega
        have b1 := shr_bit (setL n d) x (mask_lt64 hn _)
        have b3 : (setL n d).testBit x = d.contains x := by rw [setL, testBit_mask]; simp; omega
        rw [b3] at b1
        have cB := ho.bf x (by omega)
        have b2 : (bits .andNot .u64 ((bfR n R x : Nat) : Int) ((setL n d : Nat) : Int) == 0) = (List.range n).all fun a => !R a x || d.contains a := andNot_zero hn _ _
        have b4 := setL_snoc hxn d
        have o1 := u64_or_shl (setL n d) x (mask_lt64 hn _) (by omega)
        rw [b4] at o1
        simp only [e1, Int.toNat_natCast, Bool.true_and] at hstep
        have HS := Lib.hid hstep; have HM := Lib.hid hmono; have HX := Lib.hid hx
        clear hstep hmono hx hal b3 b4 htk hc hR hev
        by_cases hcd : d.contains x = true
        · rw [hcd] at b1
          have HC := Lib.hid hcd
          clear hcd
          go_wp2_with (go_at_call 38; refine (event_any b n _ w cn).mono ?_; rintro e w' ⟨rfl, rfl⟩)
          go_ret2
          have h1 := HM.out (by rw [HS.out, HC.out]; rfl)
          exact ⟨by simp [allowsR, h1], rfl⟩
        · have hcd' : d.contains x = false := by simpa using hcd
          rw [hcd'] at b1
          have HC := Lib.hid hcd'
          clear hcd hcd'
          go_wp2_with (go_at_call 38; refine (event_any b n _ w cn).mono ?_; rintro e w' ⟨rfl, rfl⟩)
          go_goals
          all_goals
            go_round
            case rel =>
              refine ⟨k + 1, d ++ [x], _, by omega, by first | rfl | go_num, rfl, rfl, ?_⟩
              rw [HS.out, HC.out]; simp_all
            case measure => simp [intOf]; omega
      · have e1 := isEv_not hev
        have h1 := Lib.hid (hmono (by rw [hstep]; simp [e1]))
        clear hmono hstep hal htk hx hc hR hev
        go_wp2_with (go_at_call 38; refine (event_any b n _ w cn).mono ?_; rintro e w' ⟨rfl, rfl⟩)
        go_ret2
        exact ⟨by simp [allowsR, h1.out], rfl⟩
    · obtain rfl : k = L.length := by omega
      rw [List.take_length] at hal
      have HA := Lib.hid hal
      clear hal hR hlt hk
      go_wp2
      go_goals
      all_goals
        rename_i hne _
        have hne' : L.length ≠ n ∨ L.length = n := by omega
        simp only [bne_iff_ne, ne_eq, bne_eq_false_iff_eq, Int.natCast_inj] at hne
        go_ret2
        exact ⟨by simp [allowsR, HA.out, hne], rfl⟩
end Go.Proofs.YtnnnbmkhgcpjoaaDoor
