/- pats.set.all: the iterator over the places of a set. -/
import Derived.Test.YtapfoaiibjdfnaaDoorTz
import Derived.Test.YtapfoaiibjdfnaaDoorBridge
import Derived.Test.YtapfoaiibjdfnaaDoorPatTab
namespace Go.Proofs.YtapfoaiibjdfnaaDoor
open Go.RowKit Go.Ab
attribute [local go_sem] Oper.semAt_some wide_fn wide_depth

/-- Without its lowest bit. -/
theorem andNot_low (v : Nat) (hv : v < 18446744073709551616) (h0 : v ≠ 0) :
    bits BinOp.andNot IntKind.u64 (v : Int) (IntKind.u64.wrap (2 ^ Lib.ctz 64 v)) = ((v &&& (v - 1) : Nat) : Int) := by
  obtain ⟨m, hm, hk⟩ := ctz_form v h0 (by simpa using hv)
  generalize Lib.ctz 64 v = k at hm hk
  have hp : 2 ^ k < 18446744073709551616 := by
    have := Nat.pow_lt_pow_right (a := 2) (by decide) hk
    simpa using this
  have e : IntKind.u64.wrap (2 ^ k) = ((2 ^ k : Nat) : Int) := by
    rw [IntKind.wrap_u64]
    have e : ((2 : Int) ^ k) = ((2 ^ k : Nat) : Int) := by simp
    rw [e]
    generalize 2 ^ k = P at hp
    omega
  rw [e, u64_andNot_nat _ _ hv hp]
  congr 1
  apply Nat.eq_of_testBit_eq
  intro i
  have h1 : (18446744073709551615 - 2 ^ k).testBit i = (decide (i < 64) && !(2 ^ k).testBit i) := by
    have := Nat.testBit_two_pow_sub_succ (n := 64) (x := 2 ^ k) (by simpa using hp) i
    simpa using this
  have h2 : v.testBit i = (decide (i = k) || (decide (k < i) && m.testBit (i - (k + 1)))) := by rw [hm]; exact testBit_form k m i
  have h3 : (v &&& (v - 1)).testBit i = (decide (k < i) && m.testBit (i - (k + 1))) := by
    rw [hm, and_pred, Nat.testBit_two_pow_mul]
    simp only [ge_iff_le, Nat.succ_le_iff]
  rw [h3, Nat.testBit_and, h1, h2, Nat.testBit_two_pow]
  by_cases hik : i = k
  · subst hik; simp
  · have hki : ¬ k = i := fun e => hik e.symm
    simp only [hik, hki, decide_false, Bool.false_or, Bool.not_false, Bool.and_true]
    by_cases h64 : i < 64
    · simp [h64]
    · have hv2 : v.testBit i = false := Nat.testBit_lt_two_pow (Nat.lt_of_lt_of_le hv (Nat.pow_le_pow_right (n := 2) (by decide) (show 64 ≤ i by omega)))
      rw [h2] at hv2
      simp only [hik, decide_false, Bool.false_or] at hv2
      simp [hv2]

def SBox (w : World) (bx : Nat) (v : Nat) : Prop := w.heap[bx]? = some (.cells #[.int .u64 v] 66 (0, 0))
theorem SBox.cell {w : World} {bx v : Nat} (h : SBox w bx v) : w.cell? ⟨bx, 0, none⟩ = some (.int .u64 v) := cell_of_one h
theorem SBox.free {w : World} {bx v : Nat} (h : SBox w bx v) : w.frozen? ⟨bx, 0, none⟩ = false := free_of_one h
theorem SBox.store {w : World} {bx v : Nat} (u : Nat) (h : SBox w bx v) : SBox (w.setCell ⟨bx, 0, none⟩ (.int .u64 u)) bx u := one_setCell h
def sLeft (w : World) (bx : Nat) : Nat := match w.cell? ⟨bx, 0, none⟩ with | some (.int _ n) => n.toNat | _ => 0
theorem sLeft_eq {w : World} {bx v : Nat} (h : SBox w bx v) : sLeft w bx = v := by unfold sLeft; rw [h.cell]; simp
theorem low_lt (v : Nat) (hv : v < 18446744073709551616) : v &&& (v - 1) < 18446744073709551616 := by
  have := Nat.and_le_left (n := v) (m := v - 1)
  omega
theorem low_lt' (v : Nat) (h0 : v ≠ 0) : (v &&& (v - 1)) < v := by
  have := Nat.and_le_right (n := v) (m := v - 1)
  omega

set_option maxRecDepth 100000 in
theorem all_iter (v : Nat) (hv : v < 18446744073709551616) (bx : Nat) (hbx : bx ≠ 0) (w : World) (hb : SBox w bx v) (hT : Tab w) :
    Iter Tryd.prog 71 #[.pointer (some ⟨bx, 0, none⟩)] (fun x : Nat => #[.int .i64 x]) (evs v) (· = bx) (fun b => b = bx ∨ b = 0) w := by
  intro l J Jx W ht hJ hJx hY h0
  have hbW : SBox W bx v := ht.heap hb (by simp)
  have hTW : Tab W := hT.keep ht (by simp)
  refine callsIn_wide.1 (callsIn_of_wp (n := 0) Tryd.func71 rfl trivial ?_ rfl)
  simp only [Tryd.ntmps71, List.size_toArray, List.length_cons, List.length_nil, Nat.reduceAdd, Nat.reduceSub, Array.replicate_succ, Array.replicate_zero, List.push_toArray, List.append_toArray, List.nil_append, List.cons_append]
  gi_wp2
  gi_loopw [3] (fun _ wr => ∃ (pre : List Nat) (u : Nat), SBox wr bx u ∧ u < 18446744073709551616 ∧ evs v = pre ++ evs u ∧ J pre wr ∧ Tab wr)
    (fun _ wr => sLeft wr bx)
  case atStart => exact ⟨[], v, hbW, hv, rfl, h0, hTW⟩
  case round =>
    obtain ⟨pre, u, hbox, hu, hev, hJs, hTs⟩ := hrel
    have hc := hbox.cell
    have hm0 : sLeft wr bx = u := sLeft_eq hbox
    by_cases hu0 : u = 0
    · subst hu0
      rw [evs_zero, List.append_nil] at hev
      clear hm0
      gi_wp2
      go_end0
      exact ⟨⟨_, rfl⟩, .inl (by rw [hev]; exact hJs)⟩
    · have hne : ((u : Int) != 0) = true := by simp; omega
      have hcons := evs_cons u hu0 (by simpa using hu)
      rw [hcons] at hev
      have hz64 : Lib.ctz 64 u < 64 := (mem_evs.1 (by rw [hcons]; simp : Lib.ctz 64 u ∈ evs u)).1
      have HC := Lib.hid hcons; clear hcons
      have HM := Lib.hid hm0; clear hm0
      have hp := andNot_low u hu hu0
      obtain ⟨z, hz⟩ : ∃ z, Lib.ctz 64 u = z := ⟨_, rfl⟩
      rw [hz] at hp hz64 hev
      have HE := Lib.hid hev; clear hev
      have htz := tz_any u hu hu0 wr hTs
      rw [hz] at htz
      have HTZ := Lib.hid htz
      clear htz hz
      have hfr := hbox.free
      have hz3 : (z : Int) < 64 := by omega
      have hTs2 : Turn (· = bx) wr (wr.setCell ⟨bx, 0, none⟩ (.int .u64 ((u &&& (u - 1) : Nat) : Int))).drew := (Turn.set1 wr bx 0 _).drew
      have hJ2 := hJ _ _ _ hJs hTs2
      have hb2 : SBox (wr.setCell ⟨bx, 0, none⟩ (.int .u64 ((u &&& (u - 1) : Nat) : Int))).drew bx (u &&& (u - 1)) := drew_keep (SBox.store (w := wr) _ hbox)
      have hT2 : Tab (wr.setCell ⟨bx, 0, none⟩ (.int .u64 ((u &&& (u - 1) : Nat) : Int))).drew := hTs.keep hTs2 (Ne.symm hbx)
      have HT2 := Lib.hid hT2
      have hlow := low_lt u hu
      obtain ⟨fn, tmps, assign, body, hy, hR⟩ := hY pre _ _ _ HE.out hJ2
      gi_wp2_with (gi_at_call 72; refine (callsIn_wide.2 HTZ.out).mono ?_; rintro e w' ⟨rfl, rfl⟩)
      have HY := Lib.hid hy; have HR := Lib.hid hR; have HB2 := Lib.hid hb2
      clear hy hR hTs2 hJ2 hT2 hb2
      refine (wpIn_wide (n := _)).2 ?_
      refine region_still 4 (by kernel_rfl) (by kernel_rfl) ?_
      simp only [List.take_succ_cons, List.take_zero, List.drop_succ_cons, List.drop_zero]
      repeat still_step
      refine wpStill_nil ?_
      go_wp2
      have hy := HY.out
      gi_wp2
      refine HR.out.mono ?_
      rintro e W3 (⟨rfl, hJ3, hk3⟩ | ⟨rfl, hJx3⟩)
      · have hb3 : SBox W3 bx (u &&& (u - 1)) := hk3.heap HB2.out (by simp)
        have hT3 : Tab W3 := HT2.out.keep hk3 (by simp)
        clear hy hbox hc hTs hJs hp
        gi_wp2
        go_roundw
        case rel => exact ⟨pre ++ [z], u &&& (u - 1), hb3, hlow, by rw [HE.out]; simp, hJ3, hT3⟩
        case measure => rw [HM.out, sLeft_eq hb3]; exact low_lt' u hu0
      · clear hy
        gi_wp2
        refine bodyPost_ret (results_none rfl _ _ _) rfl ?_
        exact ⟨⟨_, rfl⟩, .inr ⟨pre, _, _, HE.out, hJx3⟩⟩

theorem all_any (v : Int) (w : World) :
    Calls Tryd.prog 50 #[.int .u64 v] w fun e w' => e = .returned (.func (.func 71) #[] #[.pointer (some ⟨w.heap.size, 0, none⟩)]) ∧ w' = w.alloc (.cells #[.int .u64 v] 66) := by
  go_enter Tryd.func50, Tryd.ntmps50
  go_wp2
  go_ret
  exact ⟨rfl, rfl⟩
end Go.Proofs.YtapfoaiibjdfnaaDoor
