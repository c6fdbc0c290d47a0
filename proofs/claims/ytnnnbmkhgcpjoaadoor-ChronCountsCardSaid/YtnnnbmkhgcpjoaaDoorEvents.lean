/- math/bits.TrailingZeros64 and chron.events: the iterator over the bits of a number. -/
import Derived.Test.YtnnnbmkhgcpjoaaDoorProg
import Derived.Test.YtnnnbmkhgcpjoaaDoorBits
import Derived.Test.YtnnnbmkhgcpjoaaDoorRange
import Derived.WalkLawsBesides
import Derived.Handy
import Derived.Lib.Hide
import Derived.Shelf.Spec.TrailingZeros
namespace Go.Proofs.YtnnnbmkhgcpjoaaDoor
open Go.RowKit Go.Ab

/-- The table of math/bits, as its initialiser lays it. -/
def Tab (w : World) : Prop := ∀ j, j < 64 → w.cell? ⟨0, j, none⟩ = some (.int .u8 (Lib.deBruijn64tab.getD j 0))

theorem Tab.keep {S : Nat → Prop} {A B : World} (h : Tab A) (ht : Turn S A B) (hS : ¬ S 0) : Tab B :=
  fun j hj => ht.cell_some (h j hj) hS

theorem tz_core (x k idx : Nat) (w : World) (hx0 : ((x : Int) == 0) = false)
    (key : IntKind.u64.wrap (bits BinOp.and IntKind.u64 (x : Int) (IntKind.u64.wrap (-(x : Int))) * 285870213051353865) / 288230376151711744 = (idx : Int))
    (hi : idx < 64) (hk : k < 64) (hcell : w.cell? ⟨0, idx, none⟩ = some (.int .u8 k)) :
    Calls Tryd.prog 48 #[.int .u64 x] w fun e w' => e = .returned (.int .i64 k) ∧ w = w' := by
  go_enter Tryd.func48, Tryd.ntmps48
  go_wp2_with (simp only [key])
  go_ret
  exact ⟨rfl, rfl⟩

theorem tz_any (x : Nat) (hx : x < 18446744073709551616) (hx0 : x ≠ 0) (w : World) (hT : Tab w) :
    Calls Tryd.prog 48 #[.int .u64 x] w fun e w' => e = .returned (.int .i64 (Lib.ctz 64 x)) ∧ w = w' := by
  obtain ⟨hlow, hk⟩ := Lib.lowest_bit 64 x hx0 hx
  obtain ⟨hi, htab⟩ := Lib.deBruijn64_at _ hk
  have hcell := hT _ hi
  rw [htab] at hcell
  exact tz_core x _ _ w (by simp; omega) (tz64_key x _ hx hx0 hlow) hi hk hcell

attribute [local go_sem] Oper.semAt_some wide_fn wide_depth

theorem and_pred_lt (v : Nat) (hv : v < 18446744073709551616) : v &&& (v - 1) < 18446744073709551616 := by
  have := Nat.and_le_left (n := v) (m := v - 1)
  omega

theorem pred_step (v : Nat) (hv : v < 18446744073709551616) (h0 : v ≠ 0) :
    bits BinOp.and IntKind.u64 (v : Int) ((v : Int) - 1) = ((v &&& (v - 1) : Nat) : Int) := by
  have e1 : (v : Int) - 1 = ((v - 1 : Nat) : Int) := by omega
  rw [e1, u64_and_nat v _ hv (by omega)]

theorem and_pred_lt' (v : Nat) (hv : v < 18446744073709551616) (h0 : v ≠ 0) : (v &&& (v - 1)) < v := by
  have := Nat.and_le_right (n := v) (m := v - 1)
  omega

/-- The cell of the set, as the iterator leaves it. -/
def SetBox (w : World) (bx : Nat) (v : Nat) : Prop := w.heap[bx]? = some (.cells #[.int .u64 v] 55 (0, 0))

theorem SetBox.cell {w : World} {bx v : Nat} (h : SetBox w bx v) : w.cell? ⟨bx, 0, none⟩ = some (.int .u64 v) := cell_of_one h
theorem SetBox.free {w : World} {bx v : Nat} (h : SetBox w bx v) : w.frozen? ⟨bx, 0, none⟩ = false := free_of_one h

theorem SetBox.store {w : World} {bx v : Nat} (u : Nat) (h : SetBox w bx v) : SetBox (w.setCell ⟨bx, 0, none⟩ (.int .u64 u)) bx u := one_setCell h

/-- The number in the cell of the set: what is left. -/
def setLeft (w : World) (bx : Nat) : Nat := match w.cell? ⟨bx, 0, none⟩ with | some (.int _ n) => n.toNat | _ => 0
theorem setLeft_eq {w : World} {bx v : Nat} (h : SetBox w bx v) : setLeft w bx = v := by unfold setLeft; rw [h.cell]; simp

theorem events_iter (v : Nat) (hv : v < 18446744073709551616) (bx : Nat) (hbx : bx ≠ 0) (w : World) (hb : SetBox w bx v) (hT : Tab w) :
    Iter Tryd.prog 47 #[.pointer (some ⟨bx, 0, none⟩)] (fun x : Nat => #[.int .i64 x]) (evs v) (· = bx) (fun b => b = bx ∨ b = 0) w := by
  intro l J Jx W ht hJ hJx hY h0
  have hbW : SetBox W bx v := ht.heap hb (by simp)
  have hTW : Tab W := hT.keep ht (by simp)
  refine callsIn_wide.1 (callsIn_of_wp (n := 0) Tryd.func47 rfl trivial ?_ rfl)
  simp only [Tryd.ntmps47, List.size_toArray, List.length_cons, List.length_nil, Nat.reduceAdd, Nat.reduceSub, Array.replicate_succ, Array.replicate_zero, List.push_toArray, List.append_toArray, List.nil_append, List.cons_append]
  gi_wp2
  gi_loopw [3] (fun _ wr => ∃ (pre : List Nat) (u : Nat), SetBox wr bx u ∧ u < 18446744073709551616 ∧ evs v = pre ++ evs u ∧ J pre wr ∧ Tab wr)
    (fun _ wr => setLeft wr bx)
  case atStart => exact ⟨[], v, hbW, hv, rfl, h0, hTW⟩
  case round =>
    obtain ⟨pre, u, hbox, hu, hev, hJs, hTs⟩ := hrel
    have hc := hbox.cell
    have hm0 : setLeft wr bx = u := setLeft_eq hbox
    by_cases hu0 : u = 0
    · subst hu0
      rw [evs_zero, List.append_nil] at hev
      clear hm0
      gi_wp2
      go_end0
      exact ⟨⟨_, rfl⟩, .inl (by rw [hev]; exact hJs)⟩
    · have hne : ((u : Int) != 0) = true := by simp; omega
      have hcons := evs_cons u hu0 (by simpa using hu)
      rw [hcons] at hev
      have HE := Lib.hid hev; clear hev
      have HC := Lib.hid hcons; clear hcons
      have HM := Lib.hid hm0; clear hm0
      obtain ⟨fn, tmps, assign, body, hy, hR⟩ := hY pre _ _ wr HE.out hJs
      gi_wp2_with (gi_at_call 48; refine (callsIn_wide.2 (tz_any u hu hu0 wr hTs)).mono ?_; rintro e w' ⟨rfl, rfl⟩)
      refine hR.mono ?_
      rintro e W3 (⟨rfl, hJ3, hk3⟩ | ⟨rfl, hJx3⟩)
      · have hb3 : SetBox W3 bx u := hk3.heap hbox (by simp)
        have hT3 : Tab W3 := hTs.keep hk3 (by simp)
        have hc3 := hb3.cell
        have hf3 := hb3.free
        have hp := pred_step u hu hu0
        clear hR hy hbox hc hTs hJs
        gi_wp2
        go_roundw
        case rel => exact ⟨pre ++ [Lib.ctz 64 u], u &&& (u - 1), hb3.store _, and_pred_lt u hu, by rw [HE.out]; simp, hJ _ _ _ hJ3 (Turn.set1 W3 bx 0 _), hT3.keep (Turn.set1 W3 bx 0 _) (Ne.symm hbx)⟩
        case measure => rw [HM.out, setLeft_eq (hb3.store _)]; exact and_pred_lt' u hu hu0
      · clear hR hy
        gi_wp2
        go_end0
        exact ⟨⟨_, rfl⟩, .inr ⟨pre, _, _, HE.out, hJx3⟩⟩

theorem events_any (v : Int) (w : World) :
    Calls Tryd.prog 39 #[.int .u64 v] w fun e w' => e = .returned (.func (.func 47) #[] #[.pointer (some ⟨w.heap.size, 0, none⟩)]) ∧ w' = w.alloc (.cells #[.int .u64 v] 55) := by
  go_enter Tryd.func39, Tryd.ntmps39
  go_wp2
  go_ret
  exact ⟨rfl, rfl⟩

end Go.Proofs.YtnnnbmkhgcpjoaaDoor
