/- law.Equal$1; slices.EqualFunc over Out (printed by genlequal.py). -/
import Derived.Test.YtedhogbocifipaaGreatDoorEqLP
import Derived.Test.YtedhogbocifipaaGreatDoorGa15
import Derived.Deep.QuietTactic
import Derived.BigQuiet
set_option maxRecDepth 100000
set_option maxHeartbeats 16000000
namespace Go.Proofs.YtedhogbocifipaaGreatDoor
open Go.RowKit Go.Ab
attribute [local go_sem] Oper.semAt_some wide_fn wide_depth

theorem eqO_int (x y : OutD) : eqO x y = ((x.frm == y.frm) && (((x.cl : Int) == (y.cl : Int)) && ((((x.st.1 : Int) == (y.st.1 : Int)) && ((x.st.2 : Int) == (y.st.2 : Int))) && (((x.tk : Int) == (y.tk : Int)) && (x.ofi == y.ofi))))) := by
 have h : ∀ a b : Nat, ((a : Int) == (b : Int)) = (a == b) := fun a b => by
  rw [Bool.eq_iff_iff]; simp; omega
 unfold eqO
 rw [h, h, h, h]
 simp only [Bool.and_assoc]

theorem eq1_any (w : World) (x y : OutD) :
  Calls Tryz.prog 74 #[.agg (outCells x).toArray, .agg (outCells y).toArray] w fun e w' => e = .returned (.bool (eqO x y)) ∧ Ext w w' := by
 have HE := Lib.hid (eqO_int x y)
 obtain ⟨E, hq⟩ : ∃ b, eqO x y = b := ⟨_, rfl⟩
 rw [hq] at HE ⊢
 clear hq
 unfold outCells
 go_enter Tryz.func74, Tryz.ntmps74
 go_wp2
 all_goals go_ret
 all_goals refine ⟨?_, ((Turn.refl _ w).alloc _).alloc _⟩
 all_goals have HE2 := HE.out
 all_goals clear HE
 all_goals simp_all

theorem toList_inj {a b : ByteArray} (h : a.toList = b.toList) : a = b := by
 rw [ByteArray.toList_eq, ByteArray.toList_eq] at h
 cases a; cases b
 simp at h
 rw [h]

theorem eqouts_any {w : World} {u v : Value} {l r : List OutD} (hl : OutsAt w u l) (hr : OutsAt w v r) :
  Calls Tryz.prog 73 #[u, v, .func (.func 74) #[] #[]] w fun e w' => e = .returned (.bool (eqOL l r)) ∧ Ext w w' := by
 obtain ⟨ao, cap, rfl, hlm⟩ := hl.slice
 obtain ⟨bo, bcap, rfl, hrm⟩ := hr.slice
 unfold maxLen at hlm hrm
 have HL := Lib.hid hl; have HR := Lib.hid hr
 clear hl hr
 obtain ⟨N, hN⟩ : ∃ N, l.length = N := ⟨_, rfl⟩
 obtain ⟨M, hM⟩ : ∃ M, r.length = M := ⟨_, rfl⟩
 have HN := Lib.hid hN; have HM := Lib.hid hM
 rw [hN] at hlm ⊢
 rw [hM] at hrm ⊢
 clear hN hM
 by_cases hNM : N = M
 ·subst hNM
  go_enter Tryz.func73, Tryz.ntmps73
  go_wp2
  refine wp_loop (fun a W => ∃ (k : Nat), k ≤ N ∧ a.defers = [] ∧ (a.tmps.size = 32 ∧ a.tmps.getD 1 undef = .slice bo N bcap ∧ a.tmps.getD 2 undef = .func (.func 74) #[] #[] ∧ a.tmps.getD 15 undef = .slice ao N cap ∧ a.tmps.getD 16 undef = .int .i64 N ∧ a.tmps.getD 17 undef = .int .i64 k) ∧ eqOL (l.drop k) (r.drop k) = eqOL l r ∧ Ext w W)
   (fun a _ => N - (intOf (a.tmps.getD 17 undef)).toNat) ?_ ?_
  ·exact ⟨0, by omega, rfl, ⟨rfl, rfl, rfl, rfl, rfl, rfl⟩, rfl, Turn.refl _ _⟩
  rintro ⟨t, _⟩ W ⟨k, hk, hds, ⟨hsz, f1, f2, f15, f16, f17⟩, hall, hE⟩
  subst hds
  obtain ⟨u', hu⟩ := frame_fun hsz
  obtain ⟨u, rfl⟩ : ∃ x, x = u' := ⟨_, rfl⟩
  have hu' : t = #[u 0, u 1, u 2, u 3, u 4, u 5, u 6, u 7, u 8, u 9, u 10, u 11, u 12, u 13, u 14, u 15, u 16, u 17, u 18, u 19, u 20, u 21, u 22, u 23, u 24, u 25, u 26, u 27, u 28, u 29, u 30, u 31] := hu
  clear hu
  subst hu'
  change u 1 = _ at f1
  change u 2 = _ at f2
  change u 15 = _ at f15
  change u 16 = _ at f16
  change u 17 = _ at f17
  rw [f1, f2, f15, f16, f17]
  clear f1 f2 f15 f16 f17 hsz
  have HALL := Lib.hid hall
  clear hall
  by_cases hkN : k < N
  ·have h1 : (k : Int) < (N : Int) := by omega
   have hkl : k < l.length := by rw [HN.out]; exact hkN
   have hkr : k < r.length := by rw [HM.out]; exact hkN
   obtain ⟨g, off, c, hq, hg, hok, c0, c1, c2, c3, c4, c5⟩ := (HL.out.ext hE).at hkl
   simp only [Value.slice.injEq] at hq
   obtain ⟨rfl, hz, rfl⟩ := hq
   clear hz hok
   obtain ⟨g', off', c', hq, hg', hok, d0, d1, d2, d3, d4, d5⟩ := (HR.out.ext hE).at hkr
   simp only [Value.slice.injEq] at hq
   obtain ⟨rfl, hz, rfl⟩ := hq
   clear hz hok
   have hd := eqOL_drop hkl hkr
   rw [HALL.out] at hd
   have hc := fun V => eq1_any V l[k] r[k]
   obtain ⟨lb, hlb⟩ : ∃ b, eqO l[k] r[k] = b := ⟨_, rfl⟩
   rw [hlb] at hc hd
   unfold outCells at hc
   have HC := Lib.hid hc; have HD := Lib.hid hd
   clear hc hd hlb
   go_wp2_with fail
   refine (HC.out _).mono ?_
   rintro e W2 ⟨rfl, hE2⟩
   have hE02 : Ext w W2 := hE.trans (Turn.trans (((Turn.refl _ W).alloc _).alloc _) hE2)
   clear hE hE2 c0 c1 c2 c3 c4 c5 d0 d1 d2 d3 d4 d5 HC
   cases lb
   ·go_wp2
    go_ret
    exact ⟨by rw [HD.out, Bool.false_and]; rfl, hE02⟩
   ·have hd : eqOL (l.drop (k + 1)) (r.drop (k + 1)) = eqOL l r := by rw [HD.out, Bool.true_and]
    have HD2 := Lib.hid hd
    clear hd
    go_wp2
    exact ⟨⟨k + 1, by omega, by first | rfl | trivial, ⟨rfl, rfl, rfl, rfl, rfl, rfl⟩, HD2.out, hE02⟩, by simp [intOf]; omega⟩
  ·obtain rfl : k = N := by omega
   have h1 : ¬ (k : Int) < (k : Int) := by omega
   have hfin : eqOL l r = true := by
    rw [← HALL.out, List.drop_of_length_le (by rw [HN.out]; exact Nat.le_refl _), List.drop_of_length_le (by rw [HM.out]; exact Nat.le_refl _)]; exact eqOL_nil
   have HFI := Lib.hid hfin
   clear hfin
   go_wp2
   go_ret
   exact ⟨by rw [HFI.out]; rfl, hE⟩
 ·have hfin : eqOL l r = false := by
   cases h : eqOL l r with
   | false => rfl
   | true => exact absurd (by rw [← HN.out, ← HM.out]; exact eqOL_len h) hNM
  have HFI := Lib.hid hfin
  have h1 : ((N : Int) == (M : Int)) = false := by rw [beq_eq_false_iff_ne]; omega
  clear hfin
  go_enter Tryz.func73, Tryz.ntmps73
  go_wp2
  go_ret
  exact ⟨by rw [HFI.out]; rfl, Turn.refl _ _⟩
end Go.Proofs.YtedhogbocifipaaGreatDoor
