/- ablautref01: Valid, Get, put, Satisfies. ablautref08.Name (printed by genrefname.py). ablautref08.fits. PLAIN: how many nodes a pattern has; does it match nothing between two sounds. PLAIN: which patterns are valid; sums, repetitions, empty patterns. PLAIN: mirrors. -/
import Derived.Test.YtedhogbocifipaaGreatDoorGa01
import Derived.Test.YtedhogbocifipaaGreatDoorGa16
import Derived.Test.YtedhogbocifipaaGreatDoorGa15
import Derived.Test.YtedhogbocifipaaGreatDoorCheckP
import Derived.Test.YtedhogbocifipaaGreatDoorGa08
set_option maxRecDepth 100000
set_option maxHeartbeats 8000000
namespace Go.Proofs.YtedhogbocifipaaGreatDoor
open Go.RowKit Go.Ab
attribute [local go_sem] Oper.semAt_some wide_fn wide_depth

def okTo (s : Nat × Nat) (f : Nat) : Prop := ∀ i, i < f → ¬ (s.1.testBit i = true ∧ s.2.testBit i = true) ∧ ((s.1.testBit i = true ∨ s.2.testBit i = true) → i < 24)
theorem okTo_step {s : Nat × Nat} {f : Nat} (h : okTo s f) (h1 : ¬ (s.1.testBit f = true ∧ s.2.testBit f = true)) (h2 : (s.1.testBit f = true ∨ s.2.testBit f = true) → f < 24) : okTo s (f + 1) := fun i hi => by
 by_cases e : i = f
 ·subst e; exact ⟨h1, h2⟩
 ·exact h i (by omega)
theorem okTo_bad {s : Nat × Nat} (hs : lt32 s) {f : Nat} (hf : f < 32) (h : (s.1.testBit f = true ∧ s.2.testBit f = true) ∨ ((s.1.testBit f = true ∨ s.2.testBit f = true) ∧ 24 ≤ f)) : okS s = false := by
 cases hq : okS s with
 | false => rfl
 | true =>
  have := (okS_iff hs).1 hq f hf
  rcases h with h | ⟨h1, h2⟩
  ·exact absurd h this.1
  ·have := this.2 h1; omega

theorem rv_any {s : Nat × Nat} (hs : lt32 s) (w : World) :
  Calls Tryz.prog 50 #[sV s] w fun e w' => e = .returned (.bool (okS s)) ∧ Ext w w' := by
 have hbad := fun (f : Nat) (hf : f < 32) => okTo_bad hs hf
 have hgood : okTo s 32 → okS s = true := fun h => (okS_iff hs).2 h
 have hstep := fun (f : Nat) (h : okTo s f) => okTo_step h
 obtain ⟨z, hz⟩ : ∃ z, okS s = z := ⟨_, rfl⟩
 rw [hz] at hbad hgood ⊢
 have hb1 := fun (f : Nat) => bit32 s.1 f hs.1
 have hb2 := fun (f : Nat) => bit32 s.2 f hs.2
 have HBAD := Lib.hid hbad; have HGOOD := Lib.hid hgood; have HSTEP := Lib.hid hstep; have HB1 := Lib.hid hb1; have HB2 := Lib.hid hb2
 have h0 : okTo s 0 := fun i h => by omega
 have H0 := Lib.hid h0
 clear hbad hgood hstep hb1 hb2 hz h0
 go_enter Tryz.func50, Tryz.ntmps50
 go_wp2
 have hx : (w.alloc (.cells #[.int .u32 (s.1 : Int), .int .u32 (s.2 : Int)] 24)).heap[w.heap.size]? = some (.cells #[.int .u32 (s.1 : Int), .int .u32 (s.2 : Int)] 24 (0, 0)) := new_at rfl
 have hE : Ext w (w.alloc (.cells #[.int .u32 (s.1 : Int), .int .u32 (s.2 : Int)] 24)) := (Turn.refl _ w).alloc _
 generalize (w.alloc (.cells #[.int .u32 (s.1 : Int), .int .u32 (s.2 : Int)] 24)) = w1 at hx hE ⊢
 generalize w.heap.size = B at hx ⊢
 have HX := Lib.hid hx
 clear hx
 refine wp_loop (fun a W => ∃ (f : Nat), f ≤ 32 ∧ a.defers = [] ∧ (a.tmps.size = 36 ∧ a.tmps.getD 1 undef = .pointer (some ⟨B, 0, none⟩) ∧ a.tmps.getD 3 undef = .int .i64 f) ∧ Hid (okTo s f) ∧ Ext w1 W)
  (fun a _ => 32 - (intOf (a.tmps.getD 3 undef)).toNat) ?_ ?_
 ·exact ⟨0, by omega, rfl, ⟨rfl, rfl, rfl⟩, H0, Turn.refl _ _⟩
 clear H0
 rintro ⟨t, _⟩ W ⟨f, hf, hds, ⟨hsz, f1, f3⟩, HF, hW⟩
 subst hds
 obtain ⟨u', hu⟩ := frame_fun hsz
 obtain ⟨u, rfl⟩ : ∃ x, x = u' := ⟨_, rfl⟩
 have hu' : t = #[u 0, u 1, u 2, u 3, u 4, u 5, u 6, u 7, u 8, u 9, u 10, u 11, u 12, u 13, u 14, u 15, u 16, u 17, u 18, u 19, u 20, u 21, u 22, u 23, u 24, u 25, u 26, u 27, u 28, u 29, u 30, u 31, u 32, u 33, u 34, u 35] := hu
 clear hu
 subst hu'
 change u 1 = _ at f1
 change u 3 = _ at f3
 rw [f1, f3]
 clear f1 f3 hsz
 have hx := hW.keep HX.out
 have cX := fun j => cell_of_row _ _ j _ _ _ hx
 have HW := Lib.hid hW
 clear hx hW
 by_cases hf32 : f < 32
 ·have h1 : (f : Int) < 32 := by omega
  have b1 := HB1.out f
  have b2 := HB2.out f
  have hbad := HBAD.out f hf32
  have hstep := HSTEP.out f HF.out
  obtain ⟨p, hp⟩ : ∃ p, s.1.testBit f = p := ⟨_, rfl⟩
  obtain ⟨q, hq⟩ : ∃ p, s.2.testBit f = p := ⟨_, rfl⟩
  rw [hp] at b1 hbad hstep
  rw [hq] at b2 hbad hstep
  have HBD := Lib.hid hbad; have HST := Lib.hid hstep
  clear hbad hstep hp hq
  cases p
  ·cases q
   ·have HN := Lib.hid (HST.out (by simp) (by simp))
    clear HBD HST
    go_wp2
    first | exact ⟨⟨f + 1, by omega, by first | rfl | trivial, ⟨rfl, rfl, rfl⟩, HN, HW.out⟩, by simp [intOf]; omega⟩ | exact ⟨⟨f + 1, by omega, by simp, HN, HW.out⟩, by simp [intOf]; omega⟩
   ·by_cases h24 : 24 ≤ f
    ·have g : (24 : Int) ≤ (f : Int) := by omega
     have hz := HBD.out (.inr ⟨.inr rfl, h24⟩)
     subst hz
     clear HBD HST
     go_wp2
     go_ret
     exact ⟨rfl, hE.trans HW.out⟩
    ·have g : ¬ (24 : Int) ≤ (f : Int) := by omega
     have HN := Lib.hid (HST.out (by simp) (fun _ => by omega))
     clear HBD HST
     go_wp2
     first | exact ⟨⟨f + 1, by omega, by first | rfl | trivial, ⟨rfl, rfl, rfl⟩, HN, HW.out⟩, by simp [intOf]; omega⟩ | exact ⟨⟨f + 1, by omega, by simp, HN, HW.out⟩, by simp [intOf]; omega⟩
  ·cases q
   ·by_cases h24 : 24 ≤ f
    ·have g : (24 : Int) ≤ (f : Int) := by omega
     have hz := HBD.out (.inr ⟨.inl rfl, h24⟩)
     subst hz
     clear HBD HST
     go_wp2
     go_ret
     exact ⟨rfl, hE.trans HW.out⟩
    ·have g : ¬ (24 : Int) ≤ (f : Int) := by omega
     have HN := Lib.hid (HST.out (by simp) (fun _ => by omega))
     clear HBD HST
     go_wp2
     first | exact ⟨⟨f + 1, by omega, by first | rfl | trivial, ⟨rfl, rfl, rfl⟩, HN, HW.out⟩, by simp [intOf]; omega⟩ | exact ⟨⟨f + 1, by omega, by simp, HN, HW.out⟩, by simp [intOf]; omega⟩
   ·have hz := HBD.out (.inl ⟨rfl, rfl⟩)
    subst hz
    clear HBD HST
    go_wp2
    go_ret
    exact ⟨rfl, hE.trans HW.out⟩
 ·obtain rfl : f = 32 := by omega
  have hz := HGOOD.out HF.out
  subst hz
  go_wp2
  go_ret
  exact ⟨rfl, hE.trans HW.out⟩


def lettersB (l : List UInt8) (i : Nat) : Bool := (l.take i).all letB
theorem letB_nat (c : UInt8) (b : Bool) (h : ((decide (97 ≤ c.toNat) && decide (c.toNat ≤ 122)) || (decide (65 ≤ c.toNat) && decide (c.toNat ≤ 90)) || (decide (48 ≤ c.toNat) && decide (c.toNat ≤ 57)) || decide (c.toNat = 45)) = b) : letB c = b := h

theorem rname_any (l : List UInt8) (hl : l.length ≤ 9223372036854775807) (w : World) :
  Calls Tryz.prog 49 #[.string ⟨l.toArray⟩] w fun e w' => e = .returned (.bool (nameB ⟨l.toArray⟩)) ∧ w = w' := by
 have HN : Hid (nameB ⟨l.toArray⟩ = (decide (1 ≤ l.length) && decide (l.length ≤ 24) && l.all letB)) := Lib.hid (by simp [nameB, ByteArray.size])
 obtain ⟨R, hR⟩ : ∃ R, nameB ⟨l.toArray⟩ = R := ⟨_, rfl⟩
 rw [hR] at HN ⊢
 obtain ⟨S, hS⟩ : ∃ S : ByteArray, (⟨l.toArray⟩ : ByteArray) = S := ⟨_, rfl⟩
 have hSs : S.size = l.length := by rw [← hS]; simp [ByteArray.size]
 have HS := Lib.hid hS
 obtain ⟨n, hn⟩ : ∃ n, l.length = n := ⟨_, rfl⟩
 have HLN := Lib.hid hn
 rw [hn] at hSs hl HN
 rw [hS]
 clear hS hR hn
 go_enter Tryz.func49, Tryz.ntmps49
 go_wp2
 refine wp_loop (fun a V => ∃ (i : Nat), i ≤ n ∧ a.defers = [] ∧ (a.tmps.size = 49 ∧ a.tmps.getD 0 undef = .string S ∧ a.tmps.getD 3 undef = .int .i64 i) ∧ lettersB l i = true ∧ w = V)
  (fun a _ => n - (intOf (a.tmps.getD 3 undef)).toNat) ?_ ?_
 ·exact ⟨0, by omega, rfl, ⟨rfl, rfl, rfl⟩, by simp [lettersB], rfl⟩
 rintro ⟨t, _⟩ V ⟨i, hi, hds, ⟨hsz, f0, f3⟩, hall, rfl⟩
 subst hds
 obtain ⟨u', hu⟩ := frame_fun hsz
 obtain ⟨u, rfl⟩ : ∃ x, x = u' := ⟨_, rfl⟩
 have hu' : t = #[u 0, u 1, u 2, u 3, u 4, u 5, u 6, u 7, u 8, u 9, u 10, u 11, u 12, u 13, u 14, u 15, u 16, u 17, u 18, u 19, u 20, u 21, u 22, u 23, u 24, u 25, u 26, u 27, u 28, u 29, u 30, u 31, u 32, u 33, u 34, u 35, u 36, u 37, u 38, u 39, u 40, u 41, u 42, u 43, u 44, u 45, u 46, u 47, u 48] := hu
 clear hu
 subst hu'
 change u 0 = _ at f0
 change u 3 = _ at f3
 rw [f0, f3]
 clear f0 f3 hsz
 have HALL := Lib.hid hall
 clear hall
 by_cases hin : i < n
 case neg =>
  obtain rfl : i = n := by omega
  have h1 : ¬ (i : Int) < (i : Int) := by omega
  have hall : l.all letB = true := by have := HALL.out; unfold lettersB at this; rwa [List.take_of_length_le (by rw [HLN.out]; exact Nat.le_refl _)] at this
  have HA := Lib.hid hall
  clear hall
  by_cases hi1 : 1 ≤ i
  ·have q1 : (1 : Int) ≤ (i : Int) := by omega
   by_cases hi2 : i ≤ 24
   ·have q2 : (i : Int) ≤ 24 := by omega
    have HR : Hid (R = true) := Lib.hid (by rw [HN.out, HA.out, decide_eq_true hi1, decide_eq_true hi2]; rfl)
    go_wp2
    go_ret
    exact ⟨by rw [HR.out]; rfl, rfl⟩
   ·have q2 : ¬ (i : Int) ≤ 24 := by omega
    have HR : Hid (R = false) := Lib.hid (by rw [HN.out, decide_eq_false hi2]; simp)
    go_wp2
    go_ret
    exact ⟨by rw [HR.out]; rfl, rfl⟩
  ·have q1 : ¬ (1 : Int) ≤ (i : Int) := by omega
   have HR : Hid (R = false) := Lib.hid (by rw [HN.out, decide_eq_false hi1]; simp)
   go_wp2
   go_ret
   exact ⟨by rw [HR.out]; rfl, rfl⟩
 have h1 : (i : Int) < (n : Int) := by omega
 have hil : i < l.length := by rw [HLN.out]; exact hin
 obtain ⟨c, hc⟩ : ∃ c, l[i] = c := ⟨_, rfl⟩
 have hx : S[i]'(by omega) = c := by
  have := HS.out
  subst this
  simp [ByteArray.getElem_eq_getElem_data, hc]
 have hlt := c.toNat_lt
 have hyes : letB c = true → lettersB l (i + 1) = true := fun h => by
  have h0 := HALL.out
  unfold lettersB at h0 ⊢
  rw [List.take_succ_eq_append_getElem hil, List.all_append, h0, hc]; simp [h]
 have hno : letB c = false → R = false := fun h => by
  rw [HN.out]
  have : l.all letB = false := List.all_eq_false.2 ⟨c, by rw [← hc]; exact List.getElem_mem hil, by rw [h]; decide⟩
  rw [this]; simp
 have hlb := fun b => letB_nat c b
 have hcx : ((S[i]'(by omega)).toNat : Int) = (c.toNat : Int) := by rw [hx]
 obtain ⟨x, hxe⟩ : ∃ x, c.toNat = x := ⟨_, rfl⟩
 rw [hxe] at hlt hlb hcx
 have HYES := Lib.hid hyes; have HNO := Lib.hid hno; have HLB := Lib.hid hlb; have HCX := Lib.hid hcx
 clear hyes hno hlb hcx hxe hx hc
 go_upto_region 5 with (fail)
 rw [HCX.out]
 by_cases j0 : x ≤ 44
 ·have q97 : ¬ (97 : Int) ≤ (x : Int) := by omega
  have q122 : (x : Int) ≤ 122 := by omega
  have q65 : ¬ (65 : Int) ≤ (x : Int) := by omega
  have q90 : (x : Int) ≤ 90 := by omega
  have q48 : ¬ (48 : Int) ≤ (x : Int) := by omega
  have q57 : (x : Int) ≤ 57 := by omega
  have q45 : ((x : Int) == 45) = false := by rw [beq_eq_false_iff_ne]; omega
  have hb : letB c = false := HLB.out false (by apply Bool.eq_iff_iff.2; simp; omega)
  have HF := Lib.hid (HNO.out hb)
  clear hb
  go_wp2
  go_ret
  exact ⟨by rw [HF.out]; rfl, rfl⟩
 by_cases j1 : x ≤ 45
 ·have hlo : 45 ≤ x := by omega
  have q97 : ¬ (97 : Int) ≤ (x : Int) := by omega
  have q122 : (x : Int) ≤ 122 := by omega
  have q65 : ¬ (65 : Int) ≤ (x : Int) := by omega
  have q90 : (x : Int) ≤ 90 := by omega
  have q48 : ¬ (48 : Int) ≤ (x : Int) := by omega
  have q57 : (x : Int) ≤ 57 := by omega
  have q45 : ((x : Int) == 45) = true := by rw [beq_iff_eq]; omega
  have hb : letB c = true := HLB.out true (by apply Bool.eq_iff_iff.2; simp; omega)
  have HF := Lib.hid (HYES.out hb)
  clear hb
  go_wp2
  first | exact ⟨⟨i + 1, by omega, by first | rfl | trivial, ⟨rfl, rfl, rfl⟩, HF.out, rfl⟩, by simp [intOf]; omega⟩ | exact ⟨⟨i + 1, by omega, by simp, HF.out⟩, by simp [intOf]; omega⟩
 by_cases j2 : x ≤ 47
 ·have hlo : 46 ≤ x := by omega
  have q97 : ¬ (97 : Int) ≤ (x : Int) := by omega
  have q122 : (x : Int) ≤ 122 := by omega
  have q65 : ¬ (65 : Int) ≤ (x : Int) := by omega
  have q90 : (x : Int) ≤ 90 := by omega
  have q48 : ¬ (48 : Int) ≤ (x : Int) := by omega
  have q57 : (x : Int) ≤ 57 := by omega
  have q45 : ((x : Int) == 45) = false := by rw [beq_eq_false_iff_ne]; omega
  have hb : letB c = false := HLB.out false (by apply Bool.eq_iff_iff.2; simp; omega)
  have HF := Lib.hid (HNO.out hb)
  clear hb
  go_wp2
  go_ret
  exact ⟨by rw [HF.out]; rfl, rfl⟩
 by_cases j3 : x ≤ 57
 ·have hlo : 48 ≤ x := by omega
  have q97 : ¬ (97 : Int) ≤ (x : Int) := by omega
  have q122 : (x : Int) ≤ 122 := by omega
  have q65 : ¬ (65 : Int) ≤ (x : Int) := by omega
  have q90 : (x : Int) ≤ 90 := by omega
  have q48 : (48 : Int) ≤ (x : Int) := by omega
  have q57 : (x : Int) ≤ 57 := by omega
  have q45 : ((x : Int) == 45) = false := by rw [beq_eq_false_iff_ne]; omega
  have hb : letB c = true := HLB.out true (by apply Bool.eq_iff_iff.2; simp; omega)
  have HF := Lib.hid (HYES.out hb)
  clear hb
  go_wp2
  first | exact ⟨⟨i + 1, by omega, by first | rfl | trivial, ⟨rfl, rfl, rfl⟩, HF.out, rfl⟩, by simp [intOf]; omega⟩ | exact ⟨⟨i + 1, by omega, by simp, HF.out⟩, by simp [intOf]; omega⟩
 by_cases j4 : x ≤ 64
 ·have hlo : 58 ≤ x := by omega
  have q97 : ¬ (97 : Int) ≤ (x : Int) := by omega
  have q122 : (x : Int) ≤ 122 := by omega
  have q65 : ¬ (65 : Int) ≤ (x : Int) := by omega
  have q90 : (x : Int) ≤ 90 := by omega
  have q48 : (48 : Int) ≤ (x : Int) := by omega
  have q57 : ¬ (x : Int) ≤ 57 := by omega
  have q45 : ((x : Int) == 45) = false := by rw [beq_eq_false_iff_ne]; omega
  have hb : letB c = false := HLB.out false (by apply Bool.eq_iff_iff.2; simp; omega)
  have HF := Lib.hid (HNO.out hb)
  clear hb
  go_wp2
  go_ret
  exact ⟨by rw [HF.out]; rfl, rfl⟩
 by_cases j5 : x ≤ 90
 ·have hlo : 65 ≤ x := by omega
  have q97 : ¬ (97 : Int) ≤ (x : Int) := by omega
  have q122 : (x : Int) ≤ 122 := by omega
  have q65 : (65 : Int) ≤ (x : Int) := by omega
  have q90 : (x : Int) ≤ 90 := by omega
  have q48 : (48 : Int) ≤ (x : Int) := by omega
  have q57 : ¬ (x : Int) ≤ 57 := by omega
  have q45 : ((x : Int) == 45) = false := by rw [beq_eq_false_iff_ne]; omega
  have hb : letB c = true := HLB.out true (by apply Bool.eq_iff_iff.2; simp; omega)
  have HF := Lib.hid (HYES.out hb)
  clear hb
  go_wp2
  first | exact ⟨⟨i + 1, by omega, by first | rfl | trivial, ⟨rfl, rfl, rfl⟩, HF.out, rfl⟩, by simp [intOf]; omega⟩ | exact ⟨⟨i + 1, by omega, by simp, HF.out⟩, by simp [intOf]; omega⟩
 by_cases j6 : x ≤ 96
 ·have hlo : 91 ≤ x := by omega
  have q97 : ¬ (97 : Int) ≤ (x : Int) := by omega
  have q122 : (x : Int) ≤ 122 := by omega
  have q65 : (65 : Int) ≤ (x : Int) := by omega
  have q90 : ¬ (x : Int) ≤ 90 := by omega
  have q48 : (48 : Int) ≤ (x : Int) := by omega
  have q57 : ¬ (x : Int) ≤ 57 := by omega
  have q45 : ((x : Int) == 45) = false := by rw [beq_eq_false_iff_ne]; omega
  have hb : letB c = false := HLB.out false (by apply Bool.eq_iff_iff.2; simp; omega)
  have HF := Lib.hid (HNO.out hb)
  clear hb
  go_wp2
  go_ret
  exact ⟨by rw [HF.out]; rfl, rfl⟩
 by_cases j7 : x ≤ 122
 ·have hlo : 97 ≤ x := by omega
  have q97 : (97 : Int) ≤ (x : Int) := by omega
  have q122 : (x : Int) ≤ 122 := by omega
  have q65 : (65 : Int) ≤ (x : Int) := by omega
  have q90 : ¬ (x : Int) ≤ 90 := by omega
  have q48 : (48 : Int) ≤ (x : Int) := by omega
  have q57 : ¬ (x : Int) ≤ 57 := by omega
  have q45 : ((x : Int) == 45) = false := by rw [beq_eq_false_iff_ne]; omega
  have hb : letB c = true := HLB.out true (by apply Bool.eq_iff_iff.2; simp; omega)
  have HF := Lib.hid (HYES.out hb)
  clear hb
  go_wp2
  first | exact ⟨⟨i + 1, by omega, by first | rfl | trivial, ⟨rfl, rfl, rfl⟩, HF.out, rfl⟩, by simp [intOf]; omega⟩ | exact ⟨⟨i + 1, by omega, by simp, HF.out⟩, by simp [intOf]; omega⟩
 ·have hlo : 123 ≤ x := by omega
  have q97 : (97 : Int) ≤ (x : Int) := by omega
  have q122 : ¬ (x : Int) ≤ 122 := by omega
  have q65 : (65 : Int) ≤ (x : Int) := by omega
  have q90 : ¬ (x : Int) ≤ 90 := by omega
  have q48 : (48 : Int) ≤ (x : Int) := by omega
  have q57 : ¬ (x : Int) ≤ 57 := by omega
  have q45 : ((x : Int) == 45) = false := by rw [beq_eq_false_iff_ne]; omega
  have hb : letB c = false := HLB.out false (by apply Bool.eq_iff_iff.2; simp; omega)
  have HF := Lib.hid (HNO.out hb)
  clear hb
  go_wp2
  go_ret
  exact ⟨by rw [HF.out]; rfl, rfl⟩


theorem high1 {a : Nat} (ha : a < 4294967296) : andn a 16777215 = 0 ↔ a < 16777216 := by
 have := high_zero (a := a) (b := a) ha ha
 rw [Nat.or_self] at this
 rw [this]; exact ⟨fun h => h.1, fun h => ⟨h, h⟩⟩
/-- fitB as the reference asks. -/
theorem fit_ref {k : Nat} {x : OutD} (hx : OutOk x) : fitB k x = if x.frm < -1 ∨ (k : Int) ≤ x.frm then false else if okS x.st = false then false else if andn x.cl 16777215 ≠ 0 then false else if andn x.tk 16777215 ≠ 0 then false else if x.cl &&& (x.st.1 ||| x.st.2) ≠ 0 then false else
  if x.tk &&& (x.st.1 ||| x.st.2) ≠ 0 then false else if x.tk &&& x.cl ≠ 0 then false else if x.tk = 0 then decide (x.ofi = 0) else (decide (0 ≤ x.ofi) && decide (x.ofi < k)) := by
 have hc := high1 hx.1
 have ht := high1 hx.2.2
 unfold fitB
 by_cases h1 : x.frm < -1 ∨ (k : Int) ≤ x.frm
 ·rw [if_pos h1]
  rcases h1 with h1 | h1
  ·rw [show decide (-1 ≤ x.frm) = false by rw [decide_eq_false_iff_not]; omega]; simp
  ·rw [show decide (x.frm < (k : Int)) = false by rw [decide_eq_false_iff_not]; omega]; simp
 rw [if_neg h1, show decide (-1 ≤ x.frm) = true by rw [decide_eq_true_iff]; omega, show decide (x.frm < (k : Int)) = true by rw [decide_eq_true_iff]; omega]
 by_cases h2 : okS x.st = false
 ·rw [if_pos h2, h2]; simp
 rw [if_neg h2, show okS x.st = true by simpa using h2]
 by_cases h3 : andn x.cl 16777215 = 0
 case neg => rw [if_pos h3, decide_eq_false (fun q => h3 (hc.2 q))]; simp
 rw [if_neg (show ¬ (andn x.cl 16777215 ≠ 0) from fun q => q h3), decide_eq_true (hc.1 h3)]
 by_cases h4 : andn x.tk 16777215 = 0
 case neg => rw [if_pos h4, decide_eq_false (fun q => h4 (ht.2 q))]; simp
 rw [if_neg (show ¬ (andn x.tk 16777215 ≠ 0) from fun q => q h4), decide_eq_true (ht.1 h4)]
 by_cases h5 : x.cl &&& (x.st.1 ||| x.st.2) = 0
 case neg => rw [if_pos h5, decide_eq_false h5]; simp
 rw [if_neg (show ¬ (x.cl &&& (x.st.1 ||| x.st.2) ≠ 0) from fun q => q h5), decide_eq_true h5]
 by_cases h6 : x.tk &&& (x.st.1 ||| x.st.2) = 0
 case neg => rw [if_pos h6, decide_eq_false h6]; simp
 rw [if_neg (show ¬ (x.tk &&& (x.st.1 ||| x.st.2) ≠ 0) from fun q => q h6), decide_eq_true h6]
 by_cases h7 : x.tk &&& x.cl = 0
 case neg => rw [if_pos h7, decide_eq_false h7]; simp
 rw [if_neg (show ¬ (x.tk &&& x.cl ≠ 0) from fun q => q h7), decide_eq_true h7]
 simp only [Bool.and_self, Bool.true_and]

theorem rfits_any {x : OutD} (hx : OutOk x) (k : Nat) (_hk : k ≤ 9223372036854775807) (w : World) :
  Calls Tryz.prog 51 #[.agg (outCells x).toArray, .int .i64 (k : Int)] w fun e w' => e = .returned (.bool (fitB k x)) ∧ Ext w w' := by
 have HF := Lib.hid (fit_ref (k := k) hx)
 obtain ⟨fr, cl, ⟨sa, sb⟩, tk, ofi⟩ := x
 obtain ⟨hcl, ⟨hsa, hsb⟩, htk⟩ := hx
 dsimp only at hcl hsa hsb htk HF
 have hv := fun (D : World) => rv_any (s := (sa, sb)) ⟨hsa, hsb⟩ D
 have o1 := u32_or_nat sa sb hsa hsb
 have hs : sa ||| sb < 4294967296 := Nat.or_lt_two_pow (n := 32) hsa hsb
 obtain ⟨s, hse⟩ : ∃ s, sa ||| sb = s := ⟨_, rfl⟩
 rw [hse] at o1 hs HF
 have o3 : bits .andNot .u32 (cl : Int) 16777215 = ((andn cl 16777215 : Nat) : Int) := andn32 cl 16777215 hcl (by omega)
 obtain ⟨e, hee⟩ : ∃ s, andn cl 16777215 = s := ⟨_, rfl⟩
 rw [hee] at o3 HF
 have o7 : bits .andNot .u32 (tk : Int) 16777215 = ((andn tk 16777215 : Nat) : Int) := andn32 tk 16777215 htk (by omega)
 obtain ⟨e2, hee2⟩ : ∃ s, andn tk 16777215 = s := ⟨_, rfl⟩
 rw [hee2] at o7 HF
 have o4 := u32_and_nat cl s hcl hs
 obtain ⟨f, hfe⟩ : ∃ y, cl &&& s = y := ⟨_, rfl⟩
 rw [hfe] at o4 HF
 have o5 := u32_and_nat tk s htk hs
 obtain ⟨g, hge⟩ : ∃ y, tk &&& s = y := ⟨_, rfl⟩
 rw [hge] at o5 HF
 have o6 := u32_and_nat tk cl htk hcl
 obtain ⟨h, hhe⟩ : ∃ y, tk &&& cl = y := ⟨_, rfl⟩
 rw [hhe] at o6 HF
 obtain ⟨b, hbe⟩ : ∃ y, okS (sa, sb) = y := ⟨_, rfl⟩
 rw [hbe] at hv HF
 have HV := Lib.hid hv
 obtain ⟨R, hR⟩ : ∃ R, fitB k { frm := fr, cl := cl, st := (sa, sb), tk := tk, ofi := ofi } = R := ⟨_, rfl⟩
 rw [hR] at HF ⊢
 clear hse hee hee2 hfe hge hhe hbe hv hR
 unfold outCells
 dsimp only
 go_enter Tryz.func51, Tryz.ntmps51
 go_upto_region 1 with (fail)
 obtain ⟨w1, hw1⟩ : ∃ D, w.alloc (.cells #[.int .i64 fr, .int .u32 (cl : Int), .int .u32 (sa : Int), .int .u32 (sb : Int), .int .u32 (tk : Int), .int .i64 ofi] 62) = D := ⟨_, rfl⟩
 have hE1 : Ext w w1 := by rw [← hw1]; exact (Turn.refl _ w).alloc _
 have hb1 : w1.heap[w.heap.size]? = some (.cells #[.int .i64 fr, .int .u32 (cl : Int), .int .u32 (sa : Int), .int .u32 (sb : Int), .int .u32 (tk : Int), .int .i64 ofi] 62 (0, 0)) := by rw [← hw1]; exact new_at rfl
 (try rw [hw1])
 obtain ⟨B, hB⟩ : ∃ y, w.heap.size = y := ⟨_, rfl⟩
 rw [hB] at hb1 ⊢
 have cX := fun j => cell_of_row _ _ j _ _ _ hb1
 have HB1 := Lib.hid hb1
 clear hw1 hB hb1
 by_cases h1 : fr < -1
 ·have HR : Hid (R = false) := Lib.hid (by rw [HF.out, if_pos (.inl h1)])
  clear HF
  go_wp2
  go_ret
  exact ⟨by rw [HR.out]; rfl, hE1⟩
 by_cases h2 : (k : Int) ≤ fr
 ·have HR : Hid (R = false) := Lib.hid (by rw [HF.out, if_pos (.inr h2)])
  clear HF
  go_wp2
  go_ret
  exact ⟨by rw [HR.out]; rfl, hE1⟩
 have HF2 : Hid (R = if b = false then false else if e ≠ 0 then false else if e2 ≠ 0 then false else if f ≠ 0 then false else if g ≠ 0 then false else if h ≠ 0 then false else if tk = 0 then decide (ofi = 0) else (decide (0 ≤ ofi) && decide (ofi < k))) := Lib.hid (by rw [HF.out, if_neg (fun q => q.elim h1 h2)])
 clear HF
 go_wp2_with fail
 refine (HV.out _).mono ?_
 rintro e' w2 ⟨rfl, hN⟩
 have hE2 := hE1.trans hN
 have cX2 := fun j => cell_of_row _ _ j _ _ _ (hN.keep HB1.out)
 clear cX hN HB1
 cases b
 ·have HR : Hid (R = false) := Lib.hid (by rw [HF2.out]; rfl)
  clear HF2
  go_wp2
  go_ret
  exact ⟨by rw [HR.out]; rfl, hE2⟩
 by_cases hx0 : e = 0
 case neg =>
  have he1 : ((e : Int) != 0) = true := by rw [bne_iff_ne]; omega
  have HR : Hid (R = false) := Lib.hid (by rw [HF2.out, if_neg (by decide), if_pos hx0])
  clear HF2
  go_wp2
  go_ret
  exact ⟨by rw [HR.out]; rfl, hE2⟩
 subst hx0
 by_cases hx0 : e2 = 0
 case neg =>
  have he1 : ((e2 : Int) != 0) = true := by rw [bne_iff_ne]; omega
  have HR : Hid (R = false) := Lib.hid (by rw [HF2.out, if_neg (by decide), if_neg (by decide), if_pos hx0])
  clear HF2
  go_wp2
  go_ret
  exact ⟨by rw [HR.out]; rfl, hE2⟩
 subst hx0
 by_cases hx0 : f = 0
 case neg =>
  have he1 : ((f : Int) != 0) = true := by rw [bne_iff_ne]; omega
  have HR : Hid (R = false) := Lib.hid (by rw [HF2.out, if_neg (by decide), if_neg (by decide), if_neg (by decide), if_pos hx0])
  clear HF2
  go_wp2
  go_ret
  exact ⟨by rw [HR.out]; rfl, hE2⟩
 subst hx0
 by_cases hx0 : g = 0
 case neg =>
  have he1 : ((g : Int) != 0) = true := by rw [bne_iff_ne]; omega
  have HR : Hid (R = false) := Lib.hid (by rw [HF2.out, if_neg (by decide), if_neg (by decide), if_neg (by decide), if_neg (by decide), if_pos hx0])
  clear HF2
  go_wp2
  go_ret
  exact ⟨by rw [HR.out]; rfl, hE2⟩
 subst hx0
 by_cases hx0 : h = 0
 case neg =>
  have he1 : ((h : Int) != 0) = true := by rw [bne_iff_ne]; omega
  have HR : Hid (R = false) := Lib.hid (by rw [HF2.out, if_neg (by decide), if_neg (by decide), if_neg (by decide), if_neg (by decide), if_neg (by decide), if_pos hx0])
  clear HF2
  go_wp2
  go_ret
  exact ⟨by rw [HR.out]; rfl, hE2⟩
 subst hx0
 have HF3 : Hid (R = if tk = 0 then decide (ofi = 0) else (decide (0 ≤ ofi) && decide (ofi < k))) := Lib.hid (by rw [HF2.out]; rfl)
 clear HF2
 by_cases ht0 : tk = 0
 ·have ht1 : ((tk : Int) == 0) = true := by rw [beq_iff_eq]; omega
  have HR : Hid (R = decide (ofi = 0)) := Lib.hid (by rw [HF3.out, if_pos ht0])
  obtain ⟨q, hq⟩ : ∃ q, decide (ofi = 0) = q := ⟨_, rfl⟩
  have hq2 : (ofi == 0) = q := by rw [← hq]; rfl
  rw [hq] at HR
  clear HF3 hq ht0
  go_wp2
  go_ret
  exact ⟨by rw [HR.out]; rfl, hE2⟩
 ·have ht1 : ((tk : Int) == 0) = false := by rw [beq_eq_false_iff_ne]; omega
  have HR : Hid (R = (decide (0 ≤ ofi) && decide (ofi < k))) := Lib.hid (by rw [HF3.out, if_neg ht0])
  clear HF3
  by_cases hq0 : 0 ≤ ofi
  ·have HR2 : Hid (R = decide (ofi < k)) := Lib.hid (by rw [HR.out, decide_eq_true hq0]; rfl)
   go_wp2
   go_ret
   exact ⟨by rw [HR2.out]; rfl, hE2⟩
  ·have hq1 : ¬ (0 : Int) ≤ ofi := hq0
   have HR2 : Hid (R = false) := Lib.hid (by rw [HR.out, decide_eq_false hq0]; rfl)
   go_wp2
   go_ret
   exact ⟨by rw [HR2.out]; rfl, hE2⟩
end Go.Proofs.YtedhogbocifipaaGreatDoor

namespace Go.Proofs.YtedhogbocifipaaGreatDoor
open Go.RowKit Go.Ab

mutual
/-- How many nodes there are. -/
def totP : Pat → Nat
 | .node _ _ _ _ _ _ l => totL l + 1
def totL : List Pat → Nat
 | [] => 0
 | p :: l => totP p + totL l
end
theorem totP_eq (p : Pat) : totP p = totL p.l + 1 := by cases p; unfold totP; rfl
theorem totL_append (a b : List Pat) : totL (a ++ b) = totL a + totL b := by
 induction a with
 | nil => simp [totL]
 | cons p a ih => simp only [List.cons_append, totL, ih]; omega
mutual
/-- Does a valid pattern match nothing between two sounds? -/
def emptyP : Pat → Bool
 | .node k _ _ _ mn _ l => if k = 0 then true else if k = 3 then allE l else if k = 4 then anyE l else if k = 5 then mn == 0 || headE l else false
def allE : List Pat → Bool
 | [] => true
 | p :: l => emptyP p && allE l
def anyE : List Pat → Bool
 | [] => false
 | p :: l => emptyP p || anyE l
def headE : List Pat → Bool
 | [] => false
 | p :: _ => emptyP p
end
def emptyV (p : Pat) : Bool := decide (chkP p = 0) && emptyP p
end Go.Proofs.YtedhogbocifipaaGreatDoor

namespace Go.Proofs.YtedhogbocifipaaGreatDoor
open Go.RowKit Go.Ab

mutual
def allN : Pat → Prop
 | .node k pl mi nt mn mx l => nodeE (.node k pl mi nt mn mx l) = 0 ∧ allNs l
def allNs : List Pat → Prop
 | [] => True
 | p :: l => allN p ∧ allNs l
end
theorem allN_eq (p : Pat) : allN p ↔ nodeE p = 0 ∧ allNs p.l := by cases p; unfold allN; exact Iff.rfl
theorem allNs_cons (p : Pat) (l : List Pat) : allNs (p :: l) ↔ allN p ∧ allNs l := by rw [allNs]
theorem allNs_append (a b : List Pat) : allNs (a ++ b) ↔ allNs a ∧ allNs b := by
 induction a with
 | nil => simp [allNs]
 | cons p a ih => rw [List.cons_append, allNs_cons, allNs_cons, ih, and_assoc]
theorem allNs_iff {l : List Pat} : allNs l ↔ ∀ p ∈ l, allN p := by
 induction l with
 | nil => simp [allNs]
 | cons p l ih => rw [allNs_cons, ih]; simp
theorem totL_cons (p : Pat) (l : List Pat) : totL (p :: l) = totP p + totL l := by rw [totL]
theorem chk_zero : ∀ (f : Nat) (l : List Pat), chk f l = 0 ↔ allNs l ∧ totL l ≤ f
 | f, [] => by cases f <;> simp [chk, allNs, totL]
 | 0, p :: l => by
  have h1 : totL (p :: l) = totL p.l + 1 + totL l := by rw [totL_cons, totP_eq]
  constructor
  ·intro h; simp [chk] at h
  ·rintro ⟨_, h⟩; omega
 | f + 1, p :: l => by
  have h1 : totL (p :: l) = totL p.l + 1 + totL l := by rw [totL_cons, totP_eq]
  rw [chk_succ]
  by_cases he : nodeE p = 0
  ·rw [if_pos he, chk_zero f, allNs_append, totL_append, allNs_cons, allN_eq]
   constructor
   ·rintro ⟨⟨h2, h3⟩, h4⟩; exact ⟨⟨⟨he, h2⟩, h3⟩, by omega⟩
   ·rintro ⟨⟨⟨_, h2⟩, h3⟩, h4⟩; exact ⟨⟨h2, h3⟩, by omega⟩
  ·rw [if_neg he, allNs_cons, allN_eq]
   constructor
   ·intro h; exact absurd h he
   ·rintro ⟨⟨⟨h, _⟩, _⟩, _⟩; exact absurd h he
theorem chkP_zero (p : Pat) : chkP p = 0 ↔ allN p ∧ totP p ≤ 40 := by
 unfold chkP
 rw [chk_zero, allNs_cons, totL_cons]
 simp [allNs, totL]
theorem relE_zero {p : Pat} {ws : Wd} : relE p ws = 0 ↔ chkP p = 0 ∧ ws.length ≤ 32 ∧ allV ws = true := by
 unfold relE
 by_cases h : chkP p = 0
 ·rw [if_pos h]
  by_cases h2 : 32 < ws.length
  ·rw [if_pos h2]; simp [h]; omega
  ·rw [if_neg h2]
   by_cases h3 : allV ws = true
   ·rw [if_pos h3]; simp [h, h3]; omega
   ·rw [if_neg h3]; simp [h3]
 ·rw [if_neg h]; simp [h]
theorem relR_good {p : Pat} {ws : Wd} (h : relE p ws = 0) : relR p ws = relP ws p := by unfold relR; rw [if_pos h]
theorem good_allN {p : Pat} {ws : Wd} (h : relE p ws = 0) : allN p := ((chkP_zero p).1 (relE_zero.1 h).1).1
theorem relP_node (w : Wd) (k : Int) (pl mi : Nat) (nt : Bool) (mn mx : Int) (l : List Pat) : relP w (.node k pl mi nt mn mx l) = if k = 1 then soundB w (pl, mi) nt else if k = 2 then edgeB 0 else if k = 6 then edgeB w.length else if k = 4 then altB w l else if k = 5 then oneB w l mn mx else seqB w l (idB w.length) := by rw [relP]
theorem nodeE_kind' {p : Pat} (h : nodeE p = 0) : 0 ≤ p.k ∧ p.k ≤ 6 ∧ (p.k ≠ 3 → p.k ≠ 4 → p.k ≠ 5 → p.l.length = 0) ∧ (p.k = 5 → p.l.length = 1 ∧ 0 ≤ p.mn ∧ p.mn ≤ 32) := by
 unfold nodeE at h
 by_cases h1 : p.k < 0 ∨ 6 < p.k
 ·rw [if_pos h1] at h; exact absurd h (by decide)
 rw [if_neg h1] at h
 by_cases h2 : p.k ≠ 1 ∧ (p.pl ≠ 0 ∨ p.mi ≠ 0 ∨ p.nt = true)
 ·rw [if_pos h2] at h; exact absurd h (by decide)
 rw [if_neg h2] at h
 by_cases h3 : p.k ≠ 3 ∧ p.k ≠ 4 ∧ p.k ≠ 5 ∧ p.l.length ≠ 0
 ·rw [if_pos h3] at h; exact absurd h (by decide)
 rw [if_neg h3] at h
 by_cases h4 : p.k ≠ 5 ∧ (p.mn ≠ 0 ∨ p.mx ≠ 0)
 ·rw [if_pos h4] at h; exact absurd h (by decide)
 rw [if_neg h4] at h
 by_cases h5 : p.k = 5 ∧ (p.l.length ≠ 1 ∨ p.mn < 0 ∨ 32 < p.mn ∨ (p.mx ≠ -1 ∧ (p.mx < p.mn ∨ 32 < p.mx)))
 ·rw [if_pos h5] at h; exact absurd h (by decide)
 refine ⟨by omega, by omega, fun a b c => ?_, fun hk => ?_⟩
 ·exact Decidable.byContradiction fun hh => h3 ⟨a, b, c, hh⟩
 ·have h6 := fun hh => h5 ⟨hk, hh⟩
  omega
theorem nodeE_kind {k : Int} {pl mi : Nat} {nt : Bool} {mn mx : Int} {l : List Pat} (h : nodeE (.node k pl mi nt mn mx l) = 0) :
  0 ≤ k ∧ k ≤ 6 ∧ (k ≠ 3 → k ≠ 4 → k ≠ 5 → l = []) ∧ (k = 5 → (∃ q, l = [q]) ∧ 0 ≤ mn ∧ mn ≤ 32) := by
 obtain ⟨h1, h2, h3, h4⟩ := nodeE_kind' h
 refine ⟨h1, h2, fun a b c => List.eq_nil_of_length_eq_zero (h3 a b c), fun hk => ?_⟩
 obtain ⟨h5, h6, h7⟩ := h4 hk
 refine ⟨?_, h6, h7⟩
 have h5 : l.length = 1 := h5
 match l, h5 with
 | [q], _ => exact ⟨q, rfl⟩
end Go.Proofs.YtedhogbocifipaaGreatDoor

namespace Go.Proofs.YtedhogbocifipaaGreatDoor
open Go.RowKit Go.Ab

mutual
def mirP : Pat → Pat
 | .node k pl mi nt mn mx l => .node (if k = 2 then 6 else if k = 6 then 2 else k) pl mi nt mn mx (if k = 3 then (mirL l).reverse else mirL l)
def mirL : List Pat → List Pat
 | [] => []
 | p :: l => mirP p :: mirL l
end
theorem mirL_eq (l : List Pat) : mirL l = l.map mirP := by
 induction l with
 | nil => rfl
 | cons p l ih => rw [mirL, ih]; rfl
theorem mirP_eq (k : Int) (pl mi : Nat) (nt : Bool) (mn mx : Int) (l : List Pat) :
  mirP (.node k pl mi nt mn mx l) = .node (if k = 2 then 6 else if k = 6 then 2 else k) pl mi nt mn mx (if k = 3 then (l.map mirP).reverse else l.map mirP) := by rw [mirP, mirL_eq]
theorem mirP_twice : ∀ p : Pat, mirP (mirP p) = p
 | .node k pl mi nt mn mx l => by
  have ih : ∀ q ∈ l, mirP (mirP q) = q := fun q hq => mirP_twice q
  have ih2 : l.map (fun q => mirP (mirP q)) = l := by
   conv => rhs; rw [← List.map_id l]
   exact List.map_congr_left fun q hq => ih q hq
  rw [mirP_eq, mirP_eq]
  congr 1
  ·by_cases h2 : k = 2
   ·simp [h2]
   ·by_cases h6 : k = 6
    ·simp [h6]
    ·simp [h2, h6]
  ·by_cases h3 : k = 3
   ·subst h3
    simp only [show ¬ ((3 : Int) = 2) by decide, show ¬ ((3 : Int) = 6) by decide, if_false, if_true, List.map_reverse, List.reverse_reverse, List.map_map]
    exact ih2
   ·have : ¬ ((if k = 2 then (6 : Int) else if k = 6 then 2 else k) = 3) := by split; decide; split; decide; exact h3
    rw [if_neg this, if_neg h3, List.map_map]
    exact ih2
theorem totL_map {f : Pat → Pat} : ∀ {l : List Pat}, (∀ q ∈ l, totP (f q) = totP q) → totL (l.map f) = totL l
 | [], _ => rfl
 | p :: l, h => by rw [List.map_cons, totL_cons, totL_cons, h p (List.mem_cons_self ..), totL_map fun q hq => h q (List.mem_cons_of_mem _ hq)]
theorem totL_reverse (l : List Pat) : totL l.reverse = totL l := by
 induction l with
 | nil => rfl
 | cons p l ih => rw [List.reverse_cons, totL_append, ih, totL_cons, totL_cons]; simp [totL]; omega
theorem mirP_tot : ∀ p : Pat, totP (mirP p) = totP p
 | .node k pl mi nt mn mx l => by
  have ih : ∀ q ∈ l, totP (mirP q) = totP q := fun q hq => mirP_tot q
  rw [mirP_eq, totP_eq, totP_eq]
  show totL (if k = 3 then _ else _) + 1 = totL l + 1
  split
  ·rw [totL_reverse, totL_map ih]
  ·rw [totL_map ih]
def nodeF (k : Int) (pl mi : Nat) (nt : Bool) (mn mx : Int) (n : Nat) : Int :=
 if k < 0 ∨ 6 < k then 2
 else if k ≠ 1 ∧ (pl ≠ 0 ∨ mi ≠ 0 ∨ nt = true) then 2
 else if k ≠ 3 ∧ k ≠ 4 ∧ k ≠ 5 ∧ n ≠ 0 then 2
 else if k ≠ 5 ∧ (mn ≠ 0 ∨ mx ≠ 0) then 2
 else if k = 5 ∧ (n ≠ 1 ∨ mn < 0 ∨ 32 < mn ∨ (mx ≠ -1 ∧ (mx < mn ∨ 32 < mx))) then 2
 else if okSound pl mi = true then 0 else 14
theorem nodeE_F (k : Int) (pl mi : Nat) (nt : Bool) (mn mx : Int) (l : List Pat) : nodeE (.node k pl mi nt mn mx l) = nodeF k pl mi nt mn mx l.length := rfl
theorem nodeF_swap (pl mi : Nat) (nt : Bool) (mn mx : Int) (n : Nat) : nodeF 2 pl mi nt mn mx n = nodeF 6 pl mi nt mn mx n := by simp [nodeF]
theorem mirP_node (k : Int) (pl mi : Nat) (nt : Bool) (mn mx : Int) (l : List Pat) : nodeE (mirP (.node k pl mi nt mn mx l)) = nodeE (.node k pl mi nt mn mx l) := by
 rw [mirP_eq, nodeE_F, nodeE_F]
 have e : (if k = 3 then (l.map mirP).reverse else l.map mirP).length = l.length := by split <;> simp
 rw [e]
 by_cases h2 : k = 2
 ·subst h2; rw [if_pos rfl]; exact (nodeF_swap _ _ _ _ _ _).symm
 ·by_cases h6 : k = 6
  ·subst h6; rw [if_neg (by decide), if_pos rfl]; exact nodeF_swap _ _ _ _ _ _
  ·rw [if_neg h2, if_neg h6]
theorem mirP_allN : ∀ p : Pat, allN p → allN (mirP p)
 | .node k pl mi nt mn mx l, h => by
  have h0 := h
  rw [allN_eq] at h
  obtain ⟨h1, h2⟩ := h
  have h2 : allNs l := h2
  rw [allNs_iff] at h2
  have ih : ∀ q ∈ l, allN (mirP q) := fun q hq => mirP_allN q (h2 q hq)
  rw [allN_eq]
  refine ⟨by rw [mirP_node]; exact h1, ?_⟩
  rw [mirP_eq, allNs_iff]
  show ∀ q ∈ (if k = 3 then (l.map mirP).reverse else l.map mirP), allN q
  intro q hq
  have : q ∈ l.map mirP := by split at hq; exact List.mem_reverse.1 hq; exact hq
  obtain ⟨x, hx, rfl⟩ := List.mem_map.1 this
  exact ih x hx
/-- A relation, seen from the end. -/
def flipB (n : Nat) (X : Bin2) : Bin2 := fun a b => decide (a ≤ n) && decide (b ≤ n) && X (n - b) (n - a)
theorem flipB_iff {n : Nat} {X : Bin2} {a b : Nat} : flipB n X a b = true ↔ a ≤ n ∧ b ≤ n ∧ X (n - b) (n - a) = true := by simp [flipB, and_assoc]
theorem flip_comp {n : Nat} (hn : n ≤ 32) {X Y : Bin2} (hX : Mono n X) (hY : Mono n Y) : flipB n (comp X Y) = comp (flipB n Y) (flipB n X) := by
 apply bin_ext; intro a c
 rw [flipB_iff, comp_iff, comp_iff]
 constructor
 ·rintro ⟨h1, h2, b, hb, h3, h4⟩
  have := hX _ _ h3
  have := hY _ _ h4
  refine ⟨n - b, by omega, flipB_iff.2 ⟨h1, by omega, ?_⟩, flipB_iff.2 ⟨by omega, h2, ?_⟩⟩
  ·rw [show n - (n - b) = b by omega]; exact h4
  ·rw [show n - (n - b) = b by omega]; exact h3
 ·rintro ⟨b, hb, h3, h4⟩
  obtain ⟨h1, h2, h3⟩ := flipB_iff.1 h3
  obtain ⟨_, h5, h4⟩ := flipB_iff.1 h4
  exact ⟨h1, h5, n - b, by omega, h4, h3⟩
theorem flip_or (n : Nat) (X Y : Bin2) : flipB n (orB X Y) = orB (flipB n X) (flipB n Y) := by
 apply bin_ext; intro a c
 simp only [flipB_iff, orB_iff]
 constructor
 ·rintro ⟨h1, h2, h3 | h3⟩
  ·exact .inl ⟨h1, h2, h3⟩
  ·exact .inr ⟨h1, h2, h3⟩
 ·rintro (⟨h1, h2, h3⟩ | ⟨h1, h2, h3⟩)
  ·exact ⟨h1, h2, .inl h3⟩
  ·exact ⟨h1, h2, .inr h3⟩
theorem flip_id (n : Nat) : flipB n (idB n) = idB n := by
 apply bin_ext; intro a c
 rw [flipB_iff, idB_iff, idB_iff]
 omega
theorem flip_no (n : Nat) : flipB n noB = noB := by
 apply bin_ext; intro a c
 rw [flipB_iff]; simp [noB]
theorem mono_flip {n : Nat} {X : Bin2} (h : Mono n X) : Mono n (flipB n X) := fun a b hh => by
 obtain ⟨h1, h2, h3⟩ := flipB_iff.1 hh
 have := h _ _ h3
 omega
theorem flip_pow {n : Nat} (hn : n ≤ 32) {X : Bin2} (h : Mono n X) : ∀ k, flipB n (powB X n k) = powB (flipB n X) n k
 | 0 => flip_id n
 | k + 1 => by
  show flipB n (comp X (powB X n k)) = _
  rw [flip_comp hn h (Mono.pow h k), flip_pow hn h k, pow_snoc hn (mono_flip h)]
theorem flip_sum {n : Nat} (hn : n ≤ 32) {X : Bin2} (h : Mono n X) (lo e : Nat) : flipB n (sumB X n lo e) = sumB (flipB n X) n lo e := by
 apply bin_ext; intro a c
 rw [flipB_iff, sumB_iff, sumB_iff]
 constructor
 ·rintro ⟨h1, h2, j, hj, h3⟩
  exact ⟨j, hj, by rw [← flip_pow hn h]; exact flipB_iff.2 ⟨h1, h2, h3⟩⟩
 ·rintro ⟨j, hj, h3⟩
  rw [← flip_pow hn h] at h3
  obtain ⟨h1, h2, h4⟩ := flipB_iff.1 h3
  exact ⟨h1, h2, j, hj, h4⟩
theorem getD_reverse (w : Wd) {i : Nat} (h : i < w.length) : w.reverse.getD i (0, 0) = w.getD (w.length - 1 - i) (0, 0) := by
 rw [List.getD_eq_getElem?_getD, List.getD_eq_getElem?_getD, List.getElem?_reverse h]
theorem flip_seq (w : Wd) (hn : w.length ≤ 32) : ∀ (l : List Pat) (X : Bin2), Mono w.length X → (∀ q ∈ l, relP w.reverse (mirP q) = flipB w.length (relP w q)) →
  comp (seqB w.reverse (l.map mirP).reverse (idB w.length)) (flipB w.length X) = flipB w.length (seqB w l X)
 | [], X, hX, _ => by
  simp only [List.map_nil, List.reverse_nil, seqB]
  exact id_comp hn (mono_flip hX)
 | p :: l, X, hX, h => by
  rw [List.map_cons, List.reverse_cons, seqB_snoc, h p (List.mem_cons_self ..), comp_assoc, ← flip_comp hn hX (relP_mono w p)]
  rw [flip_seq w hn l (comp X (relP w p)) (hX.comp (relP_mono w p)) fun q hq => h q (List.mem_cons_of_mem _ hq)]
  conv => rhs; unfold seqB
theorem flip_alt (w : Wd) : ∀ (l : List Pat), (∀ q ∈ l, relP w.reverse (mirP q) = flipB w.length (relP w q)) → altB w.reverse (l.map mirP) = flipB w.length (altB w l)
 | [], _ => by simp only [List.map_nil, altB]; exact (flip_no _).symm
 | p :: l, h => by
  rw [List.map_cons]
  unfold altB
  rw [h p (List.mem_cons_self ..), flip_alt w l fun q hq => h q (List.mem_cons_of_mem _ hq), flip_or]
theorem mirror_law (w : Wd) (hn : w.length ≤ 32) : ∀ p : Pat, allN p → relP w.reverse (mirP p) = flipB w.length (relP w p)
 | .node k pl mi nt mn mx l => by
  intro h
  rw [allN_eq] at h
  obtain ⟨h1, h2⟩ := h
  have h2 : allNs l := h2
  rw [allNs_iff] at h2
  obtain ⟨h3, h4, h5, h6⟩ := nodeE_kind h1
  have ih : ∀ q ∈ l, relP w.reverse (mirP q) = flipB w.length (relP w q) := fun q hq => mirror_law w hn q (h2 q hq)
  have hk : k = 0 ∨ k = 1 ∨ k = 2 ∨ k = 3 ∨ k = 4 ∨ k = 5 ∨ k = 6 := by omega
  rw [mirP_eq]
  simp only [relP_node]
  rcases hk with rfl | rfl | rfl | rfl | rfl | rfl | rfl
  ·obtain rfl := h5 (by decide) (by decide) (by decide)
   simp [seqB, flip_id]
  ·simp only [show ¬ ((1 : Int) = 2) by decide, show ¬ ((1 : Int) = 6) by decide, if_false, if_true]
   apply bin_ext; intro a b
   rw [flipB_iff]
   simp only [soundB, Bool.and_eq_true, beq_iff_eq, decide_eq_true_eq, List.length_reverse]
   constructor
   ·rintro ⟨⟨rfl, h7⟩, h8⟩
    rw [getD_reverse w h7] at h8
    exact ⟨by omega, by omega, ⟨by omega, by omega⟩, by rw [show w.length - (a + 1) = w.length - 1 - a by omega]; exact h8⟩
   ·rintro ⟨h7, h8, ⟨h9, h10⟩, h11⟩
    obtain rfl : b = a + 1 := by omega
    exact ⟨⟨rfl, by omega⟩, by rw [getD_reverse w (by omega), show w.length - 1 - a = w.length - (a + 1) by omega]; exact h11⟩
  ·simp
   apply bin_ext; intro a b
   rw [flipB_iff]
   simp [edgeB]
   omega
  ·simp only [show ¬ ((3 : Int) = 1) by decide, show ¬ ((3 : Int) = 2) by decide, show ¬ ((3 : Int) = 6) by decide, show ¬ ((3 : Int) = 4) by decide, show ¬ ((3 : Int) = 5) by decide, if_false, if_true, List.length_reverse]
   have := flip_seq w hn l (idB w.length) (Mono.id _) ih
   rw [flip_id] at this
   rw [← this]
   have hm : Mono w.length (seqB w.reverse (l.map mirP).reverse (idB w.length)) := by
    have := seqB_mono w.reverse (l.map mirP).reverse (idB w.length) (by rw [List.length_reverse]; exact Mono.id _)
    rwa [List.length_reverse] at this
   exact (comp_id hn hm).symm
  ·simp only [show ¬ ((4 : Int) = 1) by decide, show ¬ ((4 : Int) = 2) by decide, show ¬ ((4 : Int) = 6) by decide, show ¬ ((4 : Int) = 3) by decide, if_false, if_true]
   exact flip_alt w l ih
  ·simp only [show ¬ ((5 : Int) = 1) by decide, show ¬ ((5 : Int) = 2) by decide, show ¬ ((5 : Int) = 6) by decide, show ¬ ((5 : Int) = 3) by decide, show ¬ ((5 : Int) = 4) by decide, if_false, if_true]
   obtain ⟨⟨q, rfl⟩, h7, _⟩ := h6 rfl
   simp only [List.map_cons, List.map_nil, oneB, List.length_reverse]
   have hm := relP_mono w.reverse (mirP q)
   rw [List.length_reverse] at hm
   rw [repB_sum hn hm, repB_sum hn (relP_mono w q), flip_sum hn (relP_mono w q), ih q (by simp)]
  ·simp
   apply bin_ext; intro a b
   rw [flipB_iff]
   simp [edgeB]
   omega
end Go.Proofs.YtedhogbocifipaaGreatDoor
