/- pats.allowed: the error of a node alone. -/
import Derived.Test.YtamkkhlabfahmaaGreatDoorGa04
set_option maxRecDepth 100000
set_option maxHeartbeats 8000000
namespace Go.Proofs.YtamkkhlabfahmaaGreatDoor
open Go.RowKit Go.Ab

/-- The same, by the fields. -/
def nodeV (k : Int) (pl mi : Nat) (nt : Bool) (mn mx : Int) (N : Nat) : Int :=
  if k < 0 ∨ 6 < k then 2
  else if k ≠ 1 ∧ (pl ≠ 0 ∨ mi ≠ 0 ∨ nt = true) then 2
  else if k ≠ 3 ∧ k ≠ 4 ∧ k ≠ 5 ∧ N ≠ 0 then 2
  else if k ≠ 5 ∧ (mn ≠ 0 ∨ mx ≠ 0) then 2
  else if k = 5 ∧ (N ≠ 1 ∨ mn < 0 ∨ 32 < mn ∨ (mx ≠ -1 ∧ (mx < mn ∨ 32 < mx))) then 2
  else if okSound pl mi = true then 0 else 14
theorem nodeV_eq (k : Int) (pl mi : Nat) (nt : Bool) (mn mx : Int) (l : List Pat) : nodeE (.node k pl mi nt mn mx l) = nodeV k pl mi nt mn mx l.length := rfl
theorem okSound_zero : okSound 0 0 = true := rfl

theorem allowed_out (k : Int) (pl mi : Nat) (nt : Bool) (mn mx : Int) (ao : Option Addr) (N cap : Nat) (w : World) (hk : k < 0 ∨ 6 < k) :
    Calls Tryz.prog 132 #[.agg #[.int .i64 k, .int .u32 (pl : Int), .int .u32 (mi : Int), .bool nt, .int .i64 mn, .int .i64 mx, .slice ao N cap]] w fun e w' => e = .returned (.int .i64 (nodeV k pl mi nt mn mx N)) ∧ Ext w w' := by
  have q0 : (k == 0) = false := by rw [beq_eq_false_iff_ne]; omega
  have q1 : (k == 1) = false := by rw [beq_eq_false_iff_ne]; omega
  have q2 : (k == 2) = false := by rw [beq_eq_false_iff_ne]; omega
  have q3 : (k == 3) = false := by rw [beq_eq_false_iff_ne]; omega
  have q4 : (k == 4) = false := by rw [beq_eq_false_iff_ne]; omega
  have q5 : (k == 5) = false := by rw [beq_eq_false_iff_ne]; omega
  have q6 : (k == 6) = false := by rw [beq_eq_false_iff_ne]; omega
  have hz : nodeV k pl mi nt mn mx N = 2 := by unfold nodeV; rw [if_pos hk]
  have HZ := Lib.hid hz
  clear hk hz
  go_enter Tryz.func132, Tryz.ntmps132
  go_wp2
  go_ret
  exact ⟨by rw [HZ.out]; rfl, ((Turn.refl _ _).alloc _).alloc _⟩

theorem allowed_0 (pl mi : Nat) (nt : Bool) (mn mx : Int) (ao : Option Addr) (N cap : Nat) (w : World) (hpl : pl < 4294967296) (hmi : mi < 4294967296) (_hN : N ≤ 9223372036854775807) :
    Calls Tryz.prog 132 #[.agg #[.int .i64 0, .int .u32 (pl : Int), .int .u32 (mi : Int), .bool nt, .int .i64 mn, .int .i64 mx, .slice ao N cap]] w fun e w' => e = .returned (.int .i64 (nodeV 0 pl mi nt mn mx N)) ∧ Ext w w' := by
  have hx : True := trivial
  all_goals (go_enter Tryz.func132, Tryz.ntmps132)
  all_goals (go_wp2_with fail)
  all_goals first
    | (refine (valid_any _ _ (by assumption) (by assumption) _).mono ?_
       rintro e w2 ⟨rfl, hE2⟩
       have hE := (((Turn.refl (fun _ => False) w).alloc _).alloc _).trans hE2
       have HE := Lib.hid hE
       clear hE hE2
       obtain ⟨z, hz⟩ : ∃ z, okSound pl mi = z := ⟨_, rfl⟩
       have HZ := Lib.hid hz
       rw [hz]
       clear hz
       cases z
       all_goals
         go_wp2
         go_ret
         exact ⟨ret_int (by have := HZ.out; unfold nodeV; rw [this]; (try subst ‹nt = true›); (try (have hnt : nt = false := Bool.eq_false_iff.2 ‹¬nt = true›; subst hnt)); simp <;> omega), HE.out⟩)
    | (refine (valid_any 0 0 (by decide) (by decide) _).mono ?_
       rintro e w2 ⟨rfl, hE2⟩
       have hE := (((Turn.refl (fun _ => False) w).alloc _).alloc _).trans hE2
       have HE := Lib.hid hE
       clear hE hE2
       rw [okSound_zero]
       go_wp2
       go_ret
       exact ⟨ret_int (by have := okSound_zero; have h1 : pl = 0 := by assumption
                          have h2 : mi = 0 := by assumption
                          subst h1; subst h2; unfold nodeV; rw [this]; (try (have hnt : nt = false := Bool.eq_false_iff.2 ‹¬nt = true›; subst hnt)); simp <;> omega), HE.out⟩)
    | (go_ret
       exact ⟨ret_int (by unfold nodeV; (try subst ‹nt = true›); (try (have hnt : nt = false := Bool.eq_false_iff.2 ‹¬nt = true›; subst hnt)); simp <;> omega), ((Turn.refl _ _).alloc _).alloc _⟩)

theorem allowed_1 (pl mi : Nat) (nt : Bool) (mn mx : Int) (ao : Option Addr) (N cap : Nat) (w : World) (hpl : pl < 4294967296) (hmi : mi < 4294967296) (_hN : N ≤ 9223372036854775807) :
    Calls Tryz.prog 132 #[.agg #[.int .i64 1, .int .u32 (pl : Int), .int .u32 (mi : Int), .bool nt, .int .i64 mn, .int .i64 mx, .slice ao N cap]] w fun e w' => e = .returned (.int .i64 (nodeV 1 pl mi nt mn mx N)) ∧ Ext w w' := by
  have hx : True := trivial
  all_goals (go_enter Tryz.func132, Tryz.ntmps132)
  all_goals (go_wp2_with fail)
  all_goals first
    | (refine (valid_any _ _ (by assumption) (by assumption) _).mono ?_
       rintro e w2 ⟨rfl, hE2⟩
       have hE := (((Turn.refl (fun _ => False) w).alloc _).alloc _).trans hE2
       have HE := Lib.hid hE
       clear hE hE2
       obtain ⟨z, hz⟩ : ∃ z, okSound pl mi = z := ⟨_, rfl⟩
       have HZ := Lib.hid hz
       rw [hz]
       clear hz
       cases z
       all_goals
         go_wp2
         go_ret
         exact ⟨ret_int (by have := HZ.out; unfold nodeV; rw [this]; (try subst ‹nt = true›); (try (have hnt : nt = false := Bool.eq_false_iff.2 ‹¬nt = true›; subst hnt)); simp <;> omega), HE.out⟩)
    | (refine (valid_any 0 0 (by decide) (by decide) _).mono ?_
       rintro e w2 ⟨rfl, hE2⟩
       have hE := (((Turn.refl (fun _ => False) w).alloc _).alloc _).trans hE2
       have HE := Lib.hid hE
       clear hE hE2
       rw [okSound_zero]
       go_wp2
       go_ret
       exact ⟨ret_int (by have := okSound_zero; have h1 : pl = 0 := by assumption
                          have h2 : mi = 0 := by assumption
                          subst h1; subst h2; unfold nodeV; rw [this]; (try (have hnt : nt = false := Bool.eq_false_iff.2 ‹¬nt = true›; subst hnt)); simp <;> omega), HE.out⟩)
    | (go_ret
       exact ⟨ret_int (by unfold nodeV; (try subst ‹nt = true›); (try (have hnt : nt = false := Bool.eq_false_iff.2 ‹¬nt = true›; subst hnt)); simp <;> omega), ((Turn.refl _ _).alloc _).alloc _⟩)

theorem allowed_2 (pl mi : Nat) (nt : Bool) (mn mx : Int) (ao : Option Addr) (N cap : Nat) (w : World) (hpl : pl < 4294967296) (hmi : mi < 4294967296) (_hN : N ≤ 9223372036854775807) :
    Calls Tryz.prog 132 #[.agg #[.int .i64 2, .int .u32 (pl : Int), .int .u32 (mi : Int), .bool nt, .int .i64 mn, .int .i64 mx, .slice ao N cap]] w fun e w' => e = .returned (.int .i64 (nodeV 2 pl mi nt mn mx N)) ∧ Ext w w' := by
  have hx : True := trivial
  all_goals (go_enter Tryz.func132, Tryz.ntmps132)
  all_goals (go_wp2_with fail)
  all_goals first
    | (refine (valid_any _ _ (by assumption) (by assumption) _).mono ?_
       rintro e w2 ⟨rfl, hE2⟩
       have hE := (((Turn.refl (fun _ => False) w).alloc _).alloc _).trans hE2
       have HE := Lib.hid hE
       clear hE hE2
       obtain ⟨z, hz⟩ : ∃ z, okSound pl mi = z := ⟨_, rfl⟩
       have HZ := Lib.hid hz
       rw [hz]
       clear hz
       cases z
       all_goals
         go_wp2
         go_ret
         exact ⟨ret_int (by have := HZ.out; unfold nodeV; rw [this]; (try subst ‹nt = true›); (try (have hnt : nt = false := Bool.eq_false_iff.2 ‹¬nt = true›; subst hnt)); simp <;> omega), HE.out⟩)
    | (refine (valid_any 0 0 (by decide) (by decide) _).mono ?_
       rintro e w2 ⟨rfl, hE2⟩
       have hE := (((Turn.refl (fun _ => False) w).alloc _).alloc _).trans hE2
       have HE := Lib.hid hE
       clear hE hE2
       rw [okSound_zero]
       go_wp2
       go_ret
       exact ⟨ret_int (by have := okSound_zero; have h1 : pl = 0 := by assumption
                          have h2 : mi = 0 := by assumption
                          subst h1; subst h2; unfold nodeV; rw [this]; (try (have hnt : nt = false := Bool.eq_false_iff.2 ‹¬nt = true›; subst hnt)); simp <;> omega), HE.out⟩)
    | (go_ret
       exact ⟨ret_int (by unfold nodeV; (try subst ‹nt = true›); (try (have hnt : nt = false := Bool.eq_false_iff.2 ‹¬nt = true›; subst hnt)); simp <;> omega), ((Turn.refl _ _).alloc _).alloc _⟩)

theorem allowed_3 (pl mi : Nat) (nt : Bool) (mn mx : Int) (ao : Option Addr) (N cap : Nat) (w : World) (hpl : pl < 4294967296) (hmi : mi < 4294967296) (_hN : N ≤ 9223372036854775807) :
    Calls Tryz.prog 132 #[.agg #[.int .i64 3, .int .u32 (pl : Int), .int .u32 (mi : Int), .bool nt, .int .i64 mn, .int .i64 mx, .slice ao N cap]] w fun e w' => e = .returned (.int .i64 (nodeV 3 pl mi nt mn mx N)) ∧ Ext w w' := by
  have hx : True := trivial
  all_goals (go_enter Tryz.func132, Tryz.ntmps132)
  all_goals (go_wp2_with fail)
  all_goals first
    | (refine (valid_any _ _ (by assumption) (by assumption) _).mono ?_
       rintro e w2 ⟨rfl, hE2⟩
       have hE := (((Turn.refl (fun _ => False) w).alloc _).alloc _).trans hE2
       have HE := Lib.hid hE
       clear hE hE2
       obtain ⟨z, hz⟩ : ∃ z, okSound pl mi = z := ⟨_, rfl⟩
       have HZ := Lib.hid hz
       rw [hz]
       clear hz
       cases z
       all_goals
         go_wp2
         go_ret
         exact ⟨ret_int (by have := HZ.out; unfold nodeV; rw [this]; (try subst ‹nt = true›); (try (have hnt : nt = false := Bool.eq_false_iff.2 ‹¬nt = true›; subst hnt)); simp <;> omega), HE.out⟩)
    | (refine (valid_any 0 0 (by decide) (by decide) _).mono ?_
       rintro e w2 ⟨rfl, hE2⟩
       have hE := (((Turn.refl (fun _ => False) w).alloc _).alloc _).trans hE2
       have HE := Lib.hid hE
       clear hE hE2
       rw [okSound_zero]
       go_wp2
       go_ret
       exact ⟨ret_int (by have := okSound_zero; have h1 : pl = 0 := by assumption
                          have h2 : mi = 0 := by assumption
                          subst h1; subst h2; unfold nodeV; rw [this]; (try (have hnt : nt = false := Bool.eq_false_iff.2 ‹¬nt = true›; subst hnt)); simp <;> omega), HE.out⟩)
    | (go_ret
       exact ⟨ret_int (by unfold nodeV; (try subst ‹nt = true›); (try (have hnt : nt = false := Bool.eq_false_iff.2 ‹¬nt = true›; subst hnt)); simp <;> omega), ((Turn.refl _ _).alloc _).alloc _⟩)

theorem allowed_4 (pl mi : Nat) (nt : Bool) (mn mx : Int) (ao : Option Addr) (N cap : Nat) (w : World) (hpl : pl < 4294967296) (hmi : mi < 4294967296) (_hN : N ≤ 9223372036854775807) :
    Calls Tryz.prog 132 #[.agg #[.int .i64 4, .int .u32 (pl : Int), .int .u32 (mi : Int), .bool nt, .int .i64 mn, .int .i64 mx, .slice ao N cap]] w fun e w' => e = .returned (.int .i64 (nodeV 4 pl mi nt mn mx N)) ∧ Ext w w' := by
  have hx : True := trivial
  all_goals (go_enter Tryz.func132, Tryz.ntmps132)
  all_goals (go_wp2_with fail)
  all_goals first
    | (refine (valid_any _ _ (by assumption) (by assumption) _).mono ?_
       rintro e w2 ⟨rfl, hE2⟩
       have hE := (((Turn.refl (fun _ => False) w).alloc _).alloc _).trans hE2
       have HE := Lib.hid hE
       clear hE hE2
       obtain ⟨z, hz⟩ : ∃ z, okSound pl mi = z := ⟨_, rfl⟩
       have HZ := Lib.hid hz
       rw [hz]
       clear hz
       cases z
       all_goals
         go_wp2
         go_ret
         exact ⟨ret_int (by have := HZ.out; unfold nodeV; rw [this]; (try subst ‹nt = true›); (try (have hnt : nt = false := Bool.eq_false_iff.2 ‹¬nt = true›; subst hnt)); simp <;> omega), HE.out⟩)
    | (refine (valid_any 0 0 (by decide) (by decide) _).mono ?_
       rintro e w2 ⟨rfl, hE2⟩
       have hE := (((Turn.refl (fun _ => False) w).alloc _).alloc _).trans hE2
       have HE := Lib.hid hE
       clear hE hE2
       rw [okSound_zero]
       go_wp2
       go_ret
       exact ⟨ret_int (by have := okSound_zero; have h1 : pl = 0 := by assumption
                          have h2 : mi = 0 := by assumption
                          subst h1; subst h2; unfold nodeV; rw [this]; (try (have hnt : nt = false := Bool.eq_false_iff.2 ‹¬nt = true›; subst hnt)); simp <;> omega), HE.out⟩)
    | (go_ret
       exact ⟨ret_int (by unfold nodeV; (try subst ‹nt = true›); (try (have hnt : nt = false := Bool.eq_false_iff.2 ‹¬nt = true›; subst hnt)); simp <;> omega), ((Turn.refl _ _).alloc _).alloc _⟩)

theorem allowed_5 (pl mi : Nat) (nt : Bool) (mn mx : Int) (ao : Option Addr) (N cap : Nat) (w : World) (hpl : pl < 4294967296) (hmi : mi < 4294967296) (_hN : N ≤ 9223372036854775807) :
    Calls Tryz.prog 132 #[.agg #[.int .i64 5, .int .u32 (pl : Int), .int .u32 (mi : Int), .bool nt, .int .i64 mn, .int .i64 mx, .slice ao N cap]] w fun e w' => e = .returned (.int .i64 (nodeV 5 pl mi nt mn mx N)) ∧ Ext w w' := by
  rcases (show (32 < mx ∧ (mx != -1) = true) ∨ mx ≤ 32 by rw [bne_iff_ne]; omega) with ⟨hx, hq⟩ | hx
  all_goals (go_enter Tryz.func132, Tryz.ntmps132)
  all_goals (go_wp2_with fail)
  all_goals first
    | (refine (valid_any _ _ (by assumption) (by assumption) _).mono ?_
       rintro e w2 ⟨rfl, hE2⟩
       have hE := (((Turn.refl (fun _ => False) w).alloc _).alloc _).trans hE2
       have HE := Lib.hid hE
       clear hE hE2
       obtain ⟨z, hz⟩ : ∃ z, okSound pl mi = z := ⟨_, rfl⟩
       have HZ := Lib.hid hz
       rw [hz]
       clear hz
       cases z
       all_goals
         go_wp2
         go_ret
         exact ⟨ret_int (by have := HZ.out; unfold nodeV; rw [this]; (try subst ‹nt = true›); (try (have hnt : nt = false := Bool.eq_false_iff.2 ‹¬nt = true›; subst hnt)); simp <;> omega), HE.out⟩)
    | (refine (valid_any 0 0 (by decide) (by decide) _).mono ?_
       rintro e w2 ⟨rfl, hE2⟩
       have hE := (((Turn.refl (fun _ => False) w).alloc _).alloc _).trans hE2
       have HE := Lib.hid hE
       clear hE hE2
       rw [okSound_zero]
       go_wp2
       go_ret
       exact ⟨ret_int (by have := okSound_zero; have h1 : pl = 0 := by assumption
                          have h2 : mi = 0 := by assumption
                          subst h1; subst h2; unfold nodeV; rw [this]; (try (have hnt : nt = false := Bool.eq_false_iff.2 ‹¬nt = true›; subst hnt)); simp <;> omega), HE.out⟩)
    | (go_ret
       exact ⟨ret_int (by unfold nodeV; (try subst ‹nt = true›); (try (have hnt : nt = false := Bool.eq_false_iff.2 ‹¬nt = true›; subst hnt)); simp <;> omega), ((Turn.refl _ _).alloc _).alloc _⟩)

theorem allowed_6 (pl mi : Nat) (nt : Bool) (mn mx : Int) (ao : Option Addr) (N cap : Nat) (w : World) (hpl : pl < 4294967296) (hmi : mi < 4294967296) (_hN : N ≤ 9223372036854775807) :
    Calls Tryz.prog 132 #[.agg #[.int .i64 6, .int .u32 (pl : Int), .int .u32 (mi : Int), .bool nt, .int .i64 mn, .int .i64 mx, .slice ao N cap]] w fun e w' => e = .returned (.int .i64 (nodeV 6 pl mi nt mn mx N)) ∧ Ext w w' := by
  have hx : True := trivial
  all_goals (go_enter Tryz.func132, Tryz.ntmps132)
  all_goals (go_wp2_with fail)
  all_goals first
    | (refine (valid_any _ _ (by assumption) (by assumption) _).mono ?_
       rintro e w2 ⟨rfl, hE2⟩
       have hE := (((Turn.refl (fun _ => False) w).alloc _).alloc _).trans hE2
       have HE := Lib.hid hE
       clear hE hE2
       obtain ⟨z, hz⟩ : ∃ z, okSound pl mi = z := ⟨_, rfl⟩
       have HZ := Lib.hid hz
       rw [hz]
       clear hz
       cases z
       all_goals
         go_wp2
         go_ret
         exact ⟨ret_int (by have := HZ.out; unfold nodeV; rw [this]; (try subst ‹nt = true›); (try (have hnt : nt = false := Bool.eq_false_iff.2 ‹¬nt = true›; subst hnt)); simp <;> omega), HE.out⟩)
    | (refine (valid_any 0 0 (by decide) (by decide) _).mono ?_
       rintro e w2 ⟨rfl, hE2⟩
       have hE := (((Turn.refl (fun _ => False) w).alloc _).alloc _).trans hE2
       have HE := Lib.hid hE
       clear hE hE2
       rw [okSound_zero]
       go_wp2
       go_ret
       exact ⟨ret_int (by have := okSound_zero; have h1 : pl = 0 := by assumption
                          have h2 : mi = 0 := by assumption
                          subst h1; subst h2; unfold nodeV; rw [this]; (try (have hnt : nt = false := Bool.eq_false_iff.2 ‹¬nt = true›; subst hnt)); simp <;> omega), HE.out⟩)
    | (go_ret
       exact ⟨ret_int (by unfold nodeV; (try subst ‹nt = true›); (try (have hnt : nt = false := Bool.eq_false_iff.2 ‹¬nt = true›; subst hnt)); simp <;> omega), ((Turn.refl _ _).alloc _).alloc _⟩)

theorem allowed_any {K : Nat → Prop} {w : World} {p : Pat} {cs : List Value} (h : PatAt K w p cs) (W : World) :
    Calls Tryz.prog 132 #[.agg cs.toArray] W fun e w' => e = .returned (.int .i64 (nodeE p)) ∧ Ext W w' := by
  obtain ⟨k, pl, mi, nt, mn, mx, l⟩ := p
  unfold PatAt at h
  obtain ⟨ao, cap, rfl, hpl, hmi, hlc, hcm, _⟩ := h
  unfold maxLen at hcm
  rw [nodeV_eq]
  unfold patCells
  by_cases hk : k < 0 ∨ 6 < k
  · exact allowed_out k pl mi nt mn mx ao l.length cap W hk
  · rcases (show k = 0 ∨ k = 1 ∨ k = 2 ∨ k = 3 ∨ k = 4 ∨ k = 5 ∨ k = 6 by omega) with rfl | rfl | rfl | rfl | rfl | rfl | rfl
    · exact allowed_0 pl mi nt mn mx ao l.length cap W hpl hmi (by omega)
    · exact allowed_1 pl mi nt mn mx ao l.length cap W hpl hmi (by omega)
    · exact allowed_2 pl mi nt mn mx ao l.length cap W hpl hmi (by omega)
    · exact allowed_3 pl mi nt mn mx ao l.length cap W hpl hmi (by omega)
    · exact allowed_4 pl mi nt mn mx ao l.length cap W hpl hmi (by omega)
    · exact allowed_5 pl mi nt mn mx ao l.length cap W hpl hmi (by omega)
    · exact allowed_6 pl mi nt mn mx ao l.length cap W hpl hmi (by omega)
end Go.Proofs.YtamkkhlabfahmaaGreatDoor
