/- slices.ContainsFunc over patterns; pats.empty, Empty. -/
import Derived.Test.YtapfoaiibjdfnaaDoorCheckP
namespace Go.Proofs.YtapfoaiibjdfnaaDoor
open Go.RowKit Go.Ab
attribute [local go_sem] Oper.semAt_some wide_fn wide_depth

theorem any_take {l : List Pat} {F : Pat → Bool} {k : Nat} (hk : k < l.length) (h0 : (l.take k).any F = false) (h : F l[k] = false) : (l.take (k + 1)).any F = false := by
  rw [List.take_succ_eq_append_getElem hk, List.any_append, h0]; simp [h]
theorem any_at {l : List Pat} {F : Pat → Bool} {k : Nat} (hk : k < l.length) (h : F l[k] = true) : l.any F = true :=
  List.any_eq_true.2 ⟨_, List.getElem_mem hk, h⟩

set_option maxRecDepth 100000 in
set_option maxHeartbeats 4000000 in
theorem index_pat {K : Nat → Prop} {w : World} {ao : Option Addr} {cap : Nat} {l : List Pat} (hl : PatsAt K w l ao 0) (hlm : l.length ≤ maxLen) (fn : Nat) (hen : ∀ args w, (callFunc fn args).run Tryd.prog w = .ok (.enter fn args) w)
    (F : Pat → Bool) (hF : ∀ p ∈ l, ∀ cs V, Ext w V → PatAt K V p cs → Calls Tryd.prog fn #[.agg cs.toArray] V fun e w' => e = .returned (.bool (F p)) ∧ Ext V w') :
    Calls Tryd.prog 88 #[.slice ao l.length cap, .func (.func fn) #[] #[]] w fun e w' => ∃ z : Int, e = .returned (.int .i64 z) ∧ decide (0 ≤ z) = l.any F ∧ Ext w w' := by
  unfold maxLen at hlm
  have HL := Lib.hid hl; have HF := Lib.hid hF
  clear hl hF
  obtain ⟨N, hN⟩ : ∃ N, l.length = N := ⟨_, rfl⟩
  have HN := Lib.hid hN
  rw [hN] at hlm ⊢
  clear hN
  have HEN := Lib.hid hen
  clear hen
  go_enter Tryd.func88, Tryd.ntmps88
  go_wp2
  refine wp_loop (fun a W => ∃ (k : Nat), k ≤ N ∧ a.defers = [] ∧ (a.tmps.size = 19 ∧ a.tmps.getD 0 undef = .slice ao N cap ∧ a.tmps.getD 1 undef = .func (.func fn) #[] #[] ∧ a.tmps.getD 7 undef = .int .i64 N ∧ a.tmps.getD 8 undef = .int .i64 k) ∧ (l.take k).any F = false ∧ Ext w W)
    (fun a _ => N - (intOf (a.tmps.getD 8 undef)).toNat) ?_ ?_
  · exact ⟨0, by omega, rfl, ⟨rfl, rfl, rfl, rfl, rfl⟩, by simp, Turn.refl _ _⟩
  rintro ⟨t, _⟩ W ⟨k, hk, hds, ⟨hsz, f0, f1, f7, f8⟩, hall, hE⟩
  subst hds
  obtain ⟨u', hu⟩ := frame_fun hsz
  obtain ⟨u, rfl⟩ : ∃ x, x = u' := ⟨_, rfl⟩
  have hu' : t = #[u 0, u 1, u 2, u 3, u 4, u 5, u 6, u 7, u 8, u 9, u 10, u 11, u 12, u 13, u 14, u 15, u 16, u 17, u 18] := hu
  clear hu
  subst hu'
  change u 0 = _ at f0
  change u 1 = _ at f1
  change u 7 = _ at f7
  change u 8 = _ at f8
  rw [f0, f1, f7, f8]
  clear f0 f1 f7 f8 hsz
  have HALL := Lib.hid hall
  clear hall
  by_cases hkN : k < N
  · have h1 : (k : Int) < (N : Int) := by omega
    have hkl : k < l.length := by rw [HN.out]; exact hkN
    obtain ⟨g, off, c, rfl, hg, hgl, hra, hp⟩ := (HL.out.ext hE).get k hkl
    rw [Nat.zero_add] at hra
    obtain ⟨qo, qcap, hcq, _, _, _⟩ := patAt_cells hp
    obtain ⟨c0, c1, c2, c3, c4, c5, c6⟩ := patCells_at hra hcq
    have hc := HF.out _ (List.getElem_mem hkl) c W hE hp
    rw [hcq] at hc
    unfold patCells at hc
    have HC := Lib.hid hc
    have hen := HEN.out
    clear hc hra hp hcq
    go_wp2_with fail
    clear hen
    refine HC.out.mono ?_
    rintro e W2 ⟨rfl, hE2⟩
    have hE02 := hE.trans hE2
    clear HC hE hE2 c0 c1 c2 c3 c4 c5 c6
    cases hok : F l[k]
    · have hfin := any_take hkl HALL.out hok
      have HFI := Lib.hid hfin
      clear hfin hok
      go_wp2
      exact ⟨⟨k + 1, by omega, by first | rfl | trivial, ⟨rfl, rfl, rfl, rfl, rfl⟩, HFI.out, hE02⟩, by simp [intOf]; omega⟩
    · have hfin := any_at hkl hok
      have HFI := Lib.hid hfin
      clear hfin hok
      go_wp2
      go_ret
      exact ⟨_, rfl, by rw [HFI.out]; simp, hE02⟩
  · obtain rfl : k = N := by omega
    have h1 : ¬ (k : Int) < (k : Int) := by omega
    have hfin : l.any F = false := by have := HALL.out; rwa [List.take_of_length_le (by rw [HN.out]; exact Nat.le_refl _)] at this
    have HFI := Lib.hid hfin
    clear hfin
    go_wp2
    go_ret
    exact ⟨_, rfl, by rw [HFI.out]; simp, hE⟩
theorem contains_pat {K : Nat → Prop} {w : World} {ao : Option Addr} {cap : Nat} {l : List Pat} (hl : PatsAt K w l ao 0) (hlm : l.length ≤ maxLen) (fn : Nat) (hen : ∀ args w, (callFunc fn args).run Tryd.prog w = .ok (.enter fn args) w)
    (F : Pat → Bool) (hF : ∀ p ∈ l, ∀ cs V, Ext w V → PatAt K V p cs → Calls Tryd.prog fn #[.agg cs.toArray] V fun e w' => e = .returned (.bool (F p)) ∧ Ext V w') :
    Calls Tryd.prog 80 #[.slice ao l.length cap, .func (.func fn) #[] #[]] w fun e w' => e = .returned (.bool (l.any F)) ∧ Ext w w' := by
  have hi := index_pat hl hlm (cap := cap) fn hen F hF
  have HI := Lib.hid hi
  clear hi hF hl hen
  go_enter Tryd.func80, Tryd.ntmps80
  go_wp2_with fail
  refine HI.out.mono ?_
  rintro e w2 ⟨z, rfl, hz, hE⟩
  have HZ := Lib.hid hz
  clear hz
  go_wp2
  go_ret
  exact ⟨by rw [← HZ.out]; rfl, hE⟩
end Go.Proofs.YtapfoaiibjdfnaaDoor
