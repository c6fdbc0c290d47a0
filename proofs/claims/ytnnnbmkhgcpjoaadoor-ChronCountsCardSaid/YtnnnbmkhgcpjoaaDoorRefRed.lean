/- ablautref13.Order: Reduced; Before's errors. -/
import Derived.Test.YtnnnbmkhgcpjoaaDoorRefPairs
import Derived.Test.YtnnnbmkhgcpjoaaDoorRefBefore
namespace Go.Proofs.YtnnnbmkhgcpjoaaDoor
open Go.RowKit Go.Ab

set_option maxRecDepth 100000 in
theorem refBefore_bad {w : World} {base b n : Nat} {R : Bin} (h : RefO w base b n R) (x y : Int) (h0 : befC n R x y ≠ 0) :
    Calls Tryd.prog 18 #[.pointer (some ⟨b, 0, none⟩), .int .i64 x, .int .i64 y] w fun e w' => e = .returned (.int .i64 (befC n R x y)) ∧ w = w' := by
  by_cases hx : 0 ≤ x ∧ x < n
  · by_cases hy : 0 ≤ y ∧ y < n
    · have e1 := isEv_true hx.1 hx.2
      have e2 := isEv_true hy.1 hy.2
      obtain ⟨x, rfl⟩ := Int.eq_ofNat_of_zero_le hx.1
      obtain ⟨y, rfl⟩ := Int.eq_ofNat_of_zero_le hy.1
      obtain ⟨go, co, c2, hrow⟩ := h.table (by omega)
      obtain ⟨gy, cy, c3, hcell⟩ := hrow y (by omega)
      have c4 := hcell x (by omega)
      have hx1 : (x : Int) < (n : Int) := hx.2
      have hy1 : (y : Int) < (n : Int) := hy.2
      have hi : isR n R y x = R y x := by simp [isR, e1, e2]
      have hb : befC n R x y = 9 := by
        unfold befC at h0 ⊢
        rw [e1, e2, hi] at h0 ⊢
        simp only [Bool.and_self, if_true] at h0 ⊢
        by_cases hq : ((x : Int) == (y : Int) || R y x) = true
        · rw [if_pos hq]
        · rw [if_neg hq] at h0; exact absurd rfl h0
      have hor : x = y ∨ (x ≠ y ∧ R y x = true) := by
        by_cases q : x = y
        · exact .inl q
        · right
          refine ⟨q, ?_⟩
          cases hr : R y x with
          | true => rfl
          | false =>
            exfalso
            apply h0
            exact befC_zero.2 ⟨e1, e2, by omega, by rw [hi, hr]⟩
      rw [hb]
      clear hrow hcell hx hy hi hb h0
      rcases hor with hq | ⟨hq, hr⟩
      · have q : ((x : Int) == (y : Int)) = true := by simp [hq]
        have HQ := Lib.hid hq
        clear hq
        go_enter Tryd.func18, Tryd.ntmps18
        go_wp2_with (first | (go_at_call 40; refine (refValid_ok h).mono ?_; rintro e w' ⟨rfl, rfl⟩) | (go_at_call 41; refine (refEvent_ok h _).mono ?_; rintro e w' ⟨rfl, rfl⟩))
        go_goals
        go_ret
        exact ⟨rfl, rfl⟩
      · have q : ((x : Int) == (y : Int)) = false := by rw [beq_eq_false_iff_ne]; omega
        rw [hr] at c4
        have HQ := Lib.hid hq; have HR := Lib.hid hr
        clear hq hr
        go_enter Tryd.func18, Tryd.ntmps18
        go_wp2_with (first | (go_at_call 40; refine (refValid_ok h).mono ?_; rintro e w' ⟨rfl, rfl⟩) | (go_at_call 41; refine (refEvent_ok h _).mono ?_; rintro e w' ⟨rfl, rfl⟩))
        go_goals
        go_ret
        exact ⟨rfl, rfl⟩
    · have e1 := isEv_true hx.1 hx.2
      have e2 := isEv_not hy
      have hb : befC n R x y = 3 := by simp [befC, e2]
      rw [hb]
      go_enter Tryd.func18, Tryd.ntmps18
      go_wp2_with (first | (go_at_call 40; refine (refValid_ok h).mono ?_; rintro e w' ⟨rfl, rfl⟩) | (go_at_call 41; refine (refEvent_ok h _).mono ?_; rintro e w' ⟨rfl, rfl⟩))
      go_goals
      go_ret
      exact ⟨rfl, rfl⟩
  · have e1 := isEv_not hx
    have hb : befC n R x y = 3 := by simp [befC, e1]
    rw [hb]
    go_enter Tryd.func18, Tryd.ntmps18
    go_wp2_with (first | (go_at_call 40; refine (refValid_ok h).mono ?_; rintro e w' ⟨rfl, rfl⟩) | (go_at_call 41; refine (refEvent_ok h _).mono ?_; rintro e w' ⟨rfl, rfl⟩))
    go_goals
    go_ret
    exact ⟨rfl, rfl⟩

theorem refBefore_R {w : World} {base b n : Nat} {R : Bin} (hn : n ≤ 64) (hR : Rel n R) (h : RefO w base b n R) (x y : Int) :
    Calls Tryd.prog 18 #[.pointer (some ⟨b, 0, none⟩), .int .i64 x, .int .i64 y] w fun e w' => e = .returned (.int .i64 (befC n R x y)) ∧ Turn (fun g => base ≤ g ∧ ∃ cs fr, w.heap[g]? = some (.cells cs 4 fr)) w w' ∧ RefO w' base b n (befN n R x y) := by
  by_cases h0 : befC n R x y = 0
  · obtain ⟨e1, e2, h3, h4⟩ := befC_zero.1 h0
    have k1 := isEv_iff.1 e1
    have k2 := isEv_iff.1 e2
    obtain ⟨x, rfl⟩ := Int.eq_ofNat_of_zero_le k1.1
    obtain ⟨y, rfl⟩ := Int.eq_ofNat_of_zero_le k2.1
    have hno : R y x = false := by simpa [isR, e1, e2] using h4
    rw [h0, befN, if_pos h0]
    exact refBefore_ok hn hR h x y (by omega) (by omega) (by omega) hno
  · refine (refBefore_bad h x y h0).mono ?_
    rintro e w' ⟨rfl, rfl⟩
    refine ⟨rfl, Turn.refl _ _, ?_⟩
    rw [befN, if_neg h0]; exact h

/-- What follows from no others, by between. -/
theorem redR_bet (n : Nat) (R : Bin) : redR n R = (pairsR n R).filter fun p => !betB n R p.1.toNat p.2.toNat := by
  unfold redR
  apply List.filter_congr
  intro p _
  unfold betB
  rw [List.not_any_eq_all_not]

set_option maxRecDepth 100000 in
set_option maxHeartbeats 4000000 in
theorem refReduced_ok {w : World} {base b n : Nat} {R : Bin} (hn : n ≤ 64) (h : RefO w base b n R) :
    Calls Tryd.prog 44 #[.pointer (some ⟨b, 0, none⟩)] w fun e w' => ∃ v, e = .returned v ∧ Ext w w' ∧ w'.ownsRow w.heap.size 33 2 v (redR n R).length (prs (redR n R)) := by
  go_enter Tryd.func44, Tryd.ntmps44
  go_wp2_with fail
  refine (refPairs_ok hn h).mono ?_
  rintro e w1 ⟨vp, rfl, hE1, hO1⟩
  have hle := pairsU_le n R n
  rw [pairsU_all] at hle
  have hmul : n * n ≤ 64 * 64 := Nat.mul_le_mul hn hn
  have hmem : ∀ p ∈ pairsR n R, ∃ a b : Nat, p = ((a : Int), (b : Int)) ∧ a < n ∧ b < n ∧ R a b = true := fun p hp => mem_pairsR.1 hp
  obtain ⟨hl1, hm1, ap, cp, rfl, hR⟩ := Rd.of_own hO1
  obtain ⟨L, hL⟩ : ∃ L, pairsR n R = L := ⟨_, rfl⟩
  have hred := redR_bet n R
  rw [hL] at hle hl1 hm1 hR hmem hred ⊢
  obtain ⟨f, hf⟩ : ∃ f, (fun p : Int × Int => !betB n R p.1.toNat p.2.toNat) = f := ⟨_, rfl⟩
  rw [hf] at hred
  have hR' : ∀ k (hk : k < L.length), ∃ (g off a b : Nat), ap = some ⟨g, off, none⟩ ∧ a < n ∧ b < n ∧ L[k] = ((a : Int), (b : Int)) ∧ f L[k] = (!betB n R a b) ∧ w1.cell? ⟨g, off + k * 2, none⟩ = some (.int .i64 a) ∧ w1.cell? ⟨g, off + k * 2 + 1, none⟩ = some (.int .i64 b) := fun k hk => by
    obtain ⟨g, off, e, _, hc⟩ := hR (by omega)
    obtain ⟨a, b, hab, ha, hb, _⟩ := hmem L[k] (List.getElem_mem hk)
    have hgd : L.getD k (0, 0) = ((a : Int), (b : Int)) := by simp [List.getD_eq_getElem?_getD, hk, hab]
    refine ⟨g, off, a, b, e, ha, hb, hab, by rw [← hf, hab]; rfl, ?_, ?_⟩
    · rw [hc (k * 2) (by omega), prs_fst _ _ hk, hgd]
    · rw [Nat.add_assoc, hc (k * 2 + 1) (by omega), prs_snd _ _ hk, hgd]
  have HR := Lib.hid hR'; have HRED := Lib.hid hred
  have h1 := h.ext hE1
  clear hR hR' hmem hl1 hm1 hred hO1 hf hL
  go_wp2
  refine wp_loop (fun a W => ∃ (k : Nat) (vo : Value), k ≤ L.length ∧ Ext w1 W ∧ a.defers = [] ∧ (a.tmps.size = 35 ∧ a.tmps.getD 0 undef = .pointer (some ⟨b, 0, none⟩) ∧ a.tmps.getD 3 undef = vo ∧ a.tmps.getD 4 undef = .slice ap L.length cp ∧ a.tmps.getD 5 undef = .int .i64 k) ∧ W.ownsRow w1.heap.size 33 2 vo ((L.take k).filter f).length (prs ((L.take k).filter f)))
    (fun a _ => L.length - (intOf (a.tmps.getD 5 undef)).toNat) ?_ ?_
  · exact ⟨0, _, by omega, Turn.refl _ _, rfl, ⟨rfl, rfl, rfl, rfl, rfl⟩, by simpa [prs] using World.ownsRow_nil _ _ _ _⟩
  rintro ⟨t, _⟩ W ⟨k, vo, hk, hEW, hds, ⟨hsz, f0, f3, f4, f5⟩, hO⟩
  subst hds
  obtain ⟨u', hu⟩ := frame_fun hsz
  obtain ⟨u, rfl⟩ : ∃ x, x = u' := ⟨_, rfl⟩
  have hu' : t = #[u 0, u 1, u 2, u 3, u 4, u 5, u 6, u 7, u 8, u 9, u 10, u 11, u 12, u 13, u 14, u 15, u 16, u 17, u 18, u 19, u 20, u 21, u 22, u 23, u 24, u 25, u 26, u 27, u 28, u 29, u 30, u 31, u 32, u 33, u 34] := hu
  clear hu
  subst hu'
  change u 0 = _ at f0
  change u 3 = _ at f3
  change u 4 = _ at f4
  change u 5 = _ at f5
  rw [f0, f3, f4, f5]
  clear f0 f3 f4 f5 hsz
  by_cases hk2 : k < L.length
  · have hk3 : (k : Int) < (L.length : Int) := by omega
    obtain ⟨g, off, x, y, rfl, hx, hy, hLk, hfk, c1, c2⟩ := HR.out k hk2
    have d1 := hEW.cell_some c1 id
    have d2 := hEW.cell_some c2 id
    have htk := filter_take_succ f L k hk2
    rw [hfk, hLk] at htk
    obtain ⟨q, hq⟩ : ∃ q, betB n R x y = q := ⟨_, rfl⟩
    rw [hq] at htk
    have hlk : ((L.take k).filter f).length ≤ 64 * 64 := by
      have h1 := List.length_filter_le f (L.take k)
      have h2 := List.length_take_le k L
      omega
    have hW := h1.ext hEW
    have hcall : ∀ m, Calls Tryd.prog 49 #[.pointer (some ⟨b, 0, none⟩), .int .i64 x, .int .i64 y] (W.drewN m) fun e w' => e = .returned (.bool q) ∧ w' = W.drewN m := fun m =>
      (refBetween_ok hn (hW.ext ((Turn.refl _ W).drewN m)) x y hx hy).mono fun e w' ⟨h1, h2⟩ => ⟨by rw [h1, hq], h2.symm⟩
    have HC := Lib.hid hcall; have HT := Lib.hid htk; have HQ := Lib.hid hq; have HL := Lib.hid hLk; have HFK := Lib.hid hfk
    have C1 := Lib.hid c1; have C2 := Lib.hid c2
    clear c1 c2 hcall htk hq hLk hfk hW
    go_wp2
    go_quiet ((go_at_call 49; exact Calls.quiet_of_same (HC.out _)))
    have hED : Ext w1 (W.drewN nq) := hEW.drewN nq
    have hOD := own_ext hO ((Turn.refl (fun _ => False) W).drewN nq)
    have d1' := hED.cell_some C1.out id
    have d2' := hED.cell_some C2.out id
    have hsz := hE1.size
    have hsz2 := hED.size
    clear d1 d2 hO hEW
    generalize W.drewN nq = W2 at hED hOD d1' d2' hsz2 ⊢
    cases q with
    | true =>
      have e : (L.take (k + 1)).filter f = (L.take k).filter f := by rw [HT.out]; simp
      rw [← e] at hOD
      have HO := Lib.hid hOD
      clear e hOD
      go_wp2
      exact ⟨⟨k + 1, _, by omega, hED, by first | rfl | trivial, ⟨rfl, rfl, rfl, rfl, rfl⟩, HO.out⟩, by simp [intOf]; omega⟩
    | false =>
      obtain ⟨ao, cp', rfl⟩ := own_slice hOD
      go_wp2_with (at_builtin; refine append_row rfl (.tmp 27) (.tmp 32) 22 rfl w1.heap.size 33 _ 2 16 Tryd.underlying22 Tryd.infoPair rfl (by decide) _ _ _ rfl (own_ext hOD ((Turn.refl _ _).alloc _)) ⟨_, 0, none⟩ 1 1 [.int .i64 x, .int .i64 y] rfl rfl new_cells ?c2 ?c3 ?c4 ?c5 ?_)
      case c2 => first | (intro u hu; simp at hu; rcases hu with rfl | rfl <;> rfl) | exact ⟨rfl, rfl⟩ | trace_state
      case c3 => unfold maxLen; omega
      case c4 => omega
      case c5 => simp; omega
      intro ao2 c2' w4 hO2 hT2 _
      have hE4 : Ext w1 w4 := (hED.alloc _).after hT2 (fun b' h1 e => by have := (hOD.lt _ e).1; omega)
      have hO3 : w4.ownsRow w1.heap.size 33 2 (.slice ao2 (((L.take k).filter f).length + 1) c2') ((L.take (k + 1)).filter f).length (prs ((L.take (k + 1)).filter f)) := by
        rw [HT.out, prs_append, List.length_append]; exact hO2
      have HO := Lib.hid hO3
      clear hT2 hOD hED hO2 hO3 d1' d2'
      go_wp2
      exact ⟨⟨k + 1, _, by omega, hE4, by first | rfl | trivial, ⟨rfl, rfl, rfl, rfl, rfl⟩, HO.out⟩, by simp [intOf]; omega⟩
  · obtain rfl : k = L.length := by omega
    rw [List.take_length, ← HRED.out] at hO
    have HO := Lib.hid hO
    clear hO
    go_wp2
    go_goals
    go_ret
    exact ⟨_, rfl, hE1.trans hEW, own_base HO.out hE1.size⟩
end Go.Proofs.YtnnnbmkhgcpjoaaDoor
