/- ablautref13.Order: valid, event, Len, Is, Free. -/
import Derived.Test.YtnnnbmkhgcpjoaaDoorRef
namespace Go.Proofs.YtnnnbmkhgcpjoaaDoor
open Go.RowKit Go.Ab

/-- Block b is the reference's chronology of n events that holds R. -/
abbrev RefO (w : World) (base b n : Nat) (R : Bin) : Prop := RefK w base b n R n
theorem RefK.made {w : World} {base b n : Nat} {R : Bin} {k : Nat} (h : RefK w base b n R k) : w.cell? ⟨b, 0, none⟩ = some (.bool true) := by
  obtain ⟨vB, V, _, hb, _⟩ := h; simp [World.cell?, hb]
theorem RefK.num {w : World} {base b n : Nat} {R : Bin} {k : Nat} (h : RefK w base b n R k) : w.cell? ⟨b, 1, none⟩ = some (.int .i64 n) := by
  obtain ⟨vB, V, _, hb, _⟩ := h; simp [World.cell?, hb]
theorem RefK.lt {w : World} {base b n : Nat} {R : Bin} {k : Nat} (h : RefK w base b n R k) : b < w.heap.size := by
  obtain ⟨vB, V, _, hb, _⟩ := h; exact (Array.getElem?_eq_some_iff.1 hb).1
theorem own_ptr {w : World} {base : Nat} {e : TypeId} {sz : Nat} {v : Value} {n : Nat} {xs : List Value} (h : w.ownsRow base e sz v n xs) (hn : 0 < n) : ∃ g cap, v = .slice (some ⟨g, 0, none⟩) n cap := by
  rcases h.2 with ⟨_, q⟩ | ⟨g, cap, cur, q, _⟩
  · omega
  · exact ⟨g, cap, q⟩
/-- The table, where there is an event. -/
theorem RefK.table {w : World} {base b n : Nat} {R : Bin} (h : RefO w base b n R) (hn : 0 < n) : ∃ go co, w.cell? ⟨b, 2, none⟩ = some (.slice (some ⟨go, 0, none⟩) n co) ∧
    ∀ i, i < n → ∃ gi ci, w.cell? ⟨go, i, none⟩ = some (.slice (some ⟨gi, 0, none⟩) n ci) ∧ ∀ j, j < n → w.cell? ⟨gi, j, none⟩ = some (.bool (R i j)) := by
  obtain ⟨vB, V, _, hb, hO, hV⟩ := h
  obtain ⟨go, co, rfl⟩ := own_ptr hO hn
  refine ⟨go, co, by simp [World.cell?, hb], fun i hi => ?_⟩
  have hr := hV.row i hi
  obtain ⟨gi, ci, hvi⟩ := own_ptr hr hn
  have c1 := hO.cellAt i (by omega)
  rw [List.getElem?_map, List.getElem?_range hi] at c1
  simp only [Option.map_some, hvi] at c1
  refine ⟨gi, ci, c1, fun j hj => ?_⟩
  rw [hvi] at hr
  have c2 := hr.cellAt j (by omega)
  rw [c2]
  simp [boolRow, hj]

theorem refValid_ok {w : World} {base b n : Nat} {R : Bin} {k : Nat} (h : RefK w base b n R k) :
    Calls Tryd.prog 40 #[.pointer (some ⟨b, 0, none⟩)] w fun e w' => e = .returned (.bool true) ∧ w = w' := by
  have hm := h.made
  go_enter Tryd.func40, Tryd.ntmps40
  go_wp2
  go_ret
  exact ⟨rfl, rfl⟩
theorem refValid_nil (w : World) :
    Calls Tryd.prog 40 #[.pointer none] w fun e w' => e = .returned (.bool false) ∧ w = w' := by
  go_enter Tryd.func40, Tryd.ntmps40
  go_wp2
  go_ret
  exact ⟨rfl, rfl⟩
theorem refEvent_ok {w : World} {base b n : Nat} {R : Bin} {k : Nat} (h : RefK w base b n R k) (x : Int) :
    Calls Tryd.prog 41 #[.pointer (some ⟨b, 0, none⟩), .int .i64 x] w fun e w' => e = .returned (.bool (isEv n x)) ∧ w = w' := by
  have hm := h.num
  by_cases h0 : 0 ≤ x
  · go_enter Tryd.func41, Tryd.ntmps41
    go_wp2
    go_ret
    exact ⟨ret_bool (by simp [isEv, h0]), rfl⟩
  · have h' : x < 0 := by omega
    go_enter Tryd.func41, Tryd.ntmps41
    go_wp2
    go_ret
    exact ⟨ret_bool (isEv_not (by omega)).symm, rfl⟩
theorem refLen_ok {w : World} {base b n : Nat} {R : Bin} {k : Nat} (h : RefK w base b n R k) :
    Calls Tryd.prog 42 #[.pointer (some ⟨b, 0, none⟩)] w fun e w' => e = .returned (.int .i64 n) ∧ w = w' := by
  have hm := h.num
  go_enter Tryd.func42, Tryd.ntmps42
  go_wp2_with (go_at_call 40; refine (refValid_ok h).mono ?_; rintro e w' ⟨rfl, rfl⟩)
  go_ret
  exact ⟨rfl, rfl⟩

theorem refIs_ok {w : World} {base b n : Nat} {R : Bin} (h : RefO w base b n R) (x y : Int) :
    Calls Tryd.prog 35 #[.pointer (some ⟨b, 0, none⟩), .int .i64 x, .int .i64 y] w fun e w' => e = .returned (.bool (isR n R x y)) ∧ w = w' := by
  by_cases hx : 0 ≤ x ∧ x < n
  · by_cases hy : 0 ≤ y ∧ y < n
    · have e1 := isEv_true hx.1 hx.2
      have e2 := isEv_true hy.1 hy.2
      obtain ⟨x, rfl⟩ := Int.eq_ofNat_of_zero_le hx.1
      obtain ⟨y, rfl⟩ := Int.eq_ofNat_of_zero_le hy.1
      obtain ⟨go, co, c2, hrow⟩ := h.table (by omega)
      obtain ⟨gi, ci, c3, hcell⟩ := hrow x (by omega)
      have c4 := hcell y (by omega)
      have hr : isR n R x y = R x y := by simp [isR, e1, e2]
      have hx1 : (x : Int) < (n : Int) := hx.2
      have hy1 : (y : Int) < (n : Int) := hy.2
      clear hrow hcell hx hy
      go_enter Tryd.func35, Tryd.ntmps35
      go_wp2_with (first | (go_at_call 40; refine (refValid_ok h).mono ?_; rintro e w' ⟨rfl, rfl⟩) | (go_at_call 41; refine (refEvent_ok h _).mono ?_; rintro e w' ⟨rfl, rfl⟩))
      go_ret
      exact ⟨ret_bool hr.symm, rfl⟩
    · have e1 := isEv_true hx.1 hx.2
      have e2 := isEv_not hy
      have hr : isR n R x y = false := by simp [isR, e1, e2]
      go_enter Tryd.func35, Tryd.ntmps35
      go_wp2_with (first | (go_at_call 40; refine (refValid_ok h).mono ?_; rintro e w' ⟨rfl, rfl⟩) | (go_at_call 41; refine (refEvent_ok h _).mono ?_; rintro e w' ⟨rfl, rfl⟩))
      go_ret
      exact ⟨ret_bool hr.symm, rfl⟩
  · have e1 := isEv_not hx
    have hr : isR n R x y = false := by simp [isR, e1]
    go_enter Tryd.func35, Tryd.ntmps35
    go_wp2_with (first | (go_at_call 40; refine (refValid_ok h).mono ?_; rintro e w' ⟨rfl, rfl⟩) | (go_at_call 41; refine (refEvent_ok h _).mono ?_; rintro e w' ⟨rfl, rfl⟩))
    go_ret
    exact ⟨ret_bool hr.symm, rfl⟩

theorem refFree_ok {w : World} {base b n : Nat} {R : Bin} (h : RefO w base b n R) (x y : Int) :
    Calls Tryd.prog 36 #[.pointer (some ⟨b, 0, none⟩), .int .i64 x, .int .i64 y] w fun e w' => e = .returned (.bool (freeR n R x y)) ∧ w = w' := by
  by_cases hx : 0 ≤ x ∧ x < n
  · by_cases hy : 0 ≤ y ∧ y < n
    · have e1 := isEv_true hx.1 hx.2
      have e2 := isEv_true hy.1 hy.2
      obtain ⟨x, rfl⟩ := Int.eq_ofNat_of_zero_le hx.1
      obtain ⟨y, rfl⟩ := Int.eq_ofNat_of_zero_le hy.1
      obtain ⟨go, co, c2, hrow⟩ := h.table (by omega)
      obtain ⟨gi, ci, c3, hcell⟩ := hrow x (by omega)
      have c4 := hcell y (by omega)
      obtain ⟨gj, cj, c5, hcell'⟩ := hrow y (by omega)
      have c6 := hcell' x (by omega)
      have hr : freeR n R x y = (!decide (x = y) && !R x y && !R y x) := by
        simp [freeR, isR, e1, e2]
        by_cases hxy : x = y
        · simp [hxy]
        · have : ((x : Int) == (y : Int)) = false := by rw [beq_eq_false_iff_ne]; omega
          simp [hxy, this]
      have hx1 : (x : Int) < (n : Int) := hx.2
      have hy1 : (y : Int) < (n : Int) := hy.2
      clear hrow hcell hcell' hx hy
      by_cases hxy : x = y
      · have q : ((x : Int) != (y : Int)) = false := by simp [hxy]
        have hr' : freeR n R x y = false := by rw [hr]; simp [hxy]
        have HXY := Lib.hid hxy
        clear hxy hr
        go_enter Tryd.func36, Tryd.ntmps36
        go_wp2_with (first | (go_at_call 40; refine (refValid_ok h).mono ?_; rintro e w' ⟨rfl, rfl⟩) | (go_at_call 41; refine (refEvent_ok h _).mono ?_; rintro e w' ⟨rfl, rfl⟩))
        go_ret
        exact ⟨ret_bool hr'.symm, rfl⟩
      · have q : ((x : Int) != (y : Int)) = true := by rw [bne_iff_ne]; omega
        obtain ⟨r1, hr1⟩ : ∃ r, R x y = r := ⟨_, rfl⟩
        obtain ⟨r2, hr2⟩ : ∃ r, R y x = r := ⟨_, rfl⟩
        have hr' : freeR n R x y = (!r1 && !r2) := by rw [hr, hr1, hr2]; simp [hxy]
        rw [hr1] at c4
        rw [hr2] at c6
        have HXY := Lib.hid hxy; have H1 := Lib.hid hr1; have H2 := Lib.hid hr2; have HR := Lib.hid hr'
        clear hxy hr hr1 hr2 hr'
        cases r1 <;> cases r2
        all_goals
          go_enter Tryd.func36, Tryd.ntmps36
          go_wp2_with (first | (go_at_call 40; refine (refValid_ok h).mono ?_; rintro e w' ⟨rfl, rfl⟩) | (go_at_call 41; refine (refEvent_ok h _).mono ?_; rintro e w' ⟨rfl, rfl⟩))
          go_ret
          exact ⟨ret_bool HR.out.symm, rfl⟩
    · have e1 := isEv_true hx.1 hx.2
      have e2 := isEv_not hy
      have hr : freeR n R x y = false := by simp [freeR, e2]
      go_enter Tryd.func36, Tryd.ntmps36
      go_wp2_with (first | (go_at_call 40; refine (refValid_ok h).mono ?_; rintro e w' ⟨rfl, rfl⟩) | (go_at_call 41; refine (refEvent_ok h _).mono ?_; rintro e w' ⟨rfl, rfl⟩))
      go_ret
      exact ⟨ret_bool hr.symm, rfl⟩
  · have e1 := isEv_not hx
    have hr : freeR n R x y = false := by simp [freeR, e1]
    go_enter Tryd.func36, Tryd.ntmps36
    go_wp2_with (first | (go_at_call 40; refine (refValid_ok h).mono ?_; rintro e w' ⟨rfl, rfl⟩) | (go_at_call 41; refine (refEvent_ok h _).mono ?_; rintro e w' ⟨rfl, rfl⟩))
    go_ret
    exact ⟨ret_bool hr.symm, rfl⟩
end Go.Proofs.YtnnnbmkhgcpjoaaDoor
