/- ablautref13.Order: Allows. -/
import Derived.Test.YtnnnbmkhgcpjoaaDoorRefRed
import Derived.Test.YtnnnbmkhgcpjoaaDoorAllowLaw
namespace Go.Proofs.YtnnnbmkhgcpjoaaDoor
open Go.RowKit Go.Ab

set_option maxRecDepth 100000 in
set_option maxHeartbeats 8000000 in
theorem refAllows_ok {w : World} {base b n : Nat} {R : Bin} (hn : n ≤ 64) (hR : Rel n R) (h : RefO w base b n R) (v : Value) (L : List Int) (hv : Rd w v L.length 1 (ints L)) :
    Calls Tryd.prog 22 #[.pointer (some ⟨b, 0, none⟩), v] w fun e w' => e = .returned (.tuple #[.bool (allowsR n R L).1, .int .i64 (allowsR n R L).2]) ∧ Ext w w' := by
  obtain ⟨hl1, hm1, ap, cp, rfl, hc⟩ := hv
  unfold maxLen at hm1
  have HC := Lib.hid hc
  have cn := h.num
  clear hc
  go_enter Tryd.func22, Tryd.ntmps22
  by_cases hlen : L.length = n
  · have HL := Lib.hid hlen
    have q1 : ((L.length : Int) != (n : Int)) = false := by rw [hlen]; simp
    clear hlen
    go_wp2_with (go_at_call 40; refine (refValid_ok h).mono ?_; rintro e w' ⟨rfl, rfl⟩)
    clear q1
    refine wp_loop (fun a W => ∃ (i : Nat), i ≤ n ∧ a.defers = [] ∧ (a.tmps.size = 78 ∧ a.tmps.getD 0 undef = .pointer (some ⟨b, 0, none⟩) ∧ a.tmps.getD 1 undef = .slice ap L.length cp ∧ a.tmps.getD 6 undef = .int .i64 i) ∧ okP n L i ∧ Ext w W)
      (fun a _ => n - (intOf (a.tmps.getD 6 undef)).toNat) ?_ ?_
    · exact ⟨0, by omega, rfl, ⟨rfl, rfl, rfl, rfl⟩, okP_zero n L, Turn.refl _ _⟩
    rintro ⟨t, _⟩ W ⟨i, hi, hds, ⟨hsz, f0, f1, f6⟩, hok, hE⟩
    subst hds
    obtain ⟨u', hu⟩ := frame_fun hsz
    obtain ⟨u, rfl⟩ : ∃ x, x = u' := ⟨_, rfl⟩
    have hu' : t = #[u 0, u 1, u 2, u 3, u 4, u 5, u 6, u 7, u 8, u 9, u 10, u 11, u 12, u 13, u 14, u 15, u 16, u 17, u 18, u 19, u 20, u 21, u 22, u 23, u 24, u 25, u 26, u 27, u 28, u 29, u 30, u 31, u 32, u 33, u 34, u 35, u 36, u 37, u 38, u 39, u 40, u 41, u 42, u 43, u 44, u 45, u 46, u 47, u 48, u 49, u 50, u 51, u 52, u 53, u 54, u 55, u 56, u 57, u 58, u 59, u 60, u 61, u 62, u 63, u 64, u 65, u 66, u 67, u 68, u 69, u 70, u 71, u 72, u 73, u 74, u 75, u 76, u 77] := hu
    clear hu
    subst hu'
    change u 0 = _ at f0
    change u 1 = _ at f1
    change u 6 = _ at f6
    rw [f0, f1, f6]
    clear f0 f1 f6 hsz
    have hW := h.ext hE
    have cn := hW.num
    by_cases hin : i < n
    · have hi3 : (i : Int) < (n : Int) := by omega
      have hiL : i < L.length := by rw [HL.out]; omega
      obtain ⟨g, off, rfl, hg, hcc⟩ := HC.out (by omega)
      have c1 := hE.cell_some (hcc i (by omega)) id
      rw [ints_getD _ _ hiL] at c1
      obtain ⟨x, hx⟩ : ∃ x, L.getD i 0 = x := ⟨_, rfl⟩
      have hxe : L[i]? = some x := by
        rw [← hx, List.getD_eq_getElem?_getD, List.getElem?_eq_getElem hiL]; rfl
      rw [hx] at c1
      have HX := Lib.hid hxe; have HOK := Lib.hid hok
      clear hx hxe hok hcc
      by_cases hev : isEv (n : Int) x = true
      · have hev' := isEv_iff.1 hev
        obtain ⟨x, rfl⟩ := Int.eq_ofNat_of_zero_le hev'.1
        have hxn : x < n := by omega
        clear hev'
        go_wp2_with (go_at_call 41; refine (refEvent_ok hW _).mono ?_; rintro e w' ⟨rfl, rfl⟩)
        have HEV := Lib.hid hev
        clear hev cn hW
        refine wp_loop (fun a W => ∃ (k : Nat), k ≤ i ∧ a.defers = [] ∧ (a.tmps.size = 78 ∧ a.tmps.getD 0 undef = .pointer (some ⟨b, 0, none⟩) ∧ a.tmps.getD 1 undef = .slice (some ⟨g, off, none⟩) L.length cp ∧ a.tmps.getD 6 undef = .int .i64 i ∧ a.tmps.getD 7 undef = .int .i64 k) ∧ (∀ j, j < k → L[j]? ≠ some (x : Int)) ∧ Ext w W)
          (fun a _ => i - (intOf (a.tmps.getD 7 undef)).toNat) ?_ ?_
        · exact ⟨0, by omega, rfl, ⟨rfl, rfl, rfl, rfl, rfl⟩, fun j h => by omega, hE⟩
        clear hE c1
        rintro ⟨t, _⟩ W ⟨k, hk, hds, ⟨hsz, f0, f1, f6, f7⟩, hne, hE⟩
        subst hds
        obtain ⟨u', hu⟩ := frame_fun hsz
        obtain ⟨u, rfl⟩ : ∃ x, x = u' := ⟨_, rfl⟩
        have hu' : t = #[u 0, u 1, u 2, u 3, u 4, u 5, u 6, u 7, u 8, u 9, u 10, u 11, u 12, u 13, u 14, u 15, u 16, u 17, u 18, u 19, u 20, u 21, u 22, u 23, u 24, u 25, u 26, u 27, u 28, u 29, u 30, u 31, u 32, u 33, u 34, u 35, u 36, u 37, u 38, u 39, u 40, u 41, u 42, u 43, u 44, u 45, u 46, u 47, u 48, u 49, u 50, u 51, u 52, u 53, u 54, u 55, u 56, u 57, u 58, u 59, u 60, u 61, u 62, u 63, u 64, u 65, u 66, u 67, u 68, u 69, u 70, u 71, u 72, u 73, u 74, u 75, u 76, u 77] := hu
        clear hu
        subst hu'
        change u 0 = _ at f0
        change u 1 = _ at f1
        change u 6 = _ at f6
        change u 7 = _ at f7
        rw [f0, f1, f6, f7]
        clear f0 f1 f6 f7 hsz
        have HNE := Lib.hid hne
        clear hne
        by_cases hki : k < i
        · have hk3 : (k : Int) < (i : Int) := by omega
          obtain ⟨g', off', he, hg', hcc⟩ := HC.out (by omega)
          obtain ⟨rfl, rfl⟩ : g = g' ∧ off = off' := by simpa using he
          have c1 := hE.cell_some (hcc i (by omega)) id
          have c2 := hE.cell_some (hcc k (by omega)) id
          rw [ints_getD _ _ hiL] at c1
          rw [ints_getD _ _ (by omega)] at c2
          have hgx : L.getD i 0 = (x : Int) := by rw [List.getD_eq_getElem?_getD, HX.out]; rfl
          rw [hgx] at c1
          obtain ⟨y, hy⟩ : ∃ y, L.getD k 0 = y := ⟨_, rfl⟩
          have hye : L[k]? = some y := by
            rw [← hy, List.getD_eq_getElem?_getD, List.getElem?_eq_getElem (by omega)]; rfl
          rw [hy] at c2
          have HY := Lib.hid hye
          have p1 : (0 : Int) ≤ (k : Int) := by omega
          have p2 : (k : Int) < (L.length : Int) := by omega
          have p3 : (i : Int) < (L.length : Int) := by omega
          have HE := Lib.hid hE
          clear hcc hgx hy hye he hE
          by_cases hyx : y = (x : Int)
          · have q1 : (y == (x : Int)) = true := by simpa using hyx
            have HYX := Lib.hid hyx
            have hbad : ¬ okP n L (i + 1) := fun hh => by
              obtain ⟨a, _, e1, e2⟩ := hh i (by omega)
              rw [HX.out] at e1
              have := Option.some.inj e1
              exact e2 k hki (by rw [HY.out, HYX.out, this])
            have HA := Lib.hid (allowsR_bad (R := R) HOK.out hiL hbad)
            clear hyx hbad
            go_wp2
            go_quiet (fail)
            go_wp2
            go_ret2
            exact ⟨by rw [HA.out]; rfl, HE.out.drewN nq⟩
          · have q1 : (y == (x : Int)) = false := by simpa using hyx
            have HYX := Lib.hid hyx
            clear hyx
            go_wp2
            go_quiet (fail)
            go_wp2
            exact ⟨⟨k + 1, by omega, by first | rfl | trivial, ⟨rfl, rfl, rfl, rfl, rfl⟩, fun j hj => by
              by_cases e : j = k
              · subst e; rw [HY.out]; exact fun e2 => HYX.out (Option.some.inj e2)
              · exact HNE.out j (by omega), HE.out.drewN nq⟩, by simp [intOf]; omega⟩
        · obtain rfl : k = i := by omega
          have hk3 : ¬ (k : Int) < (k : Int) := by omega
          have HO2 := Lib.hid (okP_succ HOK.out hxn HX.out HNE.out)
          go_wp2
          exact ⟨⟨k + 1, by omega, by simp, HO2.out⟩, by simp [intOf]; omega⟩
      · have hev : isEv (n : Int) x = false := by simpa using hev
        have hbad : ¬ okP n L (i + 1) := fun hh => by
          obtain ⟨a, ha, e1, _⟩ := hh i (by omega)
          rw [HX.out] at e1
          have := Option.some.inj e1
          rw [this, isEv_true (by omega) (by omega)] at hev; cases hev
        have HA := Lib.hid (allowsR_bad (R := R) HOK.out hiL hbad)
        clear hbad
        go_wp2_with (go_at_call 41; refine (refEvent_ok hW _).mono ?_; rintro e w' ⟨rfl, rfl⟩)
        go_ret2
        exact ⟨by rw [HA.out]; rfl, hE⟩
    · obtain rfl : i = n := by omega
      have hi3 : ¬ (i : Int) < (i : Int) := by omega
      go_wp2
      clear cn hW
      have HOK := Lib.hid hok
      clear hok
      refine wp_loop (fun a W => ∃ (j : Nat), j ≤ i ∧ a.defers = [] ∧ (a.tmps.size = 78 ∧ a.tmps.getD 0 undef = .pointer (some ⟨b, 0, none⟩) ∧ a.tmps.getD 1 undef = .slice ap L.length cp ∧ a.tmps.getD 8 undef = .int .i64 j) ∧ (∀ j' k a c, j' < j → k < j' → L[j']? = some ((a : Nat) : Int) → L[k]? = some ((c : Nat) : Int) → R a c = false) ∧ Ext w W)
        (fun a _ => i - (intOf (a.tmps.getD 8 undef)).toNat) ?_ ?_
      · exact ⟨0, by omega, rfl, ⟨rfl, rfl, rfl, rfl⟩, fun _ _ _ _ h => by omega, hE⟩
      clear hE hi3
      rintro ⟨t, _⟩ W ⟨j, hj, hds, ⟨hsz, f0, f1, f8⟩, hp, hE⟩
      subst hds
      obtain ⟨u', hu⟩ := frame_fun hsz
      obtain ⟨u, rfl⟩ : ∃ x, x = u' := ⟨_, rfl⟩
      have hu' : t = #[u 0, u 1, u 2, u 3, u 4, u 5, u 6, u 7, u 8, u 9, u 10, u 11, u 12, u 13, u 14, u 15, u 16, u 17, u 18, u 19, u 20, u 21, u 22, u 23, u 24, u 25, u 26, u 27, u 28, u 29, u 30, u 31, u 32, u 33, u 34, u 35, u 36, u 37, u 38, u 39, u 40, u 41, u 42, u 43, u 44, u 45, u 46, u 47, u 48, u 49, u 50, u 51, u 52, u 53, u 54, u 55, u 56, u 57, u 58, u 59, u 60, u 61, u 62, u 63, u 64, u 65, u 66, u 67, u 68, u 69, u 70, u 71, u 72, u 73, u 74, u 75, u 76, u 77] := hu
      clear hu
      subst hu'
      change u 0 = _ at f0
      change u 1 = _ at f1
      change u 8 = _ at f8
      rw [f0, f1, f8]
      clear f0 f1 f8 hsz
      have HP := Lib.hid hp
      clear hp
      have hW := h.ext hE
      have cn := hW.num
      by_cases hji : j < i
      · have hj3 : (j : Int) < (i : Int) := by omega
        have hjL : j < L.length := by rw [HL.out]; omega
        obtain ⟨x, hxn, hx, _⟩ := HOK.out j hji
        have HX := Lib.hid hx
        clear hx
        go_wp2
        clear cn hW
        refine wp_loop (fun a W => ∃ (k : Nat), k ≤ j ∧ a.defers = [] ∧ (a.tmps.size = 78 ∧ a.tmps.getD 0 undef = .pointer (some ⟨b, 0, none⟩) ∧ a.tmps.getD 1 undef = .slice ap L.length cp ∧ a.tmps.getD 8 undef = .int .i64 j ∧ a.tmps.getD 9 undef = .int .i64 k) ∧ (∀ k' c, k' < k → L[k']? = some ((c : Nat) : Int) → R x c = false) ∧ Ext w W)
          (fun a _ => j - (intOf (a.tmps.getD 9 undef)).toNat) ?_ ?_
        · exact ⟨0, by omega, rfl, ⟨rfl, rfl, rfl, rfl, rfl⟩, fun _ _ h => by omega, hE⟩
        clear hE
        rintro ⟨t, _⟩ W ⟨k, hk, hds, ⟨hsz, f0, f1, f8, f9⟩, hne, hE⟩
        subst hds
        obtain ⟨u', hu⟩ := frame_fun hsz
        obtain ⟨u, rfl⟩ : ∃ x, x = u' := ⟨_, rfl⟩
        have hu' : t = #[u 0, u 1, u 2, u 3, u 4, u 5, u 6, u 7, u 8, u 9, u 10, u 11, u 12, u 13, u 14, u 15, u 16, u 17, u 18, u 19, u 20, u 21, u 22, u 23, u 24, u 25, u 26, u 27, u 28, u 29, u 30, u 31, u 32, u 33, u 34, u 35, u 36, u 37, u 38, u 39, u 40, u 41, u 42, u 43, u 44, u 45, u 46, u 47, u 48, u 49, u 50, u 51, u 52, u 53, u 54, u 55, u 56, u 57, u 58, u 59, u 60, u 61, u 62, u 63, u 64, u 65, u 66, u 67, u 68, u 69, u 70, u 71, u 72, u 73, u 74, u 75, u 76, u 77] := hu
        clear hu
        subst hu'
        change u 0 = _ at f0
        change u 1 = _ at f1
        change u 8 = _ at f8
        change u 9 = _ at f9
        rw [f0, f1, f8, f9]
        clear f0 f1 f8 f9 hsz
        have HNE := Lib.hid hne
        clear hne
        by_cases hkj : k < j
        · have hk3 : (k : Int) < (j : Int) := by omega
          obtain ⟨g, off, rfl, hg, hcc⟩ := HC.out (by omega)
          have c1 := hE.cell_some (hcc j (by omega)) id
          have c2 := hE.cell_some (hcc k (by omega)) id
          rw [ints_getD _ _ hjL] at c1
          rw [ints_getD _ _ (by omega)] at c2
          have hgx : L.getD j 0 = (x : Int) := by rw [List.getD_eq_getElem?_getD, HX.out]; rfl
          obtain ⟨y, hyn, hye, _⟩ := HOK.out k (by omega)
          have hgy : L.getD k 0 = (y : Int) := by rw [List.getD_eq_getElem?_getD, hye]; rfl
          rw [hgx] at c1
          rw [hgy] at c2
          have HY := Lib.hid hye
          have p1 : (0 : Int) ≤ (k : Int) := by omega
          have p2 : (k : Int) < (L.length : Int) := by omega
          have p3 : (j : Int) < (L.length : Int) := by omega
          have p4 : (x : Int) < (i : Int) := by omega
          have p5 : (y : Int) < (i : Int) := by omega
          have p6 : (0 : Int) ≤ (x : Int) := by omega
          have p7 : (0 : Int) ≤ (y : Int) := by omega
          have p8 : (0 : Int) ≤ (j : Int) := by omega
          obtain ⟨go, co, cB, htab⟩ := RefK.table (h.ext hE) (by omega)
          obtain ⟨gx, cx, r1, rc⟩ := htab x hxn
          have d1 := rc y hyn
          have HE := Lib.hid hE
          clear hcc hgx hgy hye hE htab rc
          by_cases hr : R x y = true
          · rw [hr] at d1
            have HA := Lib.hid (allowsR_no hR HL.out HOK.out hkj hji HX.out HY.out hr)
            clear hr
            go_wp2
            go_quiet (fail)
            go_wp2
            go_ret2
            exact ⟨by rw [HA.out]; rfl, HE.out.drewN nq⟩
          · have hr : R x y = false := by simpa using hr
            rw [hr] at d1
            have HRR := Lib.hid hr
            clear hr
            go_wp2
            go_quiet (fail)
            go_wp2
            exact ⟨⟨k + 1, by omega, by first | rfl | trivial, ⟨rfl, rfl, rfl, rfl, rfl⟩, fun k' c hk' hc' => by
              by_cases e : k' = k
              · subst e
                rw [HY.out] at hc'
                have : y = c := by have := Option.some.inj hc'; omega
                subst this; exact HRR.out
              · exact HNE.out k' c (by omega) hc', HE.out.drewN nq⟩, by simp [intOf]; omega⟩
        · obtain rfl : k = j := by omega
          have hk3 : ¬ (k : Int) < (k : Int) := by omega
          have HP2 : Hid (∀ j' k' a c, j' < k + 1 → k' < j' → L[j']? = some ((a : Nat) : Int) → L[k']? = some ((c : Nat) : Int) → R a c = false) := Lib.hid fun j' k' a c h1 h2 h3 h4 => by
            by_cases e : j' = k
            · subst e
              rw [HX.out] at h3
              have : x = a := by have := Option.some.inj h3; omega
              subst this
              exact HNE.out k' c h2 h4
            · exact HP.out j' k' a c (by omega) h2 h3 h4
          go_wp2
          exact ⟨⟨k + 1, by omega, by simp, HP2.out⟩, by simp [intOf]; omega⟩
      · obtain rfl : j = i := by omega
        have hj3 : ¬ (j : Int) < (j : Int) := by omega
        have HA := Lib.hid (allowsR_yes hR HL.out HOK.out fun i k a c h1 h2 h3 h4 => HP.out i k a c h1 h2 h3 h4)
        go_wp2
        go_ret2
        exact ⟨by rw [HA.out]; rfl, hE⟩
  · have q1 : ((L.length : Int) != (n : Int)) = true := by rw [bne_iff_ne]; exact fun e => hlen (by exact_mod_cast e)
    have HA := Lib.hid (allowsR_len (R := R) hlen)
    clear hlen
    go_wp2_with (go_at_call 40; refine (refValid_ok h).mono ?_; rintro e w' ⟨rfl, rfl⟩)
    go_ret2
    exact ⟨by rw [HA.out]; rfl, Turn.refl _ _⟩
end Go.Proofs.YtnnnbmkhgcpjoaaDoor
