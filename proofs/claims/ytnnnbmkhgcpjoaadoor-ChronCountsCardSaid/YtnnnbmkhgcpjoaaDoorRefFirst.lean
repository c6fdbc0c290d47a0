/- ablautref13.Order: ready, First. -/
import Derived.Test.YtnnnbmkhgcpjoaaDoorRefIs
import Derived.Test.YtnnnbmkhgcpjoaaDoorLevLaw
namespace Go.Proofs.YtnnnbmkhgcpjoaaDoor
open Go.RowKit Go.Ab

/-- A slice's length, behind a name. -/
def lenOf (v : Value) : Nat := match v with | .slice _ k _ => k | _ => 0

theorem rdy_false {n : Nat} {R : Bin} {l : List Nat} {x : Nat} (h : ¬ (x ∉ l ∧ ∀ a, a < n → R a x = true → a ∈ l)) : rdy n R l x = false := by
  cases hr : rdy n R l x with
  | false => rfl
  | true => exact absurd (rdy_iff.1 hr) h

set_option maxRecDepth 100000 in
set_option maxHeartbeats 4000000 in
theorem refReady_ok {w : World} {base b n : Nat} {R : Bin} (hn : n ≤ 64) (h : RefO w base b n R) (v : Value) (l : List Nat) (hv : Rd w v l.length 1 (ints (zs l))) (hl : l.length ≤ 64) (x : Nat) (hx : x < n) :
    Calls Tryd.prog 50 #[.pointer (some ⟨b, 0, none⟩), v, .int .i64 x] w fun e w' => e = .returned (.bool (rdy n R l x)) ∧ w = w' := by
  obtain ⟨hl1, hm1, ap, cp, rfl, hRd⟩ := hv
  have hcell : ∀ j (hj : j < l.length), ∃ g off, ap = some ⟨g, off, none⟩ ∧ w.cell? ⟨g, off + j, none⟩ = some (.int .i64 (l[j] : Nat)) := fun j hj => by
    obtain ⟨g, off, e, _, hc⟩ := hRd (by omega)
    refine ⟨g, off, e, ?_⟩
    rw [hc j (by omega)]
    simp [ints, zs, List.getD_eq_getElem?_getD, hj]
  have HC := Lib.hid hcell
  clear hcell hRd hm1 hl1
  have cn := h.num
  obtain ⟨go, co, c2, hrow⟩ := h.table (by omega)
  have HROW := Lib.hid hrow
  clear hrow
  go_enter Tryd.func50, Tryd.ntmps50
  go_wp2
  obtain ⟨w0, rfl⟩ : ∃ w0 : World, w0 = w := ⟨_, rfl⟩
  refine wp_loop (fun a W => ∃ (k : Nat), k ≤ l.length ∧ W = w0 ∧ a.defers = [] ∧ (∀ j (hj : j < l.length), j < k → l[j] ≠ x) ∧ (a.tmps.size = 59 ∧ a.tmps.getD 0 undef = .pointer (some ⟨b, 0, none⟩) ∧ a.tmps.getD 1 undef = .slice ap l.length cp ∧ a.tmps.getD 2 undef = .int .i64 x ∧ a.tmps.getD 7 undef = .int .i64 k))
    (fun a _ => l.length - (intOf (a.tmps.getD 7 undef)).toNat) ?_ ?_
  · exact ⟨0, by omega, rfl, rfl, fun j hj hk => by omega, rfl, rfl, rfl, rfl, rfl⟩
  rintro ⟨t, _⟩ W ⟨k, hk, rfl, hds, hno, ⟨hsz, f0, f1, f2, f7⟩⟩
  subst hds
  obtain ⟨u', hu⟩ := frame_fun hsz
  obtain ⟨u, rfl⟩ : ∃ x, x = u' := ⟨_, rfl⟩
  have hu' : t = #[u 0, u 1, u 2, u 3, u 4, u 5, u 6, u 7, u 8, u 9, u 10, u 11, u 12, u 13, u 14, u 15, u 16, u 17, u 18, u 19, u 20, u 21, u 22, u 23, u 24, u 25, u 26, u 27, u 28, u 29, u 30, u 31, u 32, u 33, u 34, u 35, u 36, u 37, u 38, u 39, u 40, u 41, u 42, u 43, u 44, u 45, u 46, u 47, u 48, u 49, u 50, u 51, u 52, u 53, u 54, u 55, u 56, u 57, u 58] := hu
  clear hu
  subst hu'
  change u 0 = _ at f0
  change u 1 = _ at f1
  change u 2 = _ at f2
  change u 7 = _ at f7
  rw [f0, f1, f2, f7]
  clear f0 f1 f2 f7 hsz
  have HNO := Lib.hid hno
  clear hno
  by_cases hk2 : k < l.length
  · obtain ⟨g, off, rfl, c1⟩ := HC.out k hk2
    have hk3 : (k : Int) < (l.length : Int) := by omega
    obtain ⟨y, hy⟩ : ∃ y, l[k] = y := ⟨_, rfl⟩
    rw [hy] at c1
    have HY := Lib.hid hy
    clear hy
    by_cases hyx : y = x
    · have q : ((y : Int) == (x : Int)) = true := by simp [hyx]
      have HYX := Lib.hid hyx
      clear hyx
      go_wp2
      go_goals
      go_ret
      refine ⟨ret_bool (Eq.symm (rdy_false fun hh => hh.1 ?_)), rfl⟩
      rw [← HYX.out, ← HY.out]; exact List.getElem_mem hk2
    · have q : ((y : Int) == (x : Int)) = false := by rw [beq_eq_false_iff_ne]; omega
      have hnext : ∀ j (hj : j < l.length), j < k + 1 → l[j] ≠ x := fun j hj hjk => by
        by_cases e : j = k
        · subst e; rw [HY.out]; exact hyx
        · exact HNO.out j hj (by omega)
      have HN := Lib.hid hnext
      have HYX := Lib.hid hyx
      clear hyx hnext
      go_wp2
      exact ⟨⟨k + 1, by omega, by first | rfl | trivial, by first | rfl | trivial, HN.out, ⟨rfl, rfl, rfl, rfl, rfl⟩⟩, by simp [intOf]; omega⟩
  · have hxl : x ∉ l := fun hm => by
      obtain ⟨j, hj, e⟩ := List.getElem_of_mem hm
      exact HNO.out j hj (by omega) e
    have HXL := Lib.hid hxl
    clear hxl
    go_wp2
    obtain ⟨w1, rfl⟩ : ∃ w1 : World, w1 = W := ⟨_, rfl⟩
    refine wp_loop (fun a W => ∃ (i : Nat), i ≤ n ∧ W = w1 ∧ a.defers = [] ∧ (∀ c, c < i → R c x = true → c ∈ l) ∧ (a.tmps.size = 59 ∧ a.tmps.getD 0 undef = .pointer (some ⟨b, 0, none⟩) ∧ a.tmps.getD 1 undef = .slice ap l.length cp ∧ a.tmps.getD 2 undef = .int .i64 x ∧ a.tmps.getD 8 undef = .int .i64 i))
      (fun a _ => n - (intOf (a.tmps.getD 8 undef)).toNat) ?_ ?_
    · exact ⟨0, by omega, rfl, rfl, fun c hc => by omega, rfl, rfl, rfl, rfl, rfl⟩
    rintro ⟨t, _⟩ W ⟨i, hi, rfl, hds, hal, ⟨hsz, f0, f1, f2, f8⟩⟩
    subst hds
    obtain ⟨u', hu⟩ := frame_fun hsz
    obtain ⟨u, rfl⟩ : ∃ x, x = u' := ⟨_, rfl⟩
    have hu' : t = #[u 0, u 1, u 2, u 3, u 4, u 5, u 6, u 7, u 8, u 9, u 10, u 11, u 12, u 13, u 14, u 15, u 16, u 17, u 18, u 19, u 20, u 21, u 22, u 23, u 24, u 25, u 26, u 27, u 28, u 29, u 30, u 31, u 32, u 33, u 34, u 35, u 36, u 37, u 38, u 39, u 40, u 41, u 42, u 43, u 44, u 45, u 46, u 47, u 48, u 49, u 50, u 51, u 52, u 53, u 54, u 55, u 56, u 57, u 58] := hu
    clear hu
    subst hu'
    change u 0 = _ at f0
    change u 1 = _ at f1
    change u 2 = _ at f2
    change u 8 = _ at f8
    rw [f0, f1, f2, f8]
    clear f0 f1 f2 f8 hsz
    have HAL := Lib.hid hal
    clear hal
    by_cases hi2 : i < n
    · have hi3 : (i : Int) < (n : Int) := by omega
      have hx3 : (x : Int) < (n : Int) := by omega
      obtain ⟨gi, ci, r1, hc1⟩ := HROW.out i hi2
      have c3 := hc1 x hx
      clear hc1
      obtain ⟨p, hp⟩ : ∃ p, R i x = p := ⟨_, rfl⟩
      rw [hp] at c3
      have HP := Lib.hid hp
      clear hp
      cases p with
      | false =>
        have hnext : ∀ c, c < i + 1 → R c x = true → c ∈ l := fun c hc hr => by
          by_cases e : c = i
          · subst e; rw [HP.out] at hr; cases hr
          · exact HAL.out c (by omega) hr
        have HN := Lib.hid hnext
        clear hnext
        go_wp2
        exact ⟨⟨i + 1, by omega, by first | rfl | trivial, by first | rfl | trivial, HN.out, ⟨rfl, rfl, rfl, rfl, rfl⟩⟩, by simp [intOf]; omega⟩
      | true =>
        go_wp2
        obtain ⟨w2, rfl⟩ : ∃ w2 : World, w2 = W := ⟨_, rfl⟩
        refine wp_loop (fun a W => ∃ (k : Nat) (th : Bool), k ≤ l.length ∧ W = w2 ∧ a.defers = [] ∧ th = (l.take k).contains i ∧ (a.tmps.size = 59 ∧ a.tmps.getD 0 undef = .pointer (some ⟨b, 0, none⟩) ∧ a.tmps.getD 1 undef = .slice ap l.length cp ∧ a.tmps.getD 2 undef = .int .i64 x ∧ a.tmps.getD 8 undef = .int .i64 i ∧ a.tmps.getD 9 undef = .bool th ∧ a.tmps.getD 10 undef = .int .i64 k))
          (fun a _ => l.length - (intOf (a.tmps.getD 10 undef)).toNat) ?_ ?_
        · exact ⟨0, false, by omega, rfl, rfl, by simp, rfl, rfl, rfl, rfl, rfl, rfl, rfl⟩
        rintro ⟨t, _⟩ W ⟨k, th, hk, rfl, hds, hth, ⟨hsz, f0, f1, f2, f8, f9, f10⟩⟩
        subst hds
        obtain ⟨u', hu⟩ := frame_fun hsz
        obtain ⟨u, rfl⟩ : ∃ x, x = u' := ⟨_, rfl⟩
        have hu' : t = #[u 0, u 1, u 2, u 3, u 4, u 5, u 6, u 7, u 8, u 9, u 10, u 11, u 12, u 13, u 14, u 15, u 16, u 17, u 18, u 19, u 20, u 21, u 22, u 23, u 24, u 25, u 26, u 27, u 28, u 29, u 30, u 31, u 32, u 33, u 34, u 35, u 36, u 37, u 38, u 39, u 40, u 41, u 42, u 43, u 44, u 45, u 46, u 47, u 48, u 49, u 50, u 51, u 52, u 53, u 54, u 55, u 56, u 57, u 58] := hu
        clear hu
        subst hu'
        change u 0 = _ at f0
        change u 1 = _ at f1
        change u 2 = _ at f2
        change u 8 = _ at f8
        change u 9 = _ at f9
        change u 10 = _ at f10
        rw [f0, f1, f2, f8, f9, f10]
        clear f0 f1 f2 f8 f9 f10 hsz
        by_cases hk3 : k < l.length
        · obtain ⟨g, off, rfl, c1⟩ := HC.out k hk3
          have hk4 : (k : Int) < (l.length : Int) := by omega
          obtain ⟨y, hy⟩ : ∃ y, l[k] = y := ⟨_, rfl⟩
          rw [hy] at c1
          have hnext : (th || (y == i)) = (l.take (k + 1)).contains i := by
            rw [List.take_succ_eq_append_getElem hk3, hy, hth]
            apply Bool.eq_iff_iff.2
            simp only [List.contains_eq_mem, Bool.or_eq_true, decide_eq_true_eq, beq_iff_eq, List.mem_append, List.mem_singleton]
            constructor
            · rintro (q | q)
              · exact .inl q
              · exact .inr q.symm
            · rintro (q | q)
              · exact .inl q
              · exact .inr q.symm
          obtain ⟨q, hq⟩ : ∃ q, (y == i) = q := ⟨_, rfl⟩
          have q1 : ((y : Int) == (i : Int)) = q := by rw [← hq]; apply Bool.eq_iff_iff.2; simp only [beq_iff_eq]; omega
          rw [hq] at hnext
          have HN := Lib.hid hnext; have HY := Lib.hid hy; have HT := Lib.hid hth; have HQ := Lib.hid hq
          clear hnext hy hth hq
          cases th <;> cases q
          all_goals
            go_wp2
            exact ⟨⟨k + 1, _, by omega, by first | rfl | trivial, by first | rfl | trivial, HN.out, ⟨rfl, rfl, rfl, rfl, rfl, rfl, rfl⟩⟩, by simp [intOf]; omega⟩
        · rw [List.take_of_length_le (by omega)] at hth
          have HT := Lib.hid hth
          clear hth
          cases th with
          | false =>
            go_wp2
            go_goals
            go_ret
            refine ⟨ret_bool (Eq.symm (rdy_false fun hh => ?_)), rfl⟩
            have := hh.2 i hi2 HP.out
            have h2 := HT.out
            simp at h2
            exact h2 this
          | true =>
            have hnext : ∀ c, c < i + 1 → R c x = true → c ∈ l := fun c hc hr => by
              by_cases e : c = i
              · subst e; have h2 := HT.out; simpa using h2.symm
              · exact HAL.out c (by omega) hr
            have HN := Lib.hid hnext
            clear hnext
            go_wp2
            exact ⟨⟨i + 1, by omega, by first | rfl | trivial, by first | rfl | trivial, HN.out, ⟨rfl, rfl, rfl, rfl, rfl⟩⟩, by simp [intOf]; omega⟩
    · have hall : rdy n R l x = true := rdy_iff.2 ⟨HXL.out, fun a ha hr => HAL.out a (by omega) hr⟩
      have HALL := Lib.hid hall
      clear hall
      go_wp2
      go_goals
      go_ret
      exact ⟨ret_bool HALL.out.symm, rfl⟩

set_option maxRecDepth 100000 in
set_option maxHeartbeats 4000000 in
theorem refFirst_ok {w : World} {base b n : Nat} {R : Bin} (hn : n ≤ 64) (hR : Rel n R) (h : RefO w base b n R) :
    Calls Tryd.prog 46 #[.pointer (some ⟨b, 0, none⟩)] w fun e w' => ∃ v, e = .returned v ∧ Ext w w' ∧ w'.ownsRow w.heap.size 3 1 v (firstL n R).length (ints (zs (firstL n R))) ∧ (firstL n R).length = n := by
  go_enter Tryd.func46, Tryd.ntmps46
  go_wp2_with (go_at_call 40; refine (refValid_ok h).mono ?_; rintro e w' ⟨rfl, rfl⟩)
  refine wp_loop (fun a W => ∃ (l : List Nat) (vo : Value), l.length ≤ n ∧ firstGo n R (n - l.length) l = firstL n R ∧ Ext w W ∧ a.defers = [] ∧ (a.tmps.size = 27 ∧ a.tmps.getD 0 undef = .pointer (some ⟨b, 0, none⟩) ∧ a.tmps.getD 3 undef = vo) ∧ W.ownsRow w.heap.size 3 1 vo l.length (ints (zs l)))
    (fun a _ => n - lenOf (a.tmps.getD 3 undef)) ?_ ?_
  · exact ⟨[], _, by simp, rfl, Turn.refl _ _, rfl, ⟨rfl, rfl, rfl⟩, by simpa [ints, zs] using World.ownsRow_nil _ _ _ _⟩
  rintro ⟨t, _⟩ W ⟨l, vo, hl, hgo, hEW, hds, ⟨hsz, f0, f3⟩, hO⟩
  subst hds
  obtain ⟨u', hu⟩ := frame_fun hsz
  obtain ⟨u, rfl⟩ : ∃ x, x = u' := ⟨_, rfl⟩
  have hu' : t = #[u 0, u 1, u 2, u 3, u 4, u 5, u 6, u 7, u 8, u 9, u 10, u 11, u 12, u 13, u 14, u 15, u 16, u 17, u 18, u 19, u 20, u 21, u 22, u 23, u 24, u 25, u 26] := hu
  clear hu
  subst hu'
  change u 0 = _ at f0
  change u 3 = _ at f3
  rw [f0, f3]
  clear f0 f3 hsz
  have hW := h.ext hEW
  have cn := hW.num
  obtain ⟨ao, cp, rfl⟩ := own_slice hO
  by_cases hl2 : l.length < n
  · have hl3 : (l.length : Int) < (n : Int) := by omega
    obtain ⟨y, hy⟩ := nextR_some hR hl2
    obtain ⟨hyn, hry, hrx⟩ := nextR_spec hy
    have HY := Lib.hid hy; have HG := Lib.hid hgo; have HRX := Lib.hid hrx; have HRY := Lib.hid hry
    have hRd := Rd.of_own hO
    clear hy hgo hrx hry
    go_wp2
    obtain ⟨w1, rfl⟩ : ∃ w1 : World, w1 = W := ⟨_, rfl⟩
    refine wp_loop (fun a W => ∃ (k : Nat), k ≤ y ∧ W = w1 ∧ a.defers = [] ∧ (a.tmps.size = 27 ∧ a.tmps.getD 0 undef = .pointer (some ⟨b, 0, none⟩) ∧ a.tmps.getD 3 undef = .slice ao l.length cp ∧ a.tmps.getD 4 undef = .int .i64 k))
      (fun a _ => y - (intOf (a.tmps.getD 4 undef)).toNat) ?_ ?_
    · exact ⟨0, by omega, rfl, rfl, rfl, rfl, rfl, rfl⟩
    rintro ⟨t, _⟩ W ⟨k, hk, rfl, hds, ⟨hsz, f0, f3, f4⟩⟩
    subst hds
    obtain ⟨u', hu⟩ := frame_fun hsz
    obtain ⟨u, rfl⟩ : ∃ x, x = u' := ⟨_, rfl⟩
    have hu' : t = #[u 0, u 1, u 2, u 3, u 4, u 5, u 6, u 7, u 8, u 9, u 10, u 11, u 12, u 13, u 14, u 15, u 16, u 17, u 18, u 19, u 20, u 21, u 22, u 23, u 24, u 25, u 26] := hu
    clear hu
    subst hu'
    change u 0 = _ at f0
    change u 3 = _ at f3
    change u 4 = _ at f4
    rw [f0, f3, f4]
    clear f0 f3 f4 hsz
    clear cn
    go_wp2_with fail
    refine (refReady_ok hn hW _ l hRd (by omega) k (by omega)).mono ?_
    rintro e _ ⟨rfl, rfl⟩
    by_cases hky : k = y
    · rw [hky, HRY.out]
      have HK := Lib.hid hky
      clear hky
      go_wp2_with (at_builtin; refine append_row rfl (.tmp 22) (.tmp 24) 23 rfl w.heap.size 3 _ 1 8 Tryd.underlying23 Tryd.infoInt rfl (by decide) _ _ _ rfl (own_ext hO ((Turn.refl _ _).alloc _)) ⟨_, 0, none⟩ 1 1 [.int .i64 y] rfl rfl new_cells ?c2 ?c3 ?c4 ?c5 ?_)
      case c2 => first | rfl | (intro u hu; simp at hu; subst hu; rfl)
      case c3 => unfold maxLen; omega
      case c4 => omega
      case c5 => have := hEW.size; simp; omega
      intro ao2 c2 w4 hO2 hT2 _
      have hE4 : Ext w w4 := (hEW.alloc _).after hT2 (fun b' h1 e => by have := (hO.lt _ e).1; omega)
      have hO3 : w4.ownsRow w.heap.size 3 1 (.slice ao2 (l.length + 1) c2) (l ++ [y]).length (ints (zs (l ++ [y]))) := by
        simpa [zs, ints] using hO2
      have hg2 : firstGo n R (n - (l ++ [y]).length) (l ++ [y]) = firstL n R := by
        rw [← HG.out, show n - l.length = (n - (l ++ [y]).length) + 1 by simp; omega]
        simp only [firstGo, HY.out]
      have HO := Lib.hid hO3; have HG2 := Lib.hid hg2
      clear hT2 hO hEW hO2 hO3 hg2 hW hRd
      go_wp2
      refine ⟨⟨l ++ [y], _, by simp; omega, HG2.out, hE4, by first | rfl | trivial, ⟨rfl, rfl, rfl⟩, HO.out⟩, ?_⟩
      show n - lenOf (.slice ao2 (l.length + 1) c2) < n - lenOf (.slice ao l.length cp)
      simp only [lenOf]
      omega
    · rw [HRX.out k (by omega)]
      have HK := Lib.hid hky
      have hky2 : k < y := by omega
      clear hky
      go_wp2
      first
        | exact ⟨⟨k + 1, by omega, by first | rfl | trivial, by first | rfl | trivial, ⟨rfl, rfl, rfl, rfl⟩⟩, by simp [intOf]; omega⟩
        | exact ⟨⟨k + 1, by omega, by simp⟩, by simp [intOf]; omega⟩
  · have e0 : n - l.length = 0 := by omega
    rw [e0] at hgo
    simp only [firstGo] at hgo
    have hll : l.length = n := by omega
    have HG := Lib.hid hgo; have HL := Lib.hid hll; have HO := Lib.hid hO
    clear hgo hll hO e0
    go_wp2
    go_goals
    go_ret
    refine ⟨_, rfl, hEW, ?_, ?_⟩
    · rw [← HG.out]; exact HO.out
    · rw [← HG.out]; exact HL.out
end Go.Proofs.YtnnnbmkhgcpjoaaDoor
