/- ablautref13.Order: between, Pairs, Reduced. -/
import Derived.Test.YtnnnbmkhgcpjoaaDoorRefIs
import Derived.Test.YtnnnbmkhgcpjoaaDoorReduced
namespace Go.Proofs.YtnnnbmkhgcpjoaaDoor
open Go.RowKit Go.Ab

/-- Is something between the two? -/
def betB (n : Nat) (R : Bin) (a b : Nat) : Bool := (List.range n).any fun c => R a c && R c b

set_option maxRecDepth 100000 in
theorem refBetween_ok {w : World} {base b n : Nat} {R : Bin} (hn : n ≤ 64) (h : RefO w base b n R) (x y : Nat) (hx : x < n) (hy : y < n) :
    Calls Tryd.prog 49 #[.pointer (some ⟨b, 0, none⟩), .int .i64 x, .int .i64 y] w fun e w' => e = .returned (.bool (betB n R x y)) ∧ w = w' := by
  obtain ⟨go, co, c2, hrow⟩ := h.table (by omega)
  have cn := h.num
  have HROW := Lib.hid hrow
  clear hrow
  go_enter Tryd.func49, Tryd.ntmps49
  go_wp2
  obtain ⟨w0, rfl⟩ : ∃ w0 : World, w0 = w := ⟨_, rfl⟩
  refine wp_loop (fun a W => ∃ (k : Nat), k ≤ n ∧ W = w0 ∧ a.defers = [] ∧ (∀ c, c < k → (R x c && R c y) = false) ∧ (a.tmps.size = 38 ∧ a.tmps.getD 0 undef = .pointer (some ⟨b, 0, none⟩) ∧ a.tmps.getD 1 undef = .int .i64 x ∧ a.tmps.getD 2 undef = .int .i64 y ∧ a.tmps.getD 7 undef = .int .i64 k))
    (fun a _ => n - (intOf (a.tmps.getD 7 undef)).toNat) ?_ ?_
  · exact ⟨0, by omega, rfl, rfl, fun c hc => by omega, rfl, rfl, rfl, rfl, rfl⟩
  rintro ⟨t, _⟩ W ⟨k, hk, rfl, hds, hno, ⟨hsz, f0, f1, f2, f7⟩⟩
  subst hds
  obtain ⟨u', hu⟩ := frame_fun hsz
  obtain ⟨u, rfl⟩ : ∃ x, x = u' := ⟨_, rfl⟩
  have hu' : t = #[u 0, u 1, u 2, u 3, u 4, u 5, u 6, u 7, u 8, u 9, u 10, u 11, u 12, u 13, u 14, u 15, u 16, u 17, u 18, u 19, u 20, u 21, u 22, u 23, u 24, u 25, u 26, u 27, u 28, u 29, u 30, u 31, u 32, u 33, u 34, u 35, u 36, u 37] := hu
  clear hu
  subst hu'
  change u 0 = _ at f0
  change u 1 = _ at f1
  change u 2 = _ at f2
  change u 7 = _ at f7
  rw [f0, f1, f2, f7]
  clear f0 f1 f2 f7 hsz
  have HNO := Lib.hid hno
  clear hno
  by_cases hk2 : k < n
  · have hk3 : (k : Int) < (n : Int) := by omega
    have hx3 : (x : Int) < (n : Int) := by omega
    have hy3 : (y : Int) < (n : Int) := by omega
    obtain ⟨gx, cx, r1, hc1⟩ := HROW.out x hx
    obtain ⟨gk, ck, r2, hc2⟩ := HROW.out k hk2
    have c3 := hc1 k hk2
    have c4 := hc2 y hy
    clear hc1 hc2
    obtain ⟨p, hp⟩ : ∃ p, R x k = p := ⟨_, rfl⟩
    obtain ⟨q, hq⟩ : ∃ q, R k y = q := ⟨_, rfl⟩
    rw [hp] at c3
    rw [hq] at c4
    have HP := Lib.hid hp; have HQ := Lib.hid hq
    clear hp hq
    have hnext : (p && q) = false → ∀ c, c < k + 1 → (R x c && R c y) = false := fun hpq c hc => by
      by_cases e : c = k
      · rw [e, HP.out, HQ.out]; exact hpq
      · exact HNO.out c (by omega)
    have HN := Lib.hid hnext
    clear hnext
    cases p <;> cases q
    case true.true =>
      go_wp2
      go_goals
      go_ret
      refine ⟨ret_bool (Eq.symm ?_), rfl⟩
      rw [betB, List.any_eq_true]
      exact ⟨k, List.mem_range.2 hk2, by rw [HP.out, HQ.out]; rfl⟩
    all_goals
      go_wp2
      refine ⟨⟨k + 1, by omega, by first | rfl | trivial, by first | rfl | trivial, HN.out rfl, ⟨rfl, rfl, rfl, rfl, rfl⟩⟩, by simp [intOf]; omega⟩
  · have hkn : k = n := by omega
    have HK := Lib.hid hkn
    clear hkn
    go_wp2
    go_goals
    go_ret
    refine ⟨ret_bool (Eq.symm ?_), rfl⟩
    rw [betB, List.any_eq_false]
    intro c hc
    have := HNO.out c (by rw [HK.out]; exact List.mem_range.1 hc)
    simp [this]

/-- The relations of a row, up to column j. -/
def rowP (R : Bin) (a j : Nat) : List (Int × Int) := ((List.range j).filter (R a)).map fun (b : Nat) => ((a : Int), (b : Int))
theorem rowP_succ (R : Bin) (a j : Nat) : rowP R a (j + 1) = rowP R a j ++ if R a j then [((a : Int), (j : Int))] else [] := by
  unfold rowP
  rw [List.range_succ, List.filter_append, List.map_append]
  by_cases h : R a j = true <;> simp [h]
def pairsU (n : Nat) (R : Bin) (i : Nat) : List (Int × Int) := (List.range i).flatMap fun a => rowP R a n
theorem pairsU_succ (n : Nat) (R : Bin) (i : Nat) : pairsU n R (i + 1) = pairsU n R i ++ rowP R i n := by simp [pairsU, List.range_succ]
theorem pairsU_all (n : Nat) (R : Bin) : pairsU n R n = pairsR n R := rfl
theorem rowP_le (R : Bin) (a j : Nat) : (rowP R a j).length ≤ j := by
  unfold rowP
  rw [List.length_map]
  have := List.length_filter_le (R a) (List.range j)
  simpa using this
theorem pairsU_le (n : Nat) (R : Bin) (i : Nat) : (pairsU n R i).length ≤ i * n := by
  induction i with
  | zero => simp [pairsU]
  | succ i ih =>
    rw [pairsU_succ, List.length_append, Nat.succ_mul]
    have := rowP_le R i n
    omega

set_option maxRecDepth 100000 in
set_option maxHeartbeats 4000000 in
theorem refPairs_ok {w : World} {base b n : Nat} {R : Bin} (hn : n ≤ 64) (h : RefO w base b n R) :
    Calls Tryd.prog 43 #[.pointer (some ⟨b, 0, none⟩)] w fun e w' => ∃ v, e = .returned v ∧ Ext w w' ∧ w'.ownsRow w.heap.size 33 2 v (pairsR n R).length (prs (pairsR n R)) := by
  go_enter Tryd.func43, Tryd.ntmps43
  go_wp2_with (go_at_call 40; refine (refValid_ok h).mono ?_; rintro e w' ⟨rfl, rfl⟩)
  refine wp_loop (fun a W => ∃ (i : Nat) (vo : Value), i ≤ n ∧ Ext w W ∧ a.defers = [] ∧ (a.tmps.size = 42 ∧ a.tmps.getD 0 undef = .pointer (some ⟨b, 0, none⟩) ∧ a.tmps.getD 3 undef = vo ∧ a.tmps.getD 4 undef = .int .i64 i) ∧ W.ownsRow w.heap.size 33 2 vo (pairsU n R i).length (prs (pairsU n R i)))
    (fun a _ => n - (intOf (a.tmps.getD 4 undef)).toNat) ?_ ?_
  · exact ⟨0, _, by omega, Turn.refl _ _, rfl, ⟨rfl, rfl, rfl, rfl⟩, by simpa [pairsU, prs] using World.ownsRow_nil _ _ _ _⟩
  rintro ⟨t, _⟩ W ⟨i, vo, hi, hEW, hds, ⟨hsz, f0, f3, f4⟩, hO⟩
  subst hds
  obtain ⟨u', hu⟩ := frame_fun hsz
  obtain ⟨u, rfl⟩ : ∃ x, x = u' := ⟨_, rfl⟩
  have hu' : t = #[u 0, u 1, u 2, u 3, u 4, u 5, u 6, u 7, u 8, u 9, u 10, u 11, u 12, u 13, u 14, u 15, u 16, u 17, u 18, u 19, u 20, u 21, u 22, u 23, u 24, u 25, u 26, u 27, u 28, u 29, u 30, u 31, u 32, u 33, u 34, u 35, u 36, u 37, u 38, u 39, u 40, u 41] := hu
  clear hu
  subst hu'
  change u 0 = _ at f0
  change u 3 = _ at f3
  change u 4 = _ at f4
  rw [f0, f3, f4]
  clear f0 f3 f4 hsz
  have cn := (h.ext hEW).num
  by_cases hi2 : i < n
  · have hi3 : (i : Int) < (n : Int) := by omega
    have hile := pairsU_le n R i
    have hmul : i * n ≤ 64 * 64 := Nat.mul_le_mul (by omega) hn
    go_wp2
    clear cn
    refine wp_loop (fun a W => ∃ (j : Nat) (vo : Value), j ≤ n ∧ Ext w W ∧ a.defers = [] ∧ (a.tmps.size = 42 ∧ a.tmps.getD 0 undef = .pointer (some ⟨b, 0, none⟩) ∧ a.tmps.getD 3 undef = vo ∧ a.tmps.getD 4 undef = .int .i64 i ∧ a.tmps.getD 5 undef = .int .i64 j) ∧ W.ownsRow w.heap.size 33 2 vo (pairsU n R i ++ rowP R i j).length (prs (pairsU n R i ++ rowP R i j)))
      (fun a _ => n - (intOf (a.tmps.getD 5 undef)).toNat) ?_ ?_
    · exact ⟨0, _, by omega, hEW, rfl, ⟨rfl, rfl, rfl, rfl, rfl⟩, by simpa [rowP] using hO⟩
    clear hO hEW
    rintro ⟨t, _⟩ W ⟨j, vo, hj, hEW, hds, ⟨hsz, f0, f3, f4, f5⟩, hO⟩
    subst hds
    obtain ⟨u', hu⟩ := frame_fun hsz
    obtain ⟨u, rfl⟩ : ∃ x, x = u' := ⟨_, rfl⟩
    have hu' : t = #[u 0, u 1, u 2, u 3, u 4, u 5, u 6, u 7, u 8, u 9, u 10, u 11, u 12, u 13, u 14, u 15, u 16, u 17, u 18, u 19, u 20, u 21, u 22, u 23, u 24, u 25, u 26, u 27, u 28, u 29, u 30, u 31, u 32, u 33, u 34, u 35, u 36, u 37, u 38, u 39, u 40, u 41] := hu
    clear hu
    subst hu'
    change u 0 = _ at f0
    change u 3 = _ at f3
    change u 4 = _ at f4
    change u 5 = _ at f5
    rw [f0, f3, f4, f5]
    clear f0 f3 f4 f5 hsz
    have hW := h.ext hEW
    have cn := hW.num
    by_cases hj2 : j < n
    · have hj3 : (j : Int) < (n : Int) := by omega
      obtain ⟨go, co, c2, hrow⟩ := hW.table (by omega)
      obtain ⟨gi, ci, c3, hcell⟩ := hrow i hi2
      have c4 := hcell j hj2
      clear hrow hcell
      have hsucc := rowP_succ R i j
      have hjl := rowP_le R i j
      obtain ⟨p, hp⟩ : ∃ p, R i j = p := ⟨_, rfl⟩
      rw [hp] at c4 hsucc
      have HP := Lib.hid hp; have HS := Lib.hid hsucc
      clear hp hsucc
      obtain ⟨M, hM⟩ : ∃ M, pairsU n R i ++ rowP R i j = M := ⟨_, rfl⟩
      have hMl : M.length ≤ 64 * 64 + 64 := by rw [← hM, List.length_append]; omega
      rw [hM] at hO
      have HM := Lib.hid hM
      clear hM hile hmul hjl
      cases p with
      | false =>
        have e : pairsU n R i ++ rowP R i (j + 1) = M := by rw [HS.out, ← HM.out]; simp
        rw [← e] at hO
        have HO := Lib.hid hO
        clear e hO
        go_wp2
        exact ⟨⟨j + 1, _, by omega, hEW, by first | rfl | trivial, ⟨rfl, rfl, rfl, rfl, rfl⟩, HO.out⟩, by simp [intOf]; omega⟩
      | true =>
        obtain ⟨ao, cp, rfl⟩ := own_slice hO
        go_wp2_with (at_builtin; refine append_row rfl (.tmp 35) (.tmp 39) 22 rfl w.heap.size 33 _ 2 16 Tryd.underlying22 Tryd.infoPair rfl (by decide) _ _ _ rfl (own_ext hO ((Turn.refl _ _).alloc _)) ⟨_, 0, none⟩ 1 1 [.int .i64 i, .int .i64 j] rfl rfl new_cells ?c2 ?c3 ?c4 ?c5 ?_)
        case c2 => first | (intro u hu; simp at hu; rcases hu with rfl | rfl <;> rfl) | exact ⟨rfl, rfl⟩ | trace_state
        case c3 => unfold maxLen; omega
        case c4 => omega
        case c5 => have := hEW.size; simp; omega
        intro ao2 c2' w4 hO2 hT2 _
        have hE4 : Ext w w4 := (hEW.alloc _).after hT2 (fun b' h1 e => by have := (hO.lt _ e).1; omega)
        have e : pairsU n R i ++ rowP R i (j + 1) = M ++ [((i : Int), (j : Int))] := by rw [HS.out, ← List.append_assoc, HM.out]; simp
        have hO3 : w4.ownsRow w.heap.size 33 2 (.slice ao2 (M.length + 1) c2') (pairsU n R i ++ rowP R i (j + 1)).length (prs (pairsU n R i ++ rowP R i (j + 1))) := by
          rw [e, prs_append, List.length_append]; exact hO2
        have HO := Lib.hid hO3
        clear hT2 hO hEW hO2 e hO3 c2 c3 c4 hW cn
        go_wp2
        exact ⟨⟨j + 1, _, by omega, hE4, by first | rfl | trivial, ⟨rfl, rfl, rfl, rfl, rfl⟩, HO.out⟩, by simp [intOf]; omega⟩
    · have hjn : j = n := by omega
      have HJ := Lib.hid hjn
      have hb := pairsU_succ n R i
      rw [show rowP R i n = rowP R i j by rw [hjn]] at hb
      rw [← hb] at hO
      have HO := Lib.hid hO
      clear hjn hb hO
      go_wp2
      exact ⟨⟨i + 1, _, by omega, hEW, by first | rfl | trivial, ⟨rfl, rfl, rfl, rfl⟩, HO.out⟩, by simp [intOf]; omega⟩
  · obtain rfl : i = n := by omega
    have HO := Lib.hid hO
    clear hO
    go_wp2
    go_goals
    go_ret
    exact ⟨_, rfl, hEW, HO.out⟩
end Go.Proofs.YtnnnbmkhgcpjoaaDoor
