/- ablautlaw13: same, equal, inside. -/
import Derived.Test.YtnnnbmkhgcpjoaaDoorProg
import Derived.Test.YtnnnbmkhgcpjoaaDoorSl
import Derived.WalkLawsBesides
import Derived.Handy
import Derived.Lib.Hide
namespace Go.Proofs.YtnnnbmkhgcpjoaaDoor
open Go.RowKit Go.Ab

theorem run_info_size {P : Program} {e : TypeId} {n : Nat} (hs : (P.info? e).map (·.size) = some n) : ∃ i, P.info? e = some i ∧ i.size = n := by
  cases h : P.info? e with
  | none => simp [h] at hs
  | some i => exact ⟨i, rfl, by simpa [h] using hs⟩

theorem run_equalIn_pair {P : Program} (w : World) (d : Nat) (t e : TypeId) (k : IntKind) (x1 x2 y1 y2 : Int) (ht : P.underlying t = some (.array 2 e)) (he : P.underlying e = some (.int k)) (hs : (P.info? e).map (·.size) = some 1) :
    (Op.equalIn (d + 2) t (.agg #[.int k x1, .int k x2]) (.agg #[.int k y1, .int k y2])).run P w = .ok (x1 == y1 && x2 == y2) w := by
  have h1 := run_equalIn_int w d e k k x1 y1 he
  have h2 := run_equalIn_int w d e k k x2 y2 he
  obtain ⟨i, hi, hsz⟩ : ∃ i, P.info? e = some i ∧ i.size = 1 := by
    cases h : P.info? e with
    | none => simp [h] at hs
    | some i => exact ⟨i, rfl, by simpa [h] using hs⟩
  have h3 : (isAgg e).run P w = .ok false w := by simp [isAgg, run_underlying he]
  rw [Op.equalIn]
  simp only [Sem.run_bind, run_underlying ht, Result.andThen_ok]
  simp [Std.Legacy.Range.forIn_eq_forIn_range', sizeOf, typeInfo, hi, hsz, List.range', part, h1, h3]
  by_cases hx : x1 = y1
  · by_cases hy : x2 = y2
    · subst hy; simp [hx, h2]
    · simp [hx, hy, h2]
  · simp [hx]

/-- Natural numbers as ints. -/
def zs (l : List Nat) : List Int := l.map fun (x : Nat) => (x : Int)
theorem zs_length (l : List Nat) : (zs l).length = l.length := by simp [zs]
theorem zs_append (l m : List Nat) : zs (l ++ m) = zs l ++ zs m := by simp [zs]
def ints (l : List Int) : List Value := l.map (Value.int .i64)
theorem ints_getD (l : List Int) (i : Nat) (h : i < l.length) : (ints l).getD i undef = .int .i64 (l.getD i 0) := by
  simp [ints, List.getD_eq_getElem?_getD, h]

theorem equal_len (ao bo : Option Addr) (n m ca cb : Nat) (w : World) (h : n ≠ m) :
    Calls Tryd.prog 23 #[.slice ao n ca, .slice bo m cb] w fun e w' => e = .returned (.bool false) ∧ w = w' := by
  have h' : ((n : Int) != (m : Int)) = true := by simp; omega
  go_enter Tryd.func23, Tryd.ntmps23
  go_wp2
  go_ret
  exact ⟨rfl, rfl⟩

theorem equal_any (va vb : Value) (la lb : List Int) (w : World) (ha : Rd w va la.length 1 (ints la)) (hb : Rd w vb lb.length 1 (ints lb)) :
    Calls Tryd.prog 23 #[va, vb] w fun e w' => e = .returned (.bool (decide (la = lb))) ∧ ∃ m, w' = w.drewN m := by
  obtain ⟨_, hna, ao, ca, rfl, ha⟩ := ha
  obtain ⟨_, hnb, bo, cb, rfl, hb⟩ := hb
  unfold maxLen at hna hnb
  by_cases hl : la.length = lb.length
  · by_cases h0 : la.length = 0
    · have : la = [] := by simpa using h0
      subst this
      have : lb = [] := by simpa using hl.symm
      subst this
      go_enter Tryd.func23, Tryd.ntmps23
      go_wp2
      refine wp_loop_rounds 1 ?_; rw [rounds_succ]
      go_wp2
      go_ret
      exact ⟨rfl, 0, rfl⟩
    · obtain ⟨ga, oa, rfl, _, ha⟩ := ha (by omega)
      obtain ⟨gb, ob, rfl, _, hb⟩ := hb (by omega)
      have he : ((la.length : Int) != (lb.length : Int)) = false := by simp [hl]
      have HL := Lib.hid hl
      clear hl
      go_enter Tryd.func23, Tryd.ntmps23
      go_wp2
      go_loopw [5] (fun i wr => ∃ k m : Nat, k ≤ la.length ∧ i = .int .i64 k ∧ (∀ j, j < k → la.getD j 0 = lb.getD j 0) ∧ wr = w.drewN m) (fun i _ => la.length - (intOf i).toNat)
      case atStart => exact ⟨0, 0, Nat.zero_le _, rfl, fun _ h => by omega, rfl⟩
      case round =>
        obtain ⟨k, m, hk, rfl, heq, rfl⟩ := hrel
        by_cases hlt : k < la.length
        · obtain ⟨x, hx⟩ : ∃ x, la.getD k 0 = x := ⟨_, rfl⟩
          obtain ⟨y, hy⟩ : ∃ y, lb.getD k 0 = y := ⟨_, rfl⟩
          have cx := ha k (by omega)
          have cy := hb k (by have := HL.out; omega)
          rw [ints_getD _ _ hlt, hx] at cx
          rw [ints_getD _ _ (by have := HL.out; omega), hy] at cy
          have hlt2 : (k : Int) < (lb.length : Int) := by have := HL.out; omega
          have HX := Lib.hid hx; have HY := Lib.hid hy; have HQ := Lib.hid heq
          clear heq ha hb hx hy
          go_wp2
          go_quiet (fail)
          go_wp2
          · have hne : (x != y) = true := by assumption
            go_ret
            refine ⟨ret_bool (decide_eq_false fun e => ?_).symm, m + nq, by simp⟩
            subst e
            rw [HX.out.symm.trans HY.out] at hne
            simp at hne
          · have hxy : (x != y) = false := by assumption
            go_roundw
            case rel =>
              refine ⟨k + 1, m + nq, by omega, by go_num, fun j hj => ?_, by simp⟩
              by_cases e : j = k
              · subst e; rw [HX.out, HY.out]; simpa using hxy
              · exact HQ.out j (by omega)
            case measure => simp [intOf]; omega
        · have hk' : k = la.length := by omega
          have HK := Lib.hid hk'
          have HQ := Lib.hid heq
          clear hk' heq ha hb
          go_wp2
          go_ret
          refine ⟨ret_bool (decide_eq_true (List.ext_getElem HL.out fun j h1 h2 => ?_)).symm, m, rfl⟩
          have := HQ.out j (by have := HK.out; omega)
          simpa [List.getD_eq_getElem?_getD, h1, h2] using this
  · have hne : la ≠ lb := fun h => hl (by rw [h])
    exact (equal_len _ _ _ _ _ _ w hl).mono fun e w' ⟨h1, h2⟩ => ⟨by rw [h1]; simp [hne], 0, h2.symm⟩

/-- Pairs of numbers, two cells each. -/
def prs (l : List (Int × Int)) : List Value := l.flatMap fun p => [Value.int .i64 p.1, Value.int .i64 p.2]
theorem prs_cons (p : Int × Int) (l : List (Int × Int)) : prs (p :: l) = .int .i64 p.1 :: .int .i64 p.2 :: prs l := rfl
theorem prs_length (l : List (Int × Int)) : (prs l).length = l.length * 2 := by
  induction l with
  | nil => rfl
  | cons p l ih => simp [prs_cons, ih]; omega
theorem prs_append (l m : List (Int × Int)) : prs (l ++ m) = prs l ++ prs m := by simp [prs]
theorem prs_fst : ∀ (l : List (Int × Int)) (i : Nat), i < l.length → (prs l).getD (i * 2) undef = .int .i64 (l.getD i (0, 0)).1
  | [], _, h => by simp at h
  | p :: l, 0, _ => by simp [prs_cons]
  | p :: l, i + 1, h => by
    rw [prs_cons, show (i + 1) * 2 = i * 2 + 1 + 1 by omega, List.getD_cons_succ, List.getD_cons_succ, List.getD_cons_succ]
    exact prs_fst l i (by simpa using h)
theorem prs_snd : ∀ (l : List (Int × Int)) (i : Nat), i < l.length → (prs l).getD (i * 2 + 1) undef = .int .i64 (l.getD i (0, 0)).2
  | [], _, h => by simp at h
  | p :: l, 0, _ => by simp [prs_cons]
  | p :: l, i + 1, h => by
    rw [prs_cons, show (i + 1) * 2 + 1 = i * 2 + 1 + 1 + 1 by omega, List.getD_cons_succ, List.getD_cons_succ, List.getD_cons_succ]
    exact prs_snd l i (by simpa using h)

theorem same_len (ao bo : Option Addr) (n m ca cb : Nat) (w : World) (h : n ≠ m) :
    Calls Tryd.prog 27 #[.slice ao n ca, .slice bo m cb] w fun e w' => e = .returned (.bool false) ∧ w = w' := by
  have h' : ((n : Int) != (m : Int)) = true := by simp; omega
  go_enter Tryd.func27, Tryd.ntmps27
  go_wp2
  go_ret
  exact ⟨rfl, rfl⟩

theorem same_any (va vb : Value) (la lb : List (Int × Int)) (w : World) (ha : Rd w va la.length 2 (prs la)) (hb : Rd w vb lb.length 2 (prs lb)) :
    Calls Tryd.prog 27 #[va, vb] w fun e w' => e = .returned (.bool (decide (la = lb))) ∧ ∃ m, w' = w.drewN m := by
  obtain ⟨_, hna, ao, ca, rfl, ha⟩ := ha
  obtain ⟨_, hnb, bo, cb, rfl, hb⟩ := hb
  unfold maxLen at hna hnb
  by_cases hl : la.length = lb.length
  · by_cases h0 : la.length = 0
    · have : la = [] := by simpa using h0
      subst this
      have : lb = [] := by simpa using hl.symm
      subst this
      go_enter Tryd.func27, Tryd.ntmps27
      go_wp2
      refine wp_loop_rounds 1 ?_; rw [rounds_succ]
      go_wp2
      go_ret
      exact ⟨rfl, 0, rfl⟩
    · obtain ⟨ga, oa, rfl, _, ha⟩ := ha (by omega)
      obtain ⟨gb, ob, rfl, _, hb⟩ := hb (by omega)
      have he : ((la.length : Int) != (lb.length : Int)) = false := by simp [hl]
      have HL := Lib.hid hl
      clear hl
      have hpair := fun W x1 x2 y1 y2 => run_equalIn_pair (P := Tryd.prog) W 9998 33 3 .i64 x1 x2 y1 y2 Tryd.underlying33 Tryd.underlying3 (by kernel_rfl)
      go_enter Tryd.func27, Tryd.ntmps27
      go_wp2
      go_loopw [5] (fun i wr => ∃ k m : Nat, k ≤ la.length ∧ i = .int .i64 k ∧ (∀ j, j < k → la.getD j (0, 0) = lb.getD j (0, 0)) ∧ wr = w.drewN m) (fun i _ => la.length - (intOf i).toNat)
      case atStart => exact ⟨0, 0, Nat.zero_le _, rfl, fun _ h => by omega, rfl⟩
      case round =>
        obtain ⟨k, m, hk, rfl, heq, rfl⟩ := hrel
        by_cases hlt : k < la.length
        · obtain ⟨⟨x1, x2⟩, hx⟩ : ∃ x, la.getD k (0, 0) = x := ⟨_, rfl⟩
          obtain ⟨⟨y1, y2⟩, hy⟩ : ∃ y, lb.getD k (0, 0) = y := ⟨_, rfl⟩
          have hlb : k < lb.length := by have := HL.out; omega
          have cx1 := ha (k * 2) (by omega)
          have cx2 := ha (k * 2 + 1) (by omega)
          have cy1 := hb (k * 2) (by omega)
          have cy2 := hb (k * 2 + 1) (by omega)
          rw [prs_fst _ _ hlt, hx] at cx1
          rw [prs_snd _ _ hlt, hx, ← Nat.add_assoc] at cx2
          rw [prs_fst _ _ hlb, hy] at cy1
          rw [prs_snd _ _ hlb, hy, ← Nat.add_assoc] at cy2
          have hlt2 : (k : Int) < (lb.length : Int) := by omega
          have HX := Lib.hid hx; have HY := Lib.hid hy; have HQ := Lib.hid heq
          clear heq ha hb hx hy
          go_wp2
          go_quiet (fail)
          go_wp2
          · have hne : (!x1 == y1) = true ∨ (!x2 == y2) = true := by assumption
            go_ret
            refine ⟨ret_bool (decide_eq_false fun e => ?_).symm, m + nq, by simp⟩
            subst e
            have := HX.out.symm.trans HY.out
            simp at this
            simp [this] at hne
          · have hxy : (!x1 == y1) = false ∧ (!x2 == y2) = false := by assumption
            go_roundw
            case rel =>
              refine ⟨k + 1, m + nq, by omega, by go_num, fun j hj => ?_, by simp⟩
              by_cases e : j = k
              · subst e; rw [HX.out, HY.out]; simpa using hxy
              · exact HQ.out j (by omega)
            case measure => simp [intOf]; omega
        · have hk' : k = la.length := by omega
          have HK := Lib.hid hk'
          have HQ := Lib.hid heq
          clear hk' heq ha hb
          go_wp2
          go_ret
          refine ⟨ret_bool (decide_eq_true (List.ext_getElem HL.out fun j h1 h2 => ?_)).symm, m, rfl⟩
          have := HQ.out j (by have := HK.out; omega)
          simpa [List.getD_eq_getElem?_getD, h1, h2] using this
  · have hne : la ≠ lb := fun h => hl (by rw [h])
    exact (same_len _ _ _ _ _ _ w hl).mono fun e w' ⟨h1, h2⟩ => ⟨by rw [h1]; simp [hne], 0, h2.symm⟩
end Go.Proofs.YtnnnbmkhgcpjoaaDoor
