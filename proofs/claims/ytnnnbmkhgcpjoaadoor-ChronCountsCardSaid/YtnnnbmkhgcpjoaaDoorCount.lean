/- chron.Order.Count. -/
import Derived.Test.YtnnnbmkhgcpjoaaDoorCnt
namespace Go.Proofs.YtnnnbmkhgcpjoaaDoor
open Go.RowKit Go.Ab
attribute [local go_sem] Oper.semAt_some wide_fn wide_depth

theorem i64_or_nat (a b : Nat) (ha : a < 9223372036854775808) (hb : b < 9223372036854775808) : bits .or .i64 (a : Int) (b : Int) = ((a ||| b : Nat) : Int) := by
  have hx : a ||| b < 2 ^ 63 := Nat.or_lt_two_pow (by omega) (by omega)
  show IntKind.i64.wrap ((BitVec.ofInt 64 (a : Int) ||| BitVec.ofInt 64 (b : Int)).toNat : Int) = _
  rw [BitVec.toNat_or, ofInt_u64 a (by omega), ofInt_u64 b (by omega)]
  exact IntWalk.i64_in _ (by omega)

theorem Tryd.infoI64 : (Tryd.prog.info? 2).map (fun i => (i.zero, i.size, i.bytes)) = some (some (.int .i64 0), 1, 8) := by kernel_rfl

theorem pow_cast (x : Nat) : ((2 : Int) ^ x) = ((2 ^ x : Nat) : Int) := by simp

set_option maxHeartbeats 8000000 in
theorem count_many (b n : Nat) (R : Nat → Nat → Bool) (hn : n ≤ 64) (h16 : 16 < n) (w : World) (ho : OrdR w b n R) :
    Calls Tryd.prog 19 #[.pointer (some ⟨b, 0, none⟩)] w fun e w' => e = .returned (.tuple #[.int .i64 0, .int .i64 12]) ∧ Ext w w' := by
  have ho1 := ho.keep ((Turn.refl (fun _ => False) w).alloc (.cells #[.pointer (some ⟨b, 0, none⟩)] 25)) id
  have cn := ho1.n
  have cm := ho1.made
  have hlt := ho.lt
  refine calls_of_wp_marks Tryd.func19 rfl ?_
  simp only [Tryd.ntmps19, List.size_toArray, List.length_cons, List.length_nil, Nat.reduceAdd, Nat.reduceSub, Array.replicate_succ, Array.replicate_zero, List.push_toArray, List.append_toArray, List.nil_append, List.cons_append]
  have hn2 : (16 : Int) < n := by omega
  go_wp2
  go_goals
  refine bodyPostM_ret (base := w.heap.size) trivial (fun w' => results_tmp2 rfl _ _ _) ?_
  intro w' h1 _
  exact ⟨rfl, Turn.after ((Turn.refl (fun _ => False) w).alloc _) h1 fun b' h2 h3 => by have := h3.1; omega⟩

/-- The loop's variable, in its cell, and one more. -/
def boxMeasure (a : Act) (W : World) : Nat := match a.tmps.getD 5 undef with
  | .pointer (some p) => match W.cell? p with | some (.int _ z) => (z + 1).toNat | _ => 0
  | _ => 0

theorem boxMeasure_eq {a : Act} {W : World} {D : Nat} {z : Int} (h : a.tmps.getD 5 undef = .pointer (some ⟨D, 0, none⟩)) (hc : W.cell? ⟨D, 0, none⟩ = some (.int .i64 z)) : boxMeasure a W = (z + 1).toNat := by
  unfold boxMeasure; rw [h]; simp only []; rw [hc]

set_option maxHeartbeats 8000000 in
theorem count_any (b n : Nat) (R : Nat → Nat → Bool) (hn : n ≤ 16) (w : World) (ho : OrdR w b n R) (hT : Tab w) :
    Calls Tryd.prog 19 #[.pointer (some ⟨b, 0, none⟩)] w fun e w' => e = .returned (.tuple #[.int .i64 (countR n R), .int .i64 0]) ∧ Ext w w' := by
  have ho1 := ho.keep ((Turn.refl (fun _ => False) w).alloc (.cells #[.pointer (some ⟨b, 0, none⟩)] 25)) id
  have cn := ho1.n
  have cm := ho1.made
  have hlt := ho.lt
  have hb0 : 0 < w.heap.size := by omega
  refine calls_of_wp_marks Tryd.func19 rfl ?_
  simp only [Tryd.ntmps19, List.size_toArray, List.length_cons, List.length_nil, Nat.reduceAdd, Nat.reduceSub, Array.replicate_succ, Array.replicate_zero, List.push_toArray, List.append_toArray, List.nil_append, List.cons_append]
  have hN1 : 1 ≤ 2 ^ n := Nat.one_le_two_pow
  have hN2 : 2 ^ n ≤ 65536 := by have := Nat.pow_le_pow_right (n := 2) (by decide) hn; simpa using this
  have hw1 : IntKind.i64.wrap (2 ^ n) = ((2 ^ n : Nat) : Int) := by rw [pow_cast]; exact IntWalk.i64_in _ (by omega)
  obtain ⟨N, hN⟩ : ∃ N, 2 ^ n = N := ⟨_, rfl⟩
  rw [hN] at hw1 hN1 hN2
  have hn2 : ¬ (16 : Int) < n := by omega
  have HN := Lib.hid hN
  clear hN
  go_wp2_with (at_make; refine make_row1 rfl (.tmp 25) (.tmp 25) 71 rfl w.heap.size 2 _ 8 Tryd.underlying71 Tryd.infoI64 rfl .i64 .i64 N N N rfl rfl rfl rfl ?c1 ?c2 (by simp) ?_)
  case c1 => omega
  case c2 => unfold maxLen; omega
  rw [lvRow_zero]
  intro w1 hO1 hE1
  have hol := (hO1.lt _ rfl).2
  have hOa := hO1.alloc (.cells #[.slice (some ⟨w.heap.size + 1, 0, none⟩) N N] 71)
  have ca := hOa.cellAt (N - 1) (by omega)
  rw [lvRow_get _ _ _ (by omega)] at ca
  have fa := hOa.frozenAt (N - 1)
  go_wp2
  have hbx : w1.heap[w.heap.size]? = some (.cells #[.pointer (some ⟨b, 0, none⟩)] 25 (0, 0)) := hE1.keep (new_at rfl)
  have hEw1 : Ext w w1 := ((Turn.refl _ w).alloc _).trans hE1
  have hs1 : w.heap.size + 1 < w1.heap.size := hol
  have e1 : w1.ownsRow w.heap.size 2 1 (.slice (some ⟨w.heap.size + 1, 0, none⟩) N N) N (lvRow N fun _ => 0) := hO1
  have e2 := own_store hO1 (N - 1) (.int .i64 (1 : Nat))
  rw [lvRow_set] at e2
  have e3 : lvRow N (upd (fun _ => 0) (N - 1) 1) = lvRow N (wayF n R (N - 1)) := by rw [← HN.out]; exact lvRow_start n R
  rw [e3] at e2
  have hT1 : Turn (· = w.heap.size + 1) w1 ((((w1.setCell ⟨w.heap.size + 1, N - 1, none⟩ (.int .i64 1)).alloc (.cells #[.slice (some ⟨w.heap.size + 1, 0, none⟩) N N] 71)).alloc (.cells #[.int .i64 (N - 2)] 3))) := ((Turn.set1 w1 (w.heap.size + 1) (N - 1) _).alloc _).alloc _
  have hO4 : ((((w1.setCell ⟨w.heap.size + 1, N - 1, none⟩ (.int .i64 1)).alloc (.cells #[.slice (some ⟨w.heap.size + 1, 0, none⟩) N N] 71)).alloc (.cells #[.int .i64 (N - 2)] 3))).ownsRow w.heap.size 2 1 (.slice (some ⟨w.heap.size + 1, 0, none⟩) N N) N (lvRow N (wayF n R (N - 1))) := (e2.alloc _).alloc _
  have hp4 : ((((w1.setCell ⟨w.heap.size + 1, N - 1, none⟩ (.int .i64 1)).alloc (.cells #[.slice (some ⟨w.heap.size + 1, 0, none⟩) N N] 71)).alloc (.cells #[.int .i64 (N - 2)] 3))).heap[w1.heap.size]? = some (.cells #[.slice (some ⟨w.heap.size + 1, 0, none⟩) N N] 71 (0, 0)) := new_keep (new_at (by simp))
  have hd4 : ((((w1.setCell ⟨w.heap.size + 1, N - 1, none⟩ (.int .i64 1)).alloc (.cells #[.slice (some ⟨w.heap.size + 1, 0, none⟩) N N] 71)).alloc (.cells #[.int .i64 (N - 2)] 3))).heap[w1.heap.size + 1]? = some (.cells #[.int .i64 (N - 2)] 3 (0, 0)) := new_at (by simp)
  have hs4 : ((((w1.setCell ⟨w.heap.size + 1, N - 1, none⟩ (.int .i64 1)).alloc (.cells #[.slice (some ⟨w.heap.size + 1, 0, none⟩) N N] 71)).alloc (.cells #[.int .i64 (N - 2)] 3))).heap.size = w1.heap.size + 2 := by simp
  generalize (((w1.setCell ⟨w.heap.size + 1, N - 1, none⟩ (.int .i64 1)).alloc (.cells #[.slice (some ⟨w.heap.size + 1, 0, none⟩) N N] 71)).alloc (.cells #[.int .i64 (N - 2)] 3)) = w4 at hT1 hO4 hp4 hd4 hs4 ⊢
  have hb4 := hT1.heap hbx (by omega)
  have hE4 : Ext w w4 := hEw1.after hT1 (fun b' h1 e => by omega)
  have ho4 := ho.keep hE4 id
  have hT4 := hT.keep hE4 id
  clear e1 e2 e3 hO1 hOa ca fa ho1 cn cm hT1 hbx hEw1 hE1
  obtain ⟨p4, hp⟩ : ∃ p4, w1.heap.size = p4 := ⟨_, rfl⟩
  rw [hp] at hs4 hp4 hd4 hs1 ⊢
  clear hol hp
  refine wp_loop (fun a W => ∃ (c D : Nat) (z : Int) (ds : List Deferred), z + 1 = c ∧ c + 1 ≤ N ∧ a.defers = ds ∧ (a.tmps.size = 74 ∧ a.tmps.getD 0 undef = .pointer (some ⟨b, 0, none⟩) ∧ a.tmps.getD 1 undef = .pointer (some ⟨w.heap.size, 0, none⟩) ∧ a.tmps.getD 2 undef = .int .i64 0 ∧ a.tmps.getD 3 undef = .int .i64 0 ∧ a.tmps.getD 4 undef = .pointer (some ⟨p4, 0, none⟩) ∧ a.tmps.getD 5 undef = .pointer (some ⟨D, 0, none⟩)) ∧ Marks w.heap.size ds W ∧ p4 < D ∧
      W.heap[D]? = some (.cells #[.int .i64 z] 3 (0, 0)) ∧ W.ownsRow w.heap.size 2 1 (.slice (some ⟨w.heap.size + 1, 0, none⟩) N N) N (lvRow N (wayF n R c)) ∧ Turn (· = w.heap.size + 1) w4 W)
    (fun a W => boxMeasure a W) ?_ ?_
  · exact ⟨N - 1, p4 + 1, N - 2, [], by omega, by omega, rfl, ⟨rfl, rfl, rfl, rfl, rfl, rfl, rfl⟩, trivial, by omega, hd4, hO4, Turn.refl _ _⟩
  · rintro ⟨t, _⟩ W ⟨c, D, z, ds, hz, hc, hds, ⟨hsz, f0, f1, f2, f3, f4, f5⟩, hM, hD, hbD, hO, ht⟩
    subst hds
    rename_i ds
    obtain ⟨u, hu⟩ := frame_fun hsz
    have hu' : t = #[u 0, u 1, u 2, u 3, u 4, u 5, u 6, u 7, u 8, u 9, u 10, u 11, u 12, u 13, u 14, u 15, u 16, u 17, u 18, u 19, u 20, u 21, u 22, u 23, u 24, u 25, u 26, u 27, u 28, u 29, u 30, u 31, u 32, u 33, u 34, u 35, u 36, u 37, u 38, u 39, u 40, u 41, u 42, u 43, u 44, u 45, u 46, u 47, u 48, u 49, u 50, u 51, u 52, u 53, u 54, u 55, u 56, u 57, u 58, u 59, u 60, u 61, u 62, u 63, u 64, u 65, u 66, u 67, u 68, u 69, u 70, u 71, u 72, u 73] := hu
    clear hu
    subst hu'
    change u 0 = _ at f0
    change u 1 = _ at f1
    change u 2 = _ at f2
    change u 3 = _ at f3
    change u 4 = _ at f4
    change u 5 = _ at f5
    rw [f0, f1, f2, f3, f4, f5]
    clear f0 f1 f2 f3 f4 f5 hsz
    have hbW := ht.heap hb4 (by omega)
    have hpW := ht.heap hp4 (by omega)
    have c0 := cell_of_one hbW
    have c4 := cell_of_one hpW
    have cD := cell_of_one hbD
    have hoW := ho4.keep ht (by omega)
    have hT' : Tab W := hT4.keep ht (by omega)
    by_cases hc0 : c = 0
    · have hz' : z = -1 := by omega
      subst hc0
      subst hz'
      clear hz
      have cW := hO.cellAt 0 (by omega)
      rw [lvRow_get _ _ _ (by omega), way_end] at cW
      go_wp2
      go_goals
      refine bodyPostM_ret hM (fun w' => results_tmp2 rfl _ _ _) ?_
      intro w' h1 _
      exact ⟨rfl, (hE4.after ht (fun b' h2 h3 => by omega)).after h1 (fun b' h2 h3 => by have := h3.1; omega)⟩
    · obtain ⟨s, rfl⟩ : ∃ s, c = s + 1 := ⟨c - 1, by omega⟩
      obtain rfl : z = (s : Int) := by omega
      clear hz hc0
      have hwc : IntKind.u64.wrap ((N : Int) - 1 - s) = ((N - 1 - s : Nat) : Int) := by rw [IntKind.wrap_u64]; omega
      go_wp2_with (go_at_call 39; refine (events_any _ _).mono ?_; rintro e w' ⟨rfl, rfl⟩)
      have hsN : s < 2 ^ n - 1 := by rw [HN.out]; omega
      have hv64 : N - 1 - s < 18446744073709551616 := by omega
      have hb1 : SetBox (W.alloc (.cells #[.int .u64 ((N - 1 - s : Nat) : Int)] 55)) W.heap.size (N - 1 - s) := new_at rfl
      have hE1 : Ext W (W.alloc (.cells #[.int .u64 ((N - 1 - s : Nat) : Int)] 55)) := (Turn.refl _ _).alloc _
      have hs1 : (W.alloc (.cells #[.int .u64 ((N - 1 - s : Nat) : Int)] 55)).heap.size = W.heap.size + 1 := by simp
      generalize (W.alloc (.cells #[.int .u64 ((N - 1 - s : Nat) : Int)] 55)) = W1 at hb1 hE1 hs1 ⊢
      have hMl := hM.lt
      have hsz4 := ht.size
      have hDlt := (Array.getElem?_eq_some_iff.1 hbD).1
      have hltW := hoW.lt
      refine wp_range (xs := evs (N - 1 - s)) (S := (· = W.heap.size)) (K := fun b' => b' = W.heap.size ∨ b' = 0) rfl (enters_of Tryd.func47 (by kernel_rfl) rfl)
        (events_iter _ hv64 W.heap.size (by omega) W1 hb1 (hT'.keep hE1 id)) (fun _ h => .inl h) (fun b' h => by omega) (fun _ => rfl)
        (fun pre V => V.ownsRow w.heap.size 2 1 (.slice (some ⟨w.heap.size + 1, 0, none⟩) N N) N (lvRow N (upd (wayF n R (s + 1)) s ((pre.map (term n R s)).sum))) ∧ V.heap[D]? = some (.cells #[.int .i64 s] 3 (0, 0)) ∧ Turn (· = w.heap.size + 1) w4 V ∧ Marks w.heap.size ds V)
        (fun _ _ _ => False) ?hI ?hIx ?h0 (fun i t => (t.setIfInBounds 46 (.int .i64 i)).setIfInBounds 6 (.int .i64 i)) ?assign ?body ?done ?stop
      case hI =>
        rintro pre A B ⟨i1, i2, i3, i4⟩ ht
        exact ⟨own_keep i1 ht (fun g hg => by simp [Value.ownBlock] at hg; omega), ht.heap i2 (by omega), i3.after ht (fun b' h1 h2 => by omega), i4.keepC hMl ht (fun b' h => .inl (by omega))⟩
      case hIx => exact fun _ _ _ _ h _ => h
      case h0 =>
        intro V hV _
        have hEV : Ext W V := hE1.trans hV
        refine ⟨?_, hEV.heap hbD id, ht.after hEV (fun _ _ h => h.elim), hM.keepC hMl hEV (fun _ h => h.elim)⟩
        simp only [List.map_nil, List.sum_nil]
        rw [way_first]
        exact own_ext hO hEV
      case assign =>
        intro i V K hK
        gi_wp2
        exact hK
      case body =>
        rintro pre i rest V hx' hsz ht ⟨i1, i2, i3, i4⟩
        simp only [List.setIfInBounds_toArray, List.set_cons_zero, List.set_cons_succ]
        have hmem : i ∈ evs (2 ^ n - 1 - s) := by rw [HN.out, hx']; simp
        obtain ⟨hin, hib⟩ := evs_comp (by omega) hsN hmem
        have c0 := cell_of_one (i3.heap hb4 (by omega))
        have c4 := cell_of_one (i3.heap hp4 (by omega))
        have cD := cell_of_one i2
        have cB := (ho4.keep i3 (by omega)).bf i (by omega)
        have hi64 : (i : Int) < 64 := by omega
        have hws : IntKind.u64.wrap (s : Int) = s := by rw [IntKind.wrap_u64]; omega
        obtain ⟨rd, hrd⟩ : ∃ rd, readyS n R s i = rd := ⟨_, rfl⟩
        have b2 : (bits .andNot .u64 ((bfR n R i : Nat) : Int) ((s : Nat) : Int) == 0) = rd := by
          have h := andNot_zero (n := n) (by omega) (fun a => R a i) (fun a => s.testBit a)
          rw [← eq_mask (v := s) (by omega) (fun _ _ => rfl)] at h
          rw [← hrd]; exact h
        have hsum : ((pre ++ [i]).map (term n R s)).sum = (pre.map (term n R s)).sum + term n R s i := by simp
        have hpart := term_part (R := R) (by omega) hsN (by rw [HN.out]; exact hx')
        have hterm : term n R s i = if rd then cntS n R (s ||| 2 ^ i) else 0 := by rw [term, hrd]
        clear hx' hmem hrd
        refine wpIn_block ?_
        refine wpIn_seq ?_
        refine wpIn_region_still_tail 9 (by kernel_rfl) (by kernel_rfl) (by kernel_rfl) (by rintro ⟨_, _, h⟩; exact h) ?_
        simp only [List.take_succ_cons, List.take_zero, List.drop_succ_cons, List.drop_zero]
        repeat still_step
        refine wpStill_nil ?_
        go_wp2
        clear cB b2 hws
        cases rd with
        | false =>
          refine wpIn_cond_false rfl ?_
          refine wpIn_skip ?_
          have hdr : ∀ S, Turn S V V.drew := fun S => Turn.drew (Turn.refl S V)
          refine ⟨hdr _, ?_, i2, i3.drew, i4.keepC hMl (hdr fun _ => False) (fun _ h => h.elim)⟩
          rw [hsum, hterm]
          exact own_ext i1 (hdr _)
        | true =>
          have hgt := or_gt hib
          have hlt := or_lt (n := n) (by omega) hin (s := s)
          rw [HN.out] at hlt
          have hpi : 2 ^ i < 65536 := by have := Nat.pow_lt_pow_right (a := 2) (by decide) (show i < 16 by omega); simpa using this
          have hshl : IntKind.i64.wrap (2 ^ i) = ((2 ^ i : Nat) : Int) := by
            rw [pow_cast]; generalize 2 ^ i = e at hpi ⊢; exact IntWalk.i64_in _ (by omega)
          have o1 : bits .or .i64 (s : Int) (IntKind.i64.wrap (2 ^ i)) = ((s ||| 2 ^ i : Nat) : Int) := by
            rw [hshl]; exact i64_or_nat _ _ (by omega) (by omega)
          clear hshl
          obtain ⟨q, hq⟩ : ∃ q, s ||| 2 ^ i = q := ⟨_, rfl⟩
          simp only [if_true] at hterm
          rw [hq] at hgt hlt hterm o1
          obtain ⟨x, hx⟩ : ∃ x, (pre.map (term n R s)).sum = x := ⟨_, rfl⟩
          obtain ⟨y, hy⟩ : ∃ y, cntS n R q = y := ⟨_, rfl⟩
          have hf := fact_small hn
          rw [hx, hterm, hy] at hpart hsum
          rw [hx] at i1
          have c1 := i1.cellAt s (by omega)
          rw [lvRow_get _ _ _ (by omega), show upd (wayF n R (s + 1)) s x s = x by simp [upd]] at c1
          have c2 := i1.cellAt q (by omega)
          rw [lvRow_get _ _ _ (by omega), show upd (wayF n R (s + 1)) s x q = y by rw [← hy]; simp [upd, wayF, show q ≠ s by omega]; omega] at c2
          have f1 := i1.frozenAt s
          have hqN : (q : Int) < N := by omega
          have hsN' : (s : Int) < N := by omega
          have HS := Lib.hid hsum; have HQ := Lib.hid hq; have HX := Lib.hid hx; have HY := Lib.hid hy
          clear hq hx hy hsum hterm
          refine wpIn_cond_true rfl ?_
          refine wpIn_region_still_tail 13 (by kernel_rfl) (by kernel_rfl) (by kernel_rfl) (by rintro ⟨_, _, h⟩; exact h) ?_
          simp only [List.take_succ_cons, List.take_zero, List.drop_succ_cons, List.drop_zero]
          repeat still_step
          refine wpStill_nil ?_
          go_wp2
          have hTs : Turn (· = w.heap.size + 1) V ((V.setCell ⟨w.heap.size + 1, s, none⟩ (.int .i64 ((x : Int) + y))).drew.drew) := (Turn.set1 V (w.heap.size + 1) s _).drew.drew
          refine ⟨hTs.mono (fun b' _ e => by omega), ?_, hTs.heap i2 (by omega), i3.trans hTs, i4.keepC hMl hTs (fun b' h => .inr (.inr ?_))⟩
          · have h := own_store (w := V) i1 s (.int .i64 ((x + y : Nat) : Int))
            rw [lvRow_set] at h
            have e : upd (upd (wayF n R (s + 1)) s x) s (x + y) = upd (wayF n R (s + 1)) s ((pre ++ [i]).map (term n R s)).sum := by
              rw [HS.out]; funext j; unfold upd; split <;> rfl
            rw [← e]; exact own_ext h ((Turn.refl _ _).drew.drew)
          · subst h
            rcases i1.2 with ⟨e, _⟩ | ⟨g', cap, cur, e, _, hg', _⟩
            · cases e
            · cases e; exact ⟨_, hg', rfl⟩
      case done =>
        rintro V ⟨i1, i2, i3, i4⟩ ht hD'
        have hDlt : W1.heap.size < V.heap.size := (Array.getElem?_eq_some_iff.1 hD').1
        have cDW := Lib.hid cD
        clear cD
        have cD := cell_of_one i2
        have fD := free_of_one i2
        clear c0 c4
        go_wp2
        have hE5 : Ext V (V.alloc (.cells #[.int .i64 ((s : Int) - 1)] 3)) := (Turn.refl _ V).alloc _
        have hn5 : (V.alloc (.cells #[.int .i64 ((s : Int) - 1)] 3)).heap[V.heap.size]? = some (.cells #[.int .i64 ((s : Int) - 1)] 3 (0, 0)) := new_at rfl
        refine ⟨⟨s, V.heap.size, (s : Int) - 1, _, by omega, by omega, rfl, ⟨rfl, rfl, rfl, rfl, rfl, rfl, rfl⟩,
          Marks.keepC (Marks.cons i4 (by omega) hD' (fun e he ht => by have := hMl e he _ ht; omega)) (N := V.heap.size) ?_ hE5 (fun _ h => h.elim), by omega, hn5, ?_, i3.after hE5 (fun _ _ h => h.elim)⟩, ?_⟩
        · intro e he r hr
          rcases List.mem_cons.1 he with rfl | he
          · simp at hr; omega
          · have := hMl e he r hr; omega
        · rw [← way_done (by omega) hsN, HN.out]
          exact own_ext i1 hE5
        · rw [boxMeasure_eq (D := D) (z := s) rfl cDW.out, boxMeasure_eq (D := V.heap.size) (z := (s : Int) - 1) rfl (cell_of_one hn5)]
          omega
      case stop => exact fun _ _ _ _ _ _ h => h.elim
end Go.Proofs.YtnnnbmkhgcpjoaaDoor
