/- pats.relation: then, or, power. -/
import Derived.Test.YtapfoaiibjdfnaaDoorRelMem
namespace Go.Proofs.YtapfoaiibjdfnaaDoor
open Go.RowKit Go.Ab
attribute [local go_sem] Oper.semAt_some wide_fn wide_depth

/-- What out holds, ahead of the row k. -/
def thenF (X Y : Bin2) (k : Nat) : Nat → Nat := fun a => if a < k then rowM (comp X Y) a else 0
def thenG (X Y : Bin2) (k : Nat) (pre : List Nat) : Nat → Nat := fun a => if a = k then partB Y pre else thenF X Y k a
theorem thenG_nil (X Y : Bin2) (k : Nat) : thenG X Y k [] = thenF X Y k := by
  funext a; unfold thenG thenF
  by_cases h : a = k
  · subst h; simp [partB_nil]
  · rw [if_neg h]
theorem thenG_all (X Y : Bin2) (k : Nat) : thenG X Y k (evs (rowM X k)) = thenF X Y (k + 1) := by
  funext a; unfold thenG thenF
  by_cases h : a = k
  · subst h; rw [if_pos rfl, if_pos (by omega), evs_rowM, partB_all]
  · rw [if_neg h]
    by_cases h2 : a < k
    · rw [if_pos h2, if_pos (by omega)]
    · rw [if_neg h2, if_neg (by omega)]
theorem thenG_snoc (X Y : Bin2) (k : Nat) (pre : List Nat) (b : Nat) : (fun i => if i = k then partB Y pre ||| rowM Y b else thenG X Y k pre i) = thenG X Y k (pre ++ [b]) := by
  funext a; unfold thenG
  by_cases h : a = k
  · subst h; rw [if_pos rfl, if_pos rfl, partB_snoc]
  · rw [if_neg h, if_neg h, if_neg h]
theorem rowM_lt (X : Bin2) (a : Nat) : rowM X a < 8589934592 := by
  have := mask_lt 33 (X a); simpa [rowM] using this
theorem partB_lt (Y : Bin2) (pre : List Nat) : partB Y pre < 8589934592 := by
  have := mask_lt 33 (fun c => pre.any fun b => Y b c); simpa [partB] using this

set_option maxRecDepth 100000 in
set_option maxHeartbeats 8000000 in
theorem then_any {w : World} {bx by' : Nat} {X Y : Bin2} (hx : RowsAt w bx (rowM X)) (hy : RowsAt w by' (rowM Y)) (hT : Tab w) :
    Calls Tryd.prog 111 #[.pointer (some ⟨bx, 0, none⟩), .pointer (some ⟨by', 0, none⟩)] w fun e w' => e = .returned (.agg (rowArr (rowM (comp X Y)))) ∧ Ext w w' := by
  have z1 := zero_rel
  have z2 := relArr_size noB
  have z3 := relArr_ne noB
  have hb0 : 0 < w.heap.size := by have := hx.lt; omega
  refine calls_of_wp_marks Tryd.func111 rfl ?_
  simp only [Tryd.ntmps111, List.size_toArray, List.length_cons, List.length_nil, Nat.reduceAdd, Nat.reduceSub, Array.replicate_succ, Array.replicate_zero, List.push_toArray, List.append_toArray, List.nil_append, List.cons_append]
  go_wp2
  clear z1 z2 z3
  obtain ⟨B, hB⟩ : ∃ B, w.heap.size = B := ⟨_, rfl⟩
  have hp : (((w.alloc (.cells #[.pointer (some ⟨by', 0, none⟩)] 135)).alloc (.cells (relArr noB) 68)).alloc (.cells (relArr noB) 68)).heap[B]? = some (.cells #[.pointer (some ⟨by', 0, none⟩)] 135 (0, 0)) := by
    subst hB; exact new_keep (new_keep (new_at rfl))
  have hr : RowsAt (((w.alloc (.cells #[.pointer (some ⟨by', 0, none⟩)] 135)).alloc (.cells (relArr noB) 68)).alloc (.cells (relArr noB) 68)) (B + 1) (fun _ => 0) := by
    subst hB
    refine (new_keep (new_at (by simp))).trans ?_
    rw [rowArr_rel, rowArr_congr fun a _ => rowM_no a]
  have hv : RowsAt (((w.alloc (.cells #[.pointer (some ⟨by', 0, none⟩)] 135)).alloc (.cells (relArr noB) 68)).alloc (.cells (relArr noB) 68)) (B + 1 + 1) (thenF X Y 0) := by
    subst hB
    refine (new_at (by simp)).trans ?_
    rw [rowArr_rel, rowArr_congr (g := thenF X Y 0) fun a _ => by rw [rowM_no]; simp [thenF]]
  have hE : Ext w (((w.alloc (.cells #[.pointer (some ⟨by', 0, none⟩)] 135)).alloc (.cells (relArr noB) 68)).alloc (.cells (relArr noB) 68)) := (((Turn.refl _ w).alloc _).alloc _).alloc _
  generalize (((w.alloc (.cells #[.pointer (some ⟨by', 0, none⟩)] 135)).alloc (.cells (relArr noB) 68)).alloc (.cells (relArr noB) 68)) = w1 at hp hr hv hE ⊢
  have hxl := hx.lt
  have hyl := hy.lt
  rw [hB] at hxl hyl ⊢
  have HB := Lib.hid hB
  have hT0 := hT
  clear hB
  refine wp_loop (fun a W => ∃ (k : Nat) (ds : List Deferred), k ≤ 33 ∧ a.defers = ds ∧ (a.tmps.size = 31 ∧ a.tmps.getD 0 undef = .pointer (some ⟨bx, 0, none⟩) ∧ a.tmps.getD 3 undef = .pointer (some ⟨B, 0, none⟩) ∧ a.tmps.getD 4 undef = .pointer (some ⟨B + 1, 0, none⟩) ∧ a.tmps.getD 5 undef = .pointer (some ⟨B + 1 + 1, 0, none⟩) ∧ a.tmps.getD 9 undef = .pointer (some ⟨bx, 0, none⟩) ∧ a.tmps.getD 10 undef = .int .i64 k) ∧ Marks B ds W ∧
      W.heap[B]? = some (.cells #[.pointer (some ⟨by', 0, none⟩)] 135 (0, 0)) ∧ RowsAt W (B + 1) (fun _ => 0) ∧ RowsAt W (B + 1 + 1) (thenF X Y k) ∧ Ext w W)
    (fun a _ => 33 - (intOf (a.tmps.getD 10 undef)).toNat) ?_ ?_
  · exact ⟨0, [], by omega, rfl, ⟨rfl, rfl, rfl, rfl, rfl, rfl, rfl⟩, trivial, hp, hr, hv, hE⟩
  clear hp hr hv hE
  rintro ⟨t, ds⟩ W ⟨k, dz, hk, hds, ⟨hsz, f0, f3, f4, f5, f9, f10⟩, hM, hp, hr, hv, hE⟩
  subst hds
  obtain ⟨u', hu⟩ := frame_fun hsz
  obtain ⟨u, rfl⟩ : ∃ x, x = u' := ⟨_, rfl⟩
  have hu' : t = #[u 0, u 1, u 2, u 3, u 4, u 5, u 6, u 7, u 8, u 9, u 10, u 11, u 12, u 13, u 14, u 15, u 16, u 17, u 18, u 19, u 20, u 21, u 22, u 23, u 24, u 25, u 26, u 27, u 28, u 29, u 30] := hu
  clear hu
  subst hu'
  change u 0 = _ at f0
  change u 3 = _ at f3
  change u 4 = _ at f4
  change u 5 = _ at f5
  change u 9 = _ at f9
  change u 10 = _ at f10
  rw [f0, f3, f4, f5, f9, f10]
  clear f0 f3 f4 f5 f9 f10 hsz
  have hxW := hx.keep hE id
  have hyW := hy.keep hE id
  have hTW := hT0.keep hE id
  have hvl := hv.lt
  by_cases hk2 : k < 33
  · have h1 : (k : Int) < 33 := by omega
    have c1 := hxW.cell hk2
    have HS : Hid (∀ D, Ext W D → D.cell? ⟨bx, k, none⟩ = some (.int .u64 (rowM X k))) := Lib.hid fun D hD => hD.cell_some c1 id
    have hml := rowM_lt X k
    have hMl := hM.lt
    go_wp2
    go_region_held3 (fun w' => w'.cell? ⟨bx, k, none⟩ = some (.int .u64 (rowM X k)))
      ((refine HS.out _ ?_; repeat' (first | exact Turn.refl _ _ | refine Turn.drew ?_ | refine Turn.alloc ?_ _ | refine Turn.setCell ?_ (.inl (by simp)) _))) (first | fail)
    go_wp2_with (go_at_call 50; refine (all_any _ _).mono ?_; rintro e w' ⟨rfl, rfl⟩)
    have hb1 : SBox (((W.alloc (.cells #[.int .i64 k] 3)).alloc (.cells #[.int .u64 (rowM X k)] 66)).drew) (W.heap.size + 1) (rowM X k) := drew_keep (new_at (by simp))
    have hE1 : Ext W (((W.alloc (.cells #[.int .i64 k] 3)).alloc (.cells #[.int .u64 (rowM X k)] 66)).drew) := (((Turn.refl _ _).alloc _).alloc _).drew
    have hk1 : (((W.alloc (.cells #[.int .i64 k] 3)).alloc (.cells #[.int .u64 (rowM X k)] 66)).drew).heap[W.heap.size]? = some (.cells #[.int .i64 k] 3 (0, 0)) := drew_keep (new_keep (new_at rfl))
    have hs1 : (((W.alloc (.cells #[.int .i64 k] 3)).alloc (.cells #[.int .u64 (rowM X k)] 66)).drew).heap.size = W.heap.size + 2 := by simp
    generalize (((W.alloc (.cells #[.int .i64 k] 3)).alloc (.cells #[.int .u64 (rowM X k)] 66)).drew) = W1 at hb1 hE1 hk1 hs1 ⊢
    rw [← thenG_nil] at hv
    clear HS c1
    refine wp_range (xs := evs (rowM X k)) (S := (· = W.heap.size + 1)) (K := fun b' => b' = W.heap.size + 1 ∨ b' = 0) rfl (enters_of Tryd.func71 (by kernel_rfl) rfl)
      (all_iter _ (by omega) (W.heap.size + 1) (by omega) W1 hb1 (hTW.keep hE1 id)) (fun _ h => .inl h) (fun b' h => by omega) (fun _ => rfl)
      (fun pre V => RowsAt V (B + 1 + 1) (thenG X Y k pre) ∧ V.heap[B]? = some (.cells #[.pointer (some ⟨by', 0, none⟩)] 135 (0, 0)) ∧ RowsAt V (B + 1) (fun _ => 0) ∧ V.heap[W.heap.size]? = some (.cells #[.int .i64 k] 3 (0, 0)) ∧ Ext w V ∧ Marks B ds V)
      (fun _ _ _ => False) ?hI ?hIx ?h0 (fun i t => (t.setIfInBounds 18 (.int .i64 i)).setIfInBounds 8 (.int .i64 i)) ?assign ?body ?done ?stop
    case hI =>
      rintro pre P Q ⟨i1, i2, i3, i4, i5, i6⟩ ht
      exact ⟨i1.keep ht (by omega), ht.heap i2 (by omega), i3.keep ht (by omega), ht.heap i4 (by omega), i5.after ht (fun b' h1 h2 => by have := HB.out; omega), i6.keepC hMl ht (fun b' h => .inl (by omega))⟩
    case hIx => exact fun _ _ _ _ h _ => h
    case h0 =>
      intro V hV _
      have hEV : Ext W V := hE1.trans hV
      exact ⟨hv.keep hEV id, hEV.heap hp id, hr.keep hEV id, hV.heap hk1 id, hE.trans hEV, hM.keepC hMl hEV (fun _ h => h.elim)⟩
    case assign =>
      intro i V K hK
      gi_wp2
      exact hK
    case body =>
      rintro pre i rest V hx' hsz ht ⟨i1, i2, i3, i4, i5, i6⟩
      simp only [List.setIfInBounds_toArray, List.set_cons_zero, List.set_cons_succ]
      have hi33 : i < 33 := by
        have : i ∈ evs (rowM X k) := by rw [hx']; simp
        rw [evs_rowM] at this
        exact List.mem_range.1 (List.mem_filter.1 this).1
      have hi1 : (i : Int) < 33 := by omega
      have hyV := hy.keep i5 id
      have cK := cell_of_one i4
      have cP := cell_of_one i2
      have cO := i1.cell (a := k) hk2
      have fO := i1.free k
      have cY := hyV.cell hi33
      have e1 : thenG X Y k pre k = partB Y pre := by unfold thenG; rw [if_pos rfl]
      rw [e1] at cO
      have hpl := partB_lt Y pre
      have hyl2 := rowM_lt Y i
      have oA := u64_or_nat (partB Y pre) (rowM Y i) (by omega) (by omega)
      have hst := i1.store k (partB Y pre ||| rowM Y i)
      rw [thenG_snoc] at hst
      have hTs := Turn.set1 V (B + 1 + 1) k (.int .u64 ((partB Y pre ||| rowM Y i : Nat) : Int))
      have hfin : Turn (fun b' => ¬ ((b' = W.heap.size + 1 ∨ b' = 0) ∨ b' = W1.heap.size ∨ b' = W1.heap.size + 1)) V ((V.setCell ⟨B + 1 + 1, k, none⟩ (.int .u64 ((partB Y pre ||| rowM Y i : Nat) : Int))).drew) :=
        (hTs.mono (fun b' _ e => by omega)).drew
      have hI2 : RowsAt ((V.setCell ⟨B + 1 + 1, k, none⟩ (.int .u64 ((partB Y pre ||| rowM Y i : Nat) : Int))).drew) (B + 1 + 1) (thenG X Y k (pre ++ [i])) ∧ ((V.setCell ⟨B + 1 + 1, k, none⟩ (.int .u64 ((partB Y pre ||| rowM Y i : Nat) : Int))).drew).heap[B]? = some (.cells #[.pointer (some ⟨by', 0, none⟩)] 135 (0, 0)) ∧ RowsAt ((V.setCell ⟨B + 1 + 1, k, none⟩ (.int .u64 ((partB Y pre ||| rowM Y i : Nat) : Int))).drew) (B + 1) (fun _ => 0) ∧ ((V.setCell ⟨B + 1 + 1, k, none⟩ (.int .u64 ((partB Y pre ||| rowM Y i : Nat) : Int))).drew).heap[W.heap.size]? = some (.cells #[.int .i64 k] 3 (0, 0)) ∧ Ext w ((V.setCell ⟨B + 1 + 1, k, none⟩ (.int .u64 ((partB Y pre ||| rowM Y i : Nat) : Int))).drew) ∧ Marks B ds ((V.setCell ⟨B + 1 + 1, k, none⟩ (.int .u64 ((partB Y pre ||| rowM Y i : Nat) : Int))).drew) :=
        ⟨hst, hTs.drew.heap i2 (by omega), i3.keep hTs.drew (by omega), hTs.drew.heap i4 (by omega), i5.after hTs.drew (fun b' h1 h2 => by have := HB.out; omega), i6.keepC hMl hTs.drew (fun b' h => .inr (.inr ⟨_, by subst h; exact i1, rfl⟩))⟩
      have HF := Lib.hid hfin; have HI2 := Lib.hid hI2; have HX := Lib.hid hx'; have HE1 := Lib.hid e1
      clear hfin hI2 hx' e1 hst hTs i1 i2 i3 i4 i5 i6 hyV hE1 hE hM hv hr hp hxW hyW ht
      gi_wp2
      refine wpIn_region_still_tail 9 (by kernel_rfl) (by kernel_rfl) (by kernel_rfl) (by rintro ⟨_, _, h⟩; exact h) ?_
      simp only [List.take_succ_cons, List.take_zero, List.drop_succ_cons, List.drop_zero]
      repeat still_step
      refine wpStill_nil ?_
      go_wp2
      exact ⟨HF.out, HI2.out⟩
    case done =>
      rintro V ⟨i1, i2, i3, i4, i5, i6⟩ ht hD
      rw [thenG_all] at i1
      have hDlt : W1.heap.size < V.heap.size := (Array.getElem?_eq_some_iff.1 hD).1
      clear hE1 hE hM hv hr hp hxW hyW
      go_wp2
      exact ⟨⟨k + 1, _, by omega, rfl, ⟨rfl, rfl, rfl, rfl, rfl, rfl, rfl⟩, Marks.cons i6 (by omega) hD (fun e he ht => by have := hMl e he _ ht; omega), i2, i3, i1, i5⟩, by simp [intOf]; omega⟩
    case stop => exact fun _ _ _ _ _ _ h => h.elim
  · obtain rfl : k = 33 := by omega
    have h1 : ¬ (((33 : Nat) : Int) < 33) := by omega
    have e1 : rowArr (thenF X Y 33) = rowArr (rowM (comp X Y)) := rowArr_congr fun a ha => by unfold thenF; rw [if_pos ha]
    have hrow := RowsAt.row (g := rowM (comp X Y)) hr
    have hTs := Turn.setRow W (B + 1) (rowArr (rowM (comp X Y)))
    have hE2 : Ext w (W.setRow (B + 1) (rowArr (rowM (comp X Y)))) := hE.after hTs (fun b' h1 h2 => by have := HB.out; omega)
    have hM2 : Marks B ds (W.setRow (B + 1) (rowArr (rowM (comp X Y)))) := hM.keep hTs (fun b hb o ho => by
      subst hb; have : W.heap[B + 1]? = _ := hr; rw [this] at ho; cases ho; rfl)
    have hv' : RowsAt W (B + 1 + 1) (rowM (comp X Y)) := by unfold RowsAt; rw [← e1]; exact hv
    have HM2 := Lib.hid hM2; have HE2 := Lib.hid hE2; have HROW := Lib.hid hrow
    clear hM2 hE2 hrow hTs e1 hv
    go_wp2_with (first
      | (refine wpList_load_row rfl 68 (.tmp 5) rfl (B + 1 + 1) rfl _ _ _ _ hv' Tryd.underlying68 rfl (Tryd.relInfo _) ?_)
      | (refine wpList_store_row rfl 68 (.tmp 4) (.tmp 30) rfl (B + 1) (rowArr (rowM (comp X Y))) rfl rfl _ _ hr (Tryd.relInfo _) (by rw [rowArr_size, rowArr_size]) (rowArr_one _) ?_))
    refine leavesM (v := .agg (rowArr (rowM (comp X Y)))) _ _ HM2.out (fun w' ht hs => ⟨rel_result rfl rfl (HROW.out.keep ht (Shut.not HROW.out rfl)), rfl, HE2.out.after ht (fun b' h2 h3 => by have := h3.1; have := HB.out; omega)⟩)
end Go.Proofs.YtapfoaiibjdfnaaDoor
