/- pats.relation: or, power. -/
import Derived.Test.YtapfoaiibjdfnaaDoorThen
namespace Go.Proofs.YtapfoaiibjdfnaaDoor
open Go.RowKit Go.Ab

/-- x, the rows below k joined with those of y. -/
def orF (X Y : Bin2) (k : Nat) : Nat → Nat := fun a => if a < k then rowM (orB X Y) a else rowM X a
theorem orF_step (X Y : Bin2) (k : Nat) : (fun i => if i = k then rowM X k ||| rowM Y k else orF X Y k i) = orF X Y (k + 1) := by
  funext a; unfold orF
  by_cases h : a = k
  · subst h; rw [if_pos rfl, if_pos (by omega), rowM_or]
  · rw [if_neg h]
    by_cases h2 : a < k
    · rw [if_pos h2, if_pos (by omega)]
    · rw [if_neg h2, if_neg (by omega)]

set_option maxRecDepth 100000 in
set_option maxHeartbeats 8000000 in
theorem or_any {w : World} {bx by' : Nat} {X Y : Bin2} (hx : RowsAt w bx (rowM X)) (hy : RowsAt w by' (rowM Y)) (hne : bx ≠ by') :
    Calls Tryd.prog 108 #[.pointer (some ⟨bx, 0, none⟩), .pointer (some ⟨by', 0, none⟩)] w fun e w' => (∃ v, e = .returned v) ∧ Turn (· = bx) w w' ∧ RowsAt w' bx (rowM (orB X Y)) := by
  go_enter Tryd.func108, Tryd.ntmps108
  go_wp2
  have hx0 : RowsAt w bx (orF X Y 0) := by
    have : orF X Y 0 = rowM X := by funext a; simp [orF]
    rw [this]; exact hx
  refine wp_loop (fun a W => ∃ (k : Nat), k ≤ 33 ∧ a.defers = [] ∧ (a.tmps.size = 23 ∧ a.tmps.getD 0 undef = .pointer (some ⟨bx, 0, none⟩) ∧ a.tmps.getD 6 undef = .pointer (some ⟨by', 0, none⟩) ∧ a.tmps.getD 7 undef = .int .i64 k) ∧ RowsAt W bx (orF X Y k) ∧ Turn (· = bx) w W)
    (fun a _ => 33 - (intOf (a.tmps.getD 7 undef)).toNat) ?_ ?_
  · exact ⟨0, by omega, rfl, ⟨rfl, rfl, rfl, rfl⟩, hx0, Turn.refl _ _⟩
  clear hx0
  rintro ⟨t, _⟩ W ⟨k, hk, hds, ⟨hsz, f0, f6, f7⟩, hv, hE⟩
  subst hds
  obtain ⟨u', hu⟩ := frame_fun hsz
  obtain ⟨u, rfl⟩ : ∃ x, x = u' := ⟨_, rfl⟩
  have hu' : t = #[u 0, u 1, u 2, u 3, u 4, u 5, u 6, u 7, u 8, u 9, u 10, u 11, u 12, u 13, u 14, u 15, u 16, u 17, u 18, u 19, u 20, u 21, u 22] := hu
  clear hu
  subst hu'
  change u 0 = _ at f0
  change u 6 = _ at f6
  change u 7 = _ at f7
  rw [f0, f6, f7]
  clear f0 f6 f7 hsz
  have hyW := hy.keep hE (fun h => hne h.symm)
  by_cases hk2 : k < 33
  · have h1 : (k : Int) < 33 := by omega
    have c1 := hyW.cell hk2
    have c2 := hv.cell hk2
    have f2 := hv.free k
    have e1 : orF X Y k k = rowM X k := by unfold orF; rw [if_neg (by omega)]
    rw [e1] at c2
    have l1 := rowM_lt X k
    have l2 := rowM_lt Y k
    have oA := u64_or_nat (rowM X k) (rowM Y k) (by omega) (by omega)
    have hst := hv.store k (rowM X k ||| rowM Y k)
    rw [orF_step] at hst
    have hTs : ∀ m, Turn (· = bx) w ((W.drewN m).setCell ⟨bx, k, none⟩ (.int .u64 ((rowM X k ||| rowM Y k : Nat) : Int))) := fun m => (hE.drewN m).setCell (p := ⟨bx, k, none⟩) (.inr rfl) _
    have HST := Lib.hid hst; have HTS := Lib.hid hTs; have HE1 := Lib.hid e1
    clear hst hTs e1 hv hE hyW
    go_wp2
    go_quiet (fail)
    go_wp2
    refine region_still 9 (by kernel_rfl) (by kernel_rfl) ?_
    simp only [List.take_succ_cons, List.take_zero, List.drop_succ_cons, List.drop_zero]
    repeat still_step
    refine wpStill_nil ?_
    go_wp2
    exact ⟨⟨k + 1, by omega, by first | rfl | trivial, ⟨rfl, rfl, rfl, rfl⟩, HST.out, HTS.out _⟩, by simp [intOf]; omega⟩
  · obtain rfl : k = 33 := by omega
    have h1 : ¬ (((33 : Nat) : Int) < 33) := by omega
    have hv' : RowsAt W bx (rowM (orB X Y)) := by
      have e1 : rowArr (orF X Y 33) = rowArr (rowM (orB X Y)) := rowArr_congr fun a ha => by unfold orF; rw [if_pos ha]
      unfold RowsAt; rw [← e1]; exact hv
    have HV := Lib.hid hv'
    clear hv hv'
    go_wp2
    go_end0
    exact ⟨⟨_, rfl⟩, hE, HV.out⟩

theorem i64_and1 (k : Nat) (hk : k < 9223372036854775808) : (bits .and .i64 (k : Int) 1 == 1) = decide (k % 2 = 1) := by
  have e : bits .and .i64 (k : Int) 1 = ((k % 2 : Nat) : Int) := by
    show IntKind.i64.wrap ((BitVec.ofInt 64 (k : Int) &&& BitVec.ofInt 64 ((1 : Nat) : Int)).toNat : Int) = _
    rw [BitVec.toNat_and, ofInt_u64 _ (by omega), ofInt_u64 1 (by omega), Nat.and_one_is_mod]
    exact IntWalk.i64_in _ (by omega)
  rw [e]
  rcases Nat.mod_two_eq_zero_or_one k with h | h <;> simp [h]

set_option maxRecDepth 100000 in
set_option maxHeartbeats 8000000 in
theorem power_any {n : Nat} (hn : n ≤ 32) {X : Bin2} (hX : Mono n X) (k : Nat) (hk : k ≤ 64) (w : World) (hT : Tab w) :
    Calls Tryd.prog 104 #[.agg (rowArr (rowM X)), .int .i64 k, .int .i64 n] w fun e w' => e = .returned (.agg (rowArr (rowM (powB X n k)))) ∧ Ext w w' := by
  have z1 := zero_rel
  have z2 := relArr_size noB
  have z3 := relArr_ne noB
  have z4 := rowArr_size (rowM X)
  go_enter Tryd.func104, Tryd.ntmps104
  go_wp2_with fail
  clear z4
  obtain ⟨B, hB⟩ : ∃ B, w.heap.size = B := ⟨_, rfl⟩
  have hx : RowsAt ((w.alloc (.cells (rowArr (rowM X)) 68)).alloc (.cells (relArr noB) 68)) B (rowM X) := by
    subst hB; exact new_keep (new_at rfl)
  have hr : RowsAt ((w.alloc (.cells (rowArr (rowM X)) 68)).alloc (.cells (relArr noB) 68)) (B + 1) (fun _ => 0) := by
    subst hB
    refine (new_at (by simp)).trans ?_
    rw [rowArr_rel, rowArr_congr fun a _ => rowM_no a]
  have hE : Ext w ((w.alloc (.cells (rowArr (rowM X)) 68)).alloc (.cells (relArr noB) 68)) := ((Turn.refl _ w).alloc _).alloc _
  generalize ((w.alloc (.cells (rowArr (rowM X)) 68)).alloc (.cells (relArr noB) 68)) = w1 at hx hr hE ⊢
  rw [hB]
  have HB := Lib.hid hB
  clear hB
  refine (identity_any n hn w1).mono ?_
  rintro e w2 ⟨rfl, hE2⟩
  have hx2 := hx.keep hE2 id
  have hr2 := hr.keep hE2 id
  have hE02 := hE.trans hE2
  have hO0 : (w2.alloc (.cells (relArr noB) 68)).heap[w2.heap.size]? = some (.cells (relArr noB) 68 (0, 0)) := new_at rfl
  go_wp2_with (refine wpList_store_row rfl 68 (.tmp 7) (.tmp 9) rfl w2.heap.size (rowArr (rowM (idB n))) rfl rfl _ _ hO0 (Tryd.relInfo _) (by rw [relArr_size, rowArr_size]) (rowArr_one _) ?_)
  obtain ⟨O, hO⟩ : ∃ O, w2.heap.size = O := ⟨_, rfl⟩
  have hO1 : RowsAt ((w2.alloc (.cells (relArr noB) 68)).setRow w2.heap.size (rowArr (rowM (idB n)))) w2.heap.size (rowM (idB n)) := setRow_heap _ _ _ _ _ _ hO0
  have hE3 : Ext w2 ((w2.alloc (.cells (relArr noB) 68)).setRow w2.heap.size (rowArr (rowM (idB n)))) := ((Turn.refl _ w2).alloc _).after (Turn.setRow _ _ _) (fun b' h1 h2 => by omega)
  have hl2 := hr2.lt
  generalize ((w2.alloc (.cells (relArr noB) 68)).setRow w2.heap.size (rowArr (rowM (idB n)))) = w3 at hO1 hE3 ⊢
  rw [hO] at hO1 hl2 ⊢
  have hx3 := hx2.keep hE3 id
  have hr3 := hr2.keep hE3 id
  have hE03 := hE02.trans hE3
  have hT3 := hT.keep hE03 id
  have hBg : 0 < B := by
    have := hT 0 (by decide)
    rw [← HB.out]
    apply Nat.lt_of_not_le; intro h
    simp [World.cell?, Array.getElem?_eq_none h] at this
  clear hx hr hE hE2 hx2 hr2 hE02 hO0 hE3 hO z1 z2 z3
  refine wp_loop (fun a W => ∃ (j : Nat) (Y out : Bin2), j ≤ 64 ∧ a.defers = [] ∧ (a.tmps.size = 20 ∧ a.tmps.getD 1 undef = .int .i64 j ∧ a.tmps.getD 3 undef = .pointer (some ⟨B, 0, none⟩) ∧ a.tmps.getD 6 undef = .pointer (some ⟨B + 1, 0, none⟩) ∧ a.tmps.getD 7 undef = .pointer (some ⟨O, 0, none⟩)) ∧
      (Mono n Y ∧ Mono n out ∧ comp out (powB Y n j) = powB X n k) ∧ RowsAt W B (rowM Y) ∧ RowsAt W (B + 1) (fun _ => 0) ∧ RowsAt W O (rowM out) ∧ Ext w W)
    (fun a _ => (intOf (a.tmps.getD 1 undef)).toNat) ?_ ?_
  · exact ⟨k, X, idB n, hk, rfl, ⟨rfl, rfl, rfl, rfl, rfl⟩, ⟨hX, Mono.id n, id_comp hn (Mono.pow hX k)⟩, hx3, hr3, hO1, hE03⟩
  clear hx3 hr3 hO1 hE03 hT3
  rintro ⟨t, _⟩ W ⟨j, Y, out, hj, hds, ⟨hsz, f1, f3, f6, f7⟩, hpl, hY, hr, hO, hE⟩
  subst hds
  obtain ⟨u', hu⟩ := frame_fun hsz
  obtain ⟨u, rfl⟩ : ∃ x, x = u' := ⟨_, rfl⟩
  have hu' : t = #[u 0, u 1, u 2, u 3, u 4, u 5, u 6, u 7, u 8, u 9, u 10, u 11, u 12, u 13, u 14, u 15, u 16, u 17, u 18, u 19] := hu
  clear hu
  subst hu'
  change u 1 = _ at f1
  change u 3 = _ at f3
  change u 6 = _ at f6
  change u 7 = _ at f7
  rw [f1, f3, f6, f7]
  clear f1 f3 f6 f7 hsz
  obtain ⟨hmY, hmo, hpw⟩ := hpl
  have hTW := hT.keep hE id
  have hNB : Turn (fun b => b = B ∨ b = O) W W := Turn.refl _ _
  have hwl : w.heap.size ≤ O ∧ w.heap.size ≤ B := by have := HB.out; omega
  have HWL := Lib.hid hwl
  clear hwl
  by_cases hj0 : j = 0
  · subst hj0
    rw [show powB Y n 0 = idB n from rfl, comp_id hn hmo] at hpw
    subst hpw
    have hrow := RowsAt.row (g := rowM (powB X n k)) hr
    have hE2 : Ext w (W.setRow (B + 1) (rowArr (rowM (powB X n k)))) := hE.after (Turn.setRow W (B + 1) _) (fun b' h1 h2 => by have := HB.out; omega)
    go_wp2_with (first
      | (refine wpList_load_row rfl 68 (.tmp 7) rfl O rfl _ _ _ _ hO Tryd.underlying68 rfl (Tryd.relInfo _) ?_)
      | (refine wpList_store_row rfl 68 (.tmp 6) (.tmp 19) rfl (B + 1) (rowArr (rowM (powB X n k))) rfl rfl _ _ hr (Tryd.relInfo _) (by rw [rowArr_size, rowArr_size]) (rowArr_one _) ?_))
    exact bodyPost_ret (v := .agg (rowArr (rowM (powB X n k)))) (rel_result rfl rfl hrow) rfl ⟨rfl, hE2⟩
  · have hj1 : (0 : Int) < (j : Int) := by omega
    have hj2 : (j : Int) ≤ 64 := by omega
    have hbit := i64_and1 j (by omega)
    have HPW := Lib.hid hpw
    clear hpw
    by_cases h1 : j % 2 = 1
    · rw [decide_eq_true h1] at hbit
      have H1 := Lib.hid h1
      clear h1
      go_wp2_with fail
      refine (then_any hO hY hTW).mono ?_
      rintro e W2 ⟨rfl, hE2⟩
      have hO2 := hO.keep hE2 id
      go_wp2_with (refine wpList_store_row rfl 68 (.tmp 7) (.tmp 17) rfl O (rowArr (rowM (comp out Y))) rfl rfl _ _ hO2 (Tryd.relInfo _) (by rw [rowArr_size, rowArr_size]) (rowArr_one _) ?_)
      have hTs := Turn.setRow W2 O (rowArr (rowM (comp out Y)))
      have hO3 := RowsAt.row (g := rowM (comp out Y)) hO2
      have hY3 := (hY.keep hE2 id).keep hTs (by omega)
      have hr3 := (hr.keep hE2 id).keep hTs (by omega)
      have hE3 := (hE.trans hE2).after hTs (fun b' h1 h2 => by have := HWL.out.1; omega)
      generalize (W2.setRow O (rowArr (rowM (comp out Y)))) = W3 at hO3 hY3 hr3 hE3 ⊢
      have hT3 := hT.keep hE3 id
      clear hTs hO2 hE2 hO hY hr hE hTW hNB
      go_wp2_with fail
      refine (then_any hY3 hY3 hT3).mono ?_
      rintro e W4 ⟨rfl, hE4⟩
      have hY4 := hY3.keep hE4 id
      go_wp2_with (refine wpList_store_row rfl 68 (.tmp 3) (.tmp 18) rfl B (rowArr (rowM (comp Y Y))) rfl rfl _ _ hY4 (Tryd.relInfo _) (by rw [rowArr_size, rowArr_size]) (rowArr_one _) ?_)
      have hTs := Turn.setRow W4 B (rowArr (rowM (comp Y Y)))
      have hY5 := RowsAt.row (g := rowM (comp Y Y)) hY4
      have hO5 := (hO3.keep hE4 id).keep hTs (by omega)
      have hr5 := (hr3.keep hE4 id).keep hTs (by omega)
      have hE5 := (hE3.trans hE4).after hTs (fun b' h1 h2 => by have := HWL.out.2; omega)
      generalize (W4.setRow B (rowArr (rowM (comp Y Y)))) = W5 at hY5 hO5 hr5 hE5 ⊢
      clear hTs hY4 hE4 hY3 hr3 hE3 hO3
      have hp2 : comp (comp out Y) (powB (comp Y Y) n (j / 2)) = powB X n k := by
        rw [pow_two hn hmY, comp_assoc, ← HPW.out]
        congr 1
        have : j = 2 * (j / 2) + 1 := by have := H1.out; omega
        rw [show powB Y n j = powB Y n (2 * (j / 2) + 1) from congrArg _ this]; rfl
      have HP2 := Lib.hid hp2
      clear hp2
      go_wp2
      exact ⟨⟨j / 2, comp Y Y, comp out Y, by omega, by first | rfl | trivial, ⟨rfl, rfl, rfl, rfl, rfl⟩, ⟨hmY.comp hmY, hmo.comp hmY, HP2.out⟩, hY5, hr5, hO5, hE5⟩, by simp [intOf]; omega⟩
    · rw [decide_eq_false h1] at hbit
      have H1 := Lib.hid h1
      clear h1
      go_wp2_with fail
      refine (then_any hY hY hTW).mono ?_
      rintro e W4 ⟨rfl, hE4⟩
      have hY4 := hY.keep hE4 id
      go_wp2_with (refine wpList_store_row rfl 68 (.tmp 3) (.tmp 18) rfl B (rowArr (rowM (comp Y Y))) rfl rfl _ _ hY4 (Tryd.relInfo _) (by rw [rowArr_size, rowArr_size]) (rowArr_one _) ?_)
      have hTs := Turn.setRow W4 B (rowArr (rowM (comp Y Y)))
      have hY5 := RowsAt.row (g := rowM (comp Y Y)) hY4
      have hO5 := (hO.keep hE4 id).keep hTs (by omega)
      have hr5 := (hr.keep hE4 id).keep hTs (by omega)
      have hE5 := (hE.trans hE4).after hTs (fun b' h1 h2 => by have := HWL.out.2; omega)
      generalize (W4.setRow B (rowArr (rowM (comp Y Y)))) = W5 at hY5 hO5 hr5 hE5 ⊢
      clear hTs hY4 hE4 hY hr hE hO
      have hp2 : comp out (powB (comp Y Y) n (j / 2)) = powB X n k := by
        rw [pow_two hn hmY, ← HPW.out]
        congr 2
        have := H1.out; omega
      have HP2 := Lib.hid hp2
      clear hp2
      go_wp2
      exact ⟨⟨j / 2, comp Y Y, out, by omega, by first | rfl | trivial, ⟨rfl, rfl, rfl, rfl, rfl⟩, ⟨hmY.comp hmY, hmo, HP2.out⟩, hY5, hr5, hO5, hE5⟩, by simp [intOf]; omega⟩
end Go.Proofs.YtapfoaiibjdfnaaDoor
