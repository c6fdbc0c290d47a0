/- chron.Order.Levels. -/
import Derived.Test.YtnnnbmkhgcpjoaaDoorFirst
namespace Go.Proofs.YtnnnbmkhgcpjoaaDoor
open Go.RowKit Go.Ab
attribute [local go_sem] Oper.semAt_some wide_fn wide_depth

/-- The level of b, those before it having theirs. -/
def levAt (n : Nat) (R : Nat → Nat → Bool) (lv : Nat → Nat) (b : Nat) (l : List Nat) : Nat := l.foldl (fun m a => max m (lv a + 1)) (lv b)
def levStep (n : Nat) (R : Nat → Nat → Bool) (lv : Nat → Nat) (b : Nat) : Nat → Nat := upd lv b (levAt n R lv b ((List.range n).filter fun a => R a b))
/-- The levels, event by event in the order l. -/
def levF (n : Nat) (R : Nat → Nat → Bool) (l : List Nat) : Nat → Nat := l.foldl (levStep n R) (fun _ => 0)
def levelsL (n : Nat) (R : Nat → Nat → Bool) : List Nat := (List.range n).map (levF n R (firstL n R))

theorem levAt_le {n : Nat} {R : Nat → Nat → Bool} {lv : Nat → Nat} {m : Nat} (h : ∀ x, lv x ≤ m) (b : Nat) (l : List Nat) : levAt n R lv b l ≤ m + 1 := by
  have aux : ∀ (l : List Nat) (i : Nat), i ≤ m + 1 → l.foldl (fun m a => max m (lv a + 1)) i ≤ m + 1 := by
    intro l
    induction l with
    | nil => intro i hi; exact hi
    | cons a l ih =>
      intro i hi
      have := h a
      exact ih _ (Nat.max_le.2 ⟨hi, by omega⟩)
  exact aux l _ (by have := h b; omega)
theorem levF_le {n : Nat} {R : Nat → Nat → Bool} : ∀ (l : List Nat), ∀ x, levF n R l x ≤ l.length := by
  intro l
  have aux : ∀ (l : List Nat) (f : Nat → Nat) (m : Nat), (∀ x, f x ≤ m) → ∀ x, l.foldl (levStep n R) f x ≤ m + l.length := by
    intro l
    induction l with
    | nil => intro f m h x; exact h x
    | cons b l ih =>
      intro f m h x
      have := ih (levStep n R f b) (m + 1) (fun y => by
        unfold levStep upd
        split
        · exact levAt_le h b _
        · have := h y; omega) x
      simp only [List.foldl_cons, List.length_cons]
      omega
  intro x
  have := aux l (fun _ => 0) 0 (fun _ => Nat.le_refl _) x
  simpa [levF] using this

/-- The row of the levels. -/
def lvRow (n : Nat) (lv : Nat → Nat) : List Value := ints (zs ((List.range n).map lv))
theorem lvRow_length (n : Nat) (lv : Nat → Nat) : (lvRow n lv).length = n := by simp [lvRow, ints, zs]
theorem lvRow_get (n : Nat) (lv : Nat → Nat) (i : Nat) (h : i < n) : (lvRow n lv)[i]? = some (.int .i64 (lv i)) := by simp [lvRow, ints, zs, h]
theorem lvRow_zero (n : Nat) : List.replicate n (Value.int .i64 0) = lvRow n (fun _ => 0) := by
  apply List.ext_getElem?
  intro i
  by_cases h : i < n <;> simp [lvRow, ints, zs, h]
theorem lvRow_set (n : Nat) (lv : Nat → Nat) (b v : Nat) : (lvRow n lv).set b (.int .i64 v) = lvRow n (upd lv b v) := by
  have := map_set lv b v (fun (x : Nat) => Value.int .i64 x) n
  simpa [lvRow, ints, zs, List.map_map, Function.comp_def] using this

theorem firstGo_lt {n : Nat} {R : Nat → Nat → Bool} : ∀ (k : Nat) (l : List Nat), (∀ x ∈ l, x < n) → ∀ x ∈ firstGo n R k l, x < n
  | 0, l, h => h
  | k + 1, l, h => by
    unfold firstGo
    split
    · rename_i y hy
      refine firstGo_lt k _ fun x hx => ?_
      rcases List.mem_append.1 hx with hx | hx
      · exact h x hx
      · rw [List.mem_singleton.1 hx]; exact (nextR_spec hy).1
    · exact h
theorem firstL_lt {n : Nat} {R : Nat → Nat → Bool} (_h : Rel n R) : ∀ x ∈ firstL n R, x < n := firstGo_lt n [] (by simp)

set_option maxHeartbeats 8000000 in
theorem levels_any (b n : Nat) (R : Nat → Nat → Bool) (hn : n ≤ 64) (hR : Rel n R) (w : World) (ho : OrdR w b n R) (hT : Tab w) :
    Calls Tryd.prog 29 #[.pointer (some ⟨b, 0, none⟩)] w fun e w' => ∃ v, e = .returned v ∧ Ext w w' ∧ w'.ownsRow w.heap.size 3 1 v n (lvRow n (levF n R (firstL n R))) := by
  have hlt := ho.lt
  have hb0 : 0 < w.heap.size := by omega
  refine calls_of_wp_marks Tryd.func29 rfl ?_
  simp only [Tryd.ntmps29, List.size_toArray, List.length_cons, List.length_nil, Nat.reduceAdd, Nat.reduceSub, Array.replicate_succ, Array.replicate_zero, List.push_toArray, List.append_toArray, List.nil_append, List.cons_append]
  go_wp2_with (first | (go_at_call 37; refine (len_any b n _ ho.n).mono ?_; rintro e w' ⟨rfl, rfl⟩) | (at_make; refine make_row1 rfl (.tmp 8) (.tmp 8) 23 rfl w.heap.size 3 _ 8 Tryd.underlying23 Tryd.infoInt rfl .i64 .i64 n n n rfl rfl rfl rfl ?c1 ?c2 (Nat.le_refl _) ?_))
  case c1 => omega
  case c2 => unfold maxLen; omega
  rw [lvRow_zero]
  intro w1 hO1 hE1
  have ho1 := ho.keep hE1 id
  have hlt1 := ho1.lt
  go_wp2_with fail
  refine (first_any b n R hn hR _ (ho1.keep ((Turn.refl (fun _ => False) w1).alloc _) id)).mono ?_
  rintro e w2 ⟨vf, rfl, hE2, hOf, hlf⟩
  obtain ⟨_, _, af, cf, rfl, hRf⟩ := Rd.of_own hOf
  have hbox : w2.heap[w1.heap.size]? = some (.cells #[.slice (some ⟨w.heap.size, 0, none⟩) n n] 23 (0, 0)) := hE2.heap (new_at rfl) id
  have hE12 : Ext w1 w2 := ((Turn.refl _ w1).alloc _).trans hE2
  have hO2 := own_ext hO1 hE12
  have hE02 := hE1.trans hE12
  have hs1 := hE1.size
  have hgf : ∀ g, (Value.slice af (firstL n R).length cf).ownBlock = some g → w1.heap.size < g := fun g hg => by have := (hOf.lt g hg).1; simp at this; omega
  have hw1lt : w.heap.size < w1.heap.size := (hO1.lt _ rfl).2
  clear hO1 hE2 hOf
  go_wp2
  refine wp_loop (fun a W => ∃ (k : Nat) (ds : List Deferred) (u1 u4 u5 u6 u7 u8 u9 u10 u14 u15 u16 u17 u18 u19 u20 u21 u22 u23 u24 u25 u26 u27 u28 u29 u30 u31 u32 u33 u34 u35 u36 u37 u38 u39 : Value), k ≤ n ∧ a = { tmps := #[.pointer (some ⟨b, 0, none⟩), u1, .slice none 0 0, .pointer (some ⟨w1.heap.size, 0, none⟩), u4, u5, u6, u7, u8, u9, u10, .slice af n cf, .int .i64 n, .int .i64 k, u14, u15, u16, u17, u18, u19, u20, u21, u22, u23, u24, u25, u26, u27, u28, u29, u30, u31, u32, u33, u34, u35, u36, u37, u38, u39], defers := ds } ∧ Marks w.heap.size ds W ∧
      W.ownsRow w.heap.size 3 1 (.slice (some ⟨w.heap.size, 0, none⟩) n n) n (lvRow n (levF n R ((firstL n R).take k))) ∧ Turn (· = w.heap.size) w2 W)
    (fun a _ => n - (intOf (a.tmps.getD 13 undef)).toNat) ?_ ?_
  · exact ⟨0, [], _, _, _, _, _, _, _, _, _, _, _, _, _, _, _, _, _, _, _, _, _, _, _, _, _, _, _, _, _, _, _, _, _, _, Nat.zero_le _, rfl, trivial, hO2, Turn.refl _ _⟩
  · rintro _ W ⟨k, ds, u1, u4, u5, u6, u7, u8, u9, u10, u14, u15, u16, u17, u18, u19, u20, u21, u22, u23, u24, u25, u26, u27, u28, u29, u30, u31, u32, u33, u34, u35, u36, u37, u38, u39, hk, rfl, hM, hO, ht2⟩
    have hw2 := hE12.size
    have hol : w.heap.size < W.heap.size := (hO.lt _ rfl).2
    by_cases hlt2 : k < n
    · have hkf : k < (firstL n R).length := by omega
      obtain ⟨g, off, rfl, hg, hc⟩ := hRf (by omega)
      have hgw := hgf g rfl
      obtain ⟨x, hx⟩ : ∃ x, (firstL n R)[k] = x := ⟨_, rfl⟩
      have hxn : x < n := firstL_lt hR x (by rw [← hx]; exact List.getElem_mem hkf)
      have cF := ht2.cell_some (hc k (by omega)) (show ¬ g = w.heap.size by omega)
      have hgd : (ints (zs (firstL n R))).getD k undef = .int .i64 x := by
        simp [ints, zs, List.getD_eq_getElem?_getD, hkf, hx]
      rw [hgd] at cF
      have hoW := (ho1.keep hE12 id).keep ht2 (by omega)
      have hx64 : (x : Int) < 64 := by omega
      have hkl : (k : Int) < (n : Int) := by omega
      have cA := hoW.bf x (by omega)
      have hltW := hoW.lt
      have hT' : Tab W := ((hT.keep hE02 id).keep ht2 (by omega))
      have hMl := hM.lt
      have HX := Lib.hid hx
      have HL := Lib.hid hlf
      clear hx hlf hc hgd
      go_wp2
      refine region_still 6 (by kernel_rfl) (by kernel_rfl) ?_
      simp only [List.take_succ_cons, List.take_zero, List.drop_succ_cons, List.drop_zero]
      repeat still_step
      refine wpStill_nil ?_
      go_wp2_with (go_at_call 39; refine (events_any _ _).mono ?_; rintro e w' ⟨rfl, rfl⟩)
      have hb1 : SetBox (((W.alloc (.cells #[.int .i64 x] 3)).alloc (.cells #[.int .u64 (bfR n R x)] 55)).drew) (W.heap.size + 1) (bfR n R x) := drew_keep (new_at (by simp))
      have hE1 : Ext W (((W.alloc (.cells #[.int .i64 x] 3)).alloc (.cells #[.int .u64 (bfR n R x)] 55)).drew) := (((Turn.refl _ _).alloc _).alloc _).drew
      have hk1 : (((W.alloc (.cells #[.int .i64 x] 3)).alloc (.cells #[.int .u64 (bfR n R x)] 55)).drew).heap[W.heap.size]? = some (.cells #[.int .i64 x] 3 (0, 0)) := drew_keep (new_keep (new_at rfl))
      have hs1 : (((W.alloc (.cells #[.int .i64 x] 3)).alloc (.cells #[.int .u64 (bfR n R x)] 55)).drew).heap.size = W.heap.size + 2 := by simp
      generalize (((W.alloc (.cells #[.int .i64 x] 3)).alloc (.cells #[.int .u64 (bfR n R x)] 55)).drew) = W1 at hb1 hE1 hk1 hs1 ⊢
      obtain ⟨lv, hlv⟩ : ∃ lv, levF n R ((firstL n R).take k) = lv := ⟨_, rfl⟩
      have hlvle : ∀ y, lv y ≤ k := fun y => by
        rw [← hlv]; have := levF_le (n := n) (R := R) ((firstL n R).take k) y; have := List.length_take_le k (firstL n R); omega
      rw [hlv] at hO
      have HV := Lib.hid hlv
      clear hlv
      refine wp_range (xs := evs (bfR n R x)) (S := (· = W.heap.size + 1)) (K := fun b' => b' = W.heap.size + 1 ∨ b' = 0) rfl (enters_of Tryd.func47 (by kernel_rfl) rfl)
        (events_iter _ (mask_lt64 hn _) (W.heap.size + 1) (by omega) W1 hb1 (hT'.keep hE1 id)) (fun _ h => .inl h) (fun b' h => by omega) (fun _ => rfl)
        (fun pre V => V.ownsRow w.heap.size 3 1 (.slice (some ⟨w.heap.size, 0, none⟩) n n) n (lvRow n (upd lv x (levAt n R lv x pre))) ∧ V.heap[W.heap.size]? = some (.cells #[.int .i64 x] 3 (0, 0)) ∧ Turn (· = w.heap.size) w2 V ∧ Marks w.heap.size ds V)
        (fun _ _ _ => False) ?hI ?hIx ?h0 (fun i t => (t.setIfInBounds 24 (.int .i64 i)).setIfInBounds 6 (.int .i64 i)) ?assign ?body ?done ?stop
      case hI =>
        rintro pre A B ⟨i1, i2, i3, i4⟩ ht
        exact ⟨own_keep i1 ht (fun g hg => by simp [Value.ownBlock] at hg; omega), ht.heap i2 (by omega), i3.after ht (fun b' h1 h2 => by have := ht2.size; omega), i4.keepC hMl ht (fun b' h => .inl (by omega))⟩
      case hIx => exact fun _ _ _ _ h _ => h
      case h0 =>
        intro V hV _
        have hEV : Ext W V := hE1.trans hV
        refine ⟨?_, hV.heap hk1 id, ht2.after hEV (fun _ _ h => h.elim), hM.keepC hMl hEV (fun _ h => h.elim)⟩
        have : upd lv x (levAt n R lv x []) = lv := by funext y; unfold upd levAt; split <;> simp_all
        rw [this]
        exact own_ext hO hEV
      case assign =>
        intro i V K hK
        gi_wp2
        exact hK
      case body =>
        rintro pre i rest V hx' hsz ht ⟨i1, i2, i3, i4⟩
        simp only [List.setIfInBounds_toArray, List.set_cons_zero, List.set_cons_succ]
        have him := (mem_evs_mask hn (fun a => R a x) i).1 (by rw [show mask n (fun a => R a x) = bfR n R x from rfl, hx']; simp)
        have hin : (i : Int) < (n : Int) := by omega
        have hxn' : (x : Int) < (n : Int) := by omega
        have hix : i ≠ x := fun e => by rw [e, hR.irr] at him; cases him.2
        have hml : levAt n R lv x pre ≤ k + 1 := levAt_le hlvle x pre
        have hil := hlvle i
        have cK := cell_of_one i2
        have cO := cell_of_one (i3.heap hbox (by omega))
        have c1 := i1.cellAt x (by omega)
        rw [lvRow_get _ _ _ hxn, show upd lv x (levAt n R lv x pre) x = levAt n R lv x pre by simp [upd]] at c1
        have c2 := i1.cellAt i (by omega)
        rw [lvRow_get _ _ _ him.1, show upd lv x (levAt n R lv x pre) i = lv i by simp [upd, hix]] at c2
        have f1 := i1.frozenAt x
        obtain ⟨m, hm⟩ : ∃ m, levAt n R lv x pre = m := ⟨_, rfl⟩
        rw [hm] at c1 hml
        have HM := Lib.hid hm; have HXX := Lib.hid hx'
        clear hx' hm hix him
        have hfin : ∀ (aa : Act) (z : Int) (v D : Nat), W.heap.size + 2 ≤ D → z = (v : Int) → max m (lv i + 1) = v → roundQ (fun b' => (b' = W.heap.size + 1 ∨ b' = 0) ∨ b' = D ∨ b' = D + 1)
            (fun pre V => V.ownsRow w.heap.size 3 1 (.slice (some ⟨w.heap.size, 0, none⟩) n n) n (lvRow n (upd lv x (levAt n R lv x pre))) ∧ V.heap[W.heap.size]? = some (.cells #[.int .i64 x] 3 (0, 0)) ∧ Turn (· = w.heap.size) w2 V ∧ Marks w.heap.size ds V)
            (fun _ _ _ => False) (pre ++ [i]) V .normal aa ((V.drew).setCell ⟨w.heap.size, x, none⟩ (.int .i64 z)) := by
          rintro aa _ v D hDD rfl hv
          have hTs : Turn (· = w.heap.size) V ((V.drew).setCell ⟨w.heap.size, x, none⟩ (.int .i64 v)) := Turn.trans (Turn.drew (Turn.refl (· = w.heap.size) V)) (Turn.set1 V.drew w.heap.size x _)
          refine ⟨hTs.mono (fun b' _ e => by omega), ?_, hTs.heap i2 (by omega), i3.trans hTs, i4.keepC hMl hTs (fun b' h => .inr (.inr ?_))⟩
          · have := own_store (w := V.drew) i1 x (.int .i64 v)
            rw [lvRow_set] at this
            have e : upd (upd lv x (levAt n R lv x pre)) x v = upd lv x (levAt n R lv x (pre ++ [i])) := by
              funext y; unfold upd; split
              · rw [levAt, List.foldl_append]; simp only [List.foldl_cons, List.foldl_nil]; rw [← hv, ← HM.out]; rfl
              · rfl
            rw [← e]; exact this
          · subst h
            rcases i1.2 with ⟨e, _⟩ | ⟨g', cap, cur, e, _, hg', _⟩
            · cases e
            · cases e; exact ⟨_, hg', rfl⟩
        have HF := Lib.hid hfin
        have hwr : IntKind.i64.wrap ((lv i : Int) + 1) = (lv i : Int) + 1 := IntWalk.i64_in _ (by omega)
        clear hfin
        rcases Nat.lt_or_ge m (lv i + 1) with hmx | hmx
        · have hmi : (m : Int) < (lv i : Int) + 1 := by omega
          refine wpIn_block ?_
          refine wpIn_region_still_tail 13 (by kernel_rfl) (by kernel_rfl) (by kernel_rfl) (by rintro ⟨_, _, h⟩; exact h) ?_
          simp only [List.take_succ_cons, List.take_zero, List.drop_succ_cons, List.drop_zero]
          repeat still_step
          refine wpStill_nil ?_
          go_wp2
          refine HF.out _ _ (lv i + 1) _ ?_ ?_ ?_
          · omega
          · first | omega | (rw [hwr]; omega)
          · omega
        · have hmi : ¬ (m : Int) < (lv i : Int) + 1 := by omega
          refine wpIn_block ?_
          refine wpIn_region_still_tail 13 (by kernel_rfl) (by kernel_rfl) (by kernel_rfl) (by rintro ⟨_, _, h⟩; exact h) ?_
          simp only [List.take_succ_cons, List.take_zero, List.drop_succ_cons, List.drop_zero]
          repeat still_step
          refine wpStill_nil ?_
          go_wp2
          exact HF.out _ _ m _ (by omega) rfl (by omega)
      case done =>
        rintro V ⟨i1, i2, i3, i4⟩ ht hD
        have hDlt : W1.heap.size < V.heap.size := (Array.getElem?_eq_some_iff.1 hD).1
        go_wp2
        refine ⟨⟨k + 1, _, _, _, _, _, _, _, _, _, _, _, _, _, _, _, _, _, _, _, _, _, _, _, _, _, _, _, _, _, _, _, _, _, _, _, by omega, rfl, Marks.cons i4 (by omega) hD (fun e he ht => by have := hMl e he _ ht; omega), ?_, i3⟩, by simp [intOf]; omega⟩
        have e : levF n R ((firstL n R).take (k + 1)) = upd lv x (levAt n R lv x (evs (bfR n R x))) := by
          rw [List.take_succ_eq_append_getElem hkf, levF, List.foldl_append]
          simp only [List.foldl_cons, List.foldl_nil]
          rw [HX.out]
          show levStep n R (levF n R ((firstL n R).take k)) x = _
          rw [HV.out, levStep, bfR, evs_mask n hn]
        rw [e]
        exact i1
      case stop => exact fun _ _ _ _ _ _ h => h.elim
    · have cO := cell_of_one (ht2.heap hbox (by omega))
      have hkn : k = n := by omega
      have HK := Lib.hid hkn
      clear hkn
      go_wp2
      refine bodyPostM_ret hM (fun w' => results_tmp rfl _ _ _) ?_
      intro w' h1 _
      refine ⟨_, rfl, (hE02.after ht2 (fun b' h2 h3 => by omega)).after h1 (fun b' h2 h3 => by have := h3.1; omega), ?_⟩
      have := own_turn hO h1 (fun g o hg ho => Shut.not hg ho)
      rw [HK.out] at this
      rw [show (firstL n R).take n = firstL n R from List.take_of_length_le (by omega)] at this
      exact this
end Go.Proofs.YtnnnbmkhgcpjoaaDoor
