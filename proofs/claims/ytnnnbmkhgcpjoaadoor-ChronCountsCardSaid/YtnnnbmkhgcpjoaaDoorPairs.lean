/- chron.Order.Pairs, Reduced. -/
import Derived.Test.YtnnnbmkhgcpjoaaDoorOrd
import Derived.Test.YtnnnbmkhgcpjoaaDoorSame
namespace Go.Proofs.YtnnnbmkhgcpjoaaDoor
open Go.RowKit Go.Ab
attribute [local go_sem] Oper.semAt_some wide_fn wide_depth

/-- The relations of the first k events. -/
def pairsL (k : Nat) (af : Nat → Nat) : List (Int × Int) := (List.range k).flatMap fun a => (evs (af a)).map fun (b : Nat) => ((a : Int), (b : Int))
theorem pairsL_succ (k : Nat) (af : Nat → Nat) : pairsL (k + 1) af = pairsL k af ++ (evs (af k)).map fun (b : Nat) => ((k : Int), (b : Int)) := by
  simp [pairsL, List.range_succ]
theorem pairsL_length (k : Nat) (af : Nat → Nat) : (pairsL k af).length ≤ k * 64 := by
  induction k with
  | zero => simp [pairsL]
  | succ k ih =>
    rw [pairsL_succ, List.length_append, List.length_map]
    have := evs_length (af k)
    omega

theorem Tryd.infoPair : (Tryd.prog.info? 33).map (fun i => (i.zero, i.size, i.bytes)) = some (some (.agg #[.int .i64 0, .int .i64 0]), 2, 16) := by kernel_rfl

set_option maxHeartbeats 4000000 in
theorem pairs_any (b : Nat) (mk : Bool) (n : Nat) (bf af : Nat → Nat) (w : World) (ho : Ord w b mk n bf af) (hf : Fits n bf af) (hT : Tab w) :
    Calls Tryd.prog 28 #[.pointer (some ⟨b, 0, none⟩)] w fun e w' => ∃ v, e = .returned v ∧ Ext w w' ∧ w'.ownsRow w.heap.size 33 2 v (pairsL n af).length (prs (pairsL n af)) := by
  have hlt := ho.lt
  have hn64 := hf.1
  have hb0 : 0 < w.heap.size := by omega
  refine calls_of_wp_marks Tryd.func28 rfl ?_
  simp only [Tryd.ntmps28, List.size_toArray, List.length_cons, List.length_nil, Nat.reduceAdd, Nat.reduceSub, Array.replicate_succ, Array.replicate_zero, List.push_toArray, List.append_toArray, List.nil_append, List.cons_append]
  have hE0 : Ext w (w.alloc (.cells #[.slice none 0 0] 22)) := (Turn.refl _ _).alloc _
  have ho1 := ho.keep hE0 id
  go_wp2_with (go_at_call 37; refine (len_any b n _ ho1.n).mono ?_; rintro e w' ⟨rfl, rfl⟩)
  refine wp_loop (fun a W => ∃ (k : Nat) (ds : List Deferred) (v u1 u4 u5 u6 u9 u10 u11 u12 u13 u14 u15 u16 u17 u18 u19 u20 u21 u22 u23 u24 u25 u26 : Value), k ≤ n ∧ a = { tmps := #[.pointer (some ⟨b, 0, none⟩), u1, .slice none 0 0, .pointer (some ⟨w.heap.size, 0, none⟩), u4, u5, u6, .int .i64 n, .int .i64 k, u9, u10, u11, u12, u13, u14, u15, u16, u17, u18, u19, u20, u21, u22, u23, u24, u25, u26], defers := ds } ∧ Marks w.heap.size ds W ∧
      W.heap[w.heap.size]? = some (.cells #[v] 22 (0, 0)) ∧ W.ownsRow (w.heap.size + 1) 33 2 v (pairsL k af).length (prs (pairsL k af)) ∧ Ext w W)
    (fun a _ => n - (intOf (a.tmps.getD 8 undef)).toNat) ?_ ?_
  · exact ⟨0, [], .slice none 0 0, _, _, _, _, _, _, _, _, _, _, _, _, _, _, _, _, _, _, _, _, _, _, Nat.zero_le _, rfl, trivial, new_at rfl, World.ownsRow_nil _ _ _ _, hE0⟩
  · rintro _ W ⟨k, ds, v, u1, u4, u5, u6, u9, u10, u11, u12, u13, u14, u15, u16, u17, u18, u19, u20, u21, u22, u23, u24, u25, u26, hk, rfl, hM, hB, hO, hE⟩
    by_cases hlt2 : k < n
    · have hoW := ho.keep hE id
      have hk64 : (k : Int) < 64 := by omega
      have cA := hoW.af k (by omega)
      have hltW := hoW.lt
      have hT' : Tab W := hT.keep hE id
      have hBlt := (Array.getElem?_eq_some_iff.1 hB).1
      have hol := hO.lt
      have hMl := hM.lt
      have hpl := pairsL_length k af
      have hel := evs_length (af k)
      go_wp2
      refine region_still 6 (by kernel_rfl) (by kernel_rfl) ?_
      simp only [List.take_succ_cons, List.take_zero, List.drop_succ_cons, List.drop_zero]
      repeat still_step
      refine wpStill_nil ?_
      go_wp2_with (go_at_call 39; refine (events_any _ _).mono ?_; rintro e w' ⟨rfl, rfl⟩)
      have hb1 : SetBox (((W.alloc (.cells #[.int .i64 k] 3)).alloc (.cells #[.int .u64 (af k)] 55)).drew) (W.heap.size + 1) (af k) := drew_keep (new_at (by simp))
      have hE1 : Ext W (((W.alloc (.cells #[.int .i64 k] 3)).alloc (.cells #[.int .u64 (af k)] 55)).drew) := (((Turn.refl _ _).alloc _).alloc _).drew
      have hk1 : (((W.alloc (.cells #[.int .i64 k] 3)).alloc (.cells #[.int .u64 (af k)] 55)).drew).heap[W.heap.size]? = some (.cells #[.int .i64 k] 3 (0, 0)) := drew_keep (new_keep (new_at rfl))
      have hs1 : (((W.alloc (.cells #[.int .i64 k] 3)).alloc (.cells #[.int .u64 (af k)] 55)).drew).heap.size = W.heap.size + 2 := by simp
      generalize (((W.alloc (.cells #[.int .i64 k] 3)).alloc (.cells #[.int .u64 (af k)] 55)).drew) = W1 at hb1 hE1 hk1 hs1 ⊢
      refine wp_range (xs := evs (af k)) (S := (· = W.heap.size + 1)) (K := fun b' => b' = W.heap.size + 1 ∨ b' = 0) rfl (enters_of Tryd.func47 (by kernel_rfl) rfl)
        (events_iter _ (hf.2.2 k) (W.heap.size + 1) (by omega) W1 hb1 (hT'.keep hE1 id)) (fun _ h => .inl h) (fun b' h => by omega) (fun _ => rfl)
        (fun pre V => ∃ v, V.heap[w.heap.size]? = some (.cells #[v] 22 (0, 0)) ∧ V.ownsRow (w.heap.size + 1) 33 2 v ((pairsL k af).length + pre.length) (prs (pairsL k af) ++ prs (pre.map fun (x : Nat) => ((k : Int), (x : Int)))) ∧ (∀ g, v.ownBlock = some g → g < W.heap.size ∨ W.heap.size + 4 ≤ g) ∧ V.heap[W.heap.size]? = some (.cells #[.int .i64 k] 3 (0, 0)) ∧ Ext w V ∧ Marks w.heap.size ds V)
        (fun _ _ _ => False) ?hI ?hIx ?h0 (fun i t => (t.setIfInBounds 18 (.int .i64 i)).setIfInBounds 5 (.int .i64 i)) ?assign ?body ?done ?stop
      case hI =>
        rintro pre A B ⟨v, i1, i2, i3, i4, i5, i6⟩ ht
        refine ⟨v, ht.heap i1 (by omega), own_keep i2 ht (fun g hg => by have := i3 g hg; omega), i3, ht.heap i4 (by omega), i5.after ht (fun b' h1 h2 => by omega), i6.keepC hMl ht (fun b' h => .inl (by omega))⟩
      case hIx => exact fun _ _ _ _ h _ => h
      case h0 =>
        intro V hV _
        have hEV : Ext W V := hE1.trans hV
        exact ⟨v, hEV.heap hB id, by simpa [prs] using own_ext hO hEV, fun g hg => .inl (hol g hg).2, hV.heap hk1 id, hE.trans hEV, hM.keepC hMl hEV (fun _ h => h.elim)⟩
      case assign =>
        intro i V K hK
        gi_wp2
        exact hK
      case body =>
        rintro pre i rest V hx' hsz ht ⟨v, i1, i2, i3, i4, i5, i6⟩
        simp only [List.setIfInBounds_toArray, List.set_cons_zero, List.set_cons_succ]
        have cK := cell_of_one i4
        have cV := cell_of_one i1
        have fV := free_of_one i1
        have hpre : pre.length + 1 ≤ 64 := by rw [hx'] at hel; simp at hel; omega
        have hVlt : w.heap.size < V.heap.size := by omega
        have HX := Lib.hid hx'
        clear hx'
        refine wpIn_block ?_
        refine wpIn_region_plain (by kernel_rfl) (by rintro ⟨_, _, h⟩; exact h) ?_
        go_wp2_with (at_builtin; refine append_row rfl (.tmp 19) (.tmp 23) 22 rfl (w.heap.size + 1) 33 _ 2 16 Tryd.underlying22 Tryd.infoPair rfl (by decide) _ _ _ rfl (i2.alloc _) ⟨V.heap.size, 0, none⟩ 1 1 [.int .i64 k, .int .i64 i] rfl rfl new_cells ?c2 ?c3 ?c4 ?c5 ?_)
        case c2 => intro u hu; simp at hu; rcases hu with rfl | rfl <;> rfl
        case c3 => unfold maxLen; omega
        case c4 => omega
        case c5 => simp; omega
        intro ao c' V2 hown' hT2 hnb
        have hV2 : V2.heap[w.heap.size]? = some (.cells #[v] 22 (0, 0)) := hT2.heap (new_keep i1) (fun e => by have := (i2.lt _ e).1; omega)
        have hKV : V2.heap[W.heap.size]? = some (.cells #[.int .i64 k] 3 (0, 0)) := hT2.heap (new_keep i4) (fun e => by have := i3 _ e; omega)
        have cV2 := cell_of_one hV2
        have fV2 := free_of_one hV2
        have hTV : Turn (fun b => v.ownBlock = some b) V V2 := Turn.trans ((Turn.refl _ V).alloc _) hT2
        have hsV : V.heap.size + 1 ≤ V2.heap.size := by have := hT2.size; simpa using this
        clear hT2 cV fV cK
        go_wp2
        have hT3 : Turn (fun b' => ¬ ((b' = W.heap.size + 1 ∨ b' = 0) ∨ b' = W.heap.size + 2 ∨ b' = W.heap.size + 2 + 1)) V (V2.setCell ⟨w.heap.size, 0, none⟩ (.slice ao ((pairsL k af).length + pre.length + 1) c')) :=
          (hTV.mono (fun b' _ e => by have := (i2.lt _ e).1; have := i3 _ e; omega)).setCell (p := ⟨w.heap.size, 0, none⟩) (.inr (show ¬ _ by dsimp only; omega)) _
        refine ⟨hT3, _, one_setCell hV2, ?_, ?_, set_keep hKV (by dsimp only; omega), ?_, ?_⟩
        · refine own_keep (S := (· = w.heap.size)) (A := V2) ?_ (Turn.set1 V2 _ 0 _) (fun g hg e => by have := (hown'.lt _ hg).1; omega)
          simpa [prs, Nat.add_assoc] using hown'
        · intro g hg
          rcases hnb with e | e
          · rw [e] at hg; exact i3 g hg
          · rw [hg] at e; simp at e; omega
        · exact Turn.setCell (Turn.after i5 hTV (fun b' h1 e => by have := (i2.lt _ e).1; omega)) (.inl (Nat.le_refl _)) _
        · refine i6.keepC hMl ((hTV.mono (T := fun b' => v.ownBlock = some b' ∨ b' = w.heap.size) (fun b' _ e => .inl e)).setCell (p := ⟨w.heap.size, 0, none⟩) (.inr (.inr rfl)) _) (fun b' h => ?_)
          rcases h with h | h
          · rcases i2.2 with ⟨e, _⟩ | ⟨g, cap, cur, e, _, hg, _⟩
            · rw [e] at h; simp [Value.ownBlock] at h
            · rw [e] at h; simp [Value.ownBlock] at h; subst h; exact .inr (.inr ⟨_, hg, rfl⟩)
          · subst h; exact .inr (.inr ⟨_, i1, rfl⟩)
      case done =>
        rintro V ⟨v, i1, i2, i3, i4, i5, i6⟩ ht hD
        have hDlt : W1.heap.size < V.heap.size := (Array.getElem?_eq_some_iff.1 hD).1
        go_wp2
        refine ⟨⟨k + 1, _, v, _, _, _, _, _, _, _, _, _, _, _, _, _, _, _, _, _, _, _, _, _, _, by omega, rfl, Marks.cons i6 (by omega) hD (fun e he ht => by have := hMl e he _ ht; omega), i1, ?_, i5⟩, by simp [intOf]; omega⟩
        rw [pairsL_succ, prs_append, List.length_append, List.length_map]
        exact i2
      case stop => exact fun _ _ _ _ _ _ h => h.elim
    · have cB := cell_of_one hB
      go_wp2
      refine bodyPostM_ret hM (fun w' => results_tmp rfl _ _ _) ?_
      intro w' h1 _
      have hkn : k = n := by omega
      subst hkn
      exact ⟨_, rfl, hE.after h1 (fun b' h2 h3 => by have := h3.1; omega), own_base (own_turn hO h1 (fun g o hg ho => Shut.not hg ho)) (by omega)⟩
end Go.Proofs.YtnnnbmkhgcpjoaaDoor
