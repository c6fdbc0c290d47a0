/- slices.Collect over a set; pats.Ends. -/
import Derived.Test.YtapfoaiibjdfnaaDoorBegins
namespace Go.Proofs.YtapfoaiibjdfnaaDoor
open Go.RowKit Go.Ab
attribute [local go_sem] Oper.semAt_some wide_fn wide_depth

set_option maxRecDepth 100000 in
set_option maxHeartbeats 8000000 in
theorem append_seq {w : World} {bx v : Nat} (hv : v < 18446744073709551616) (hbx : bx ≠ 0) (hb : SBox w bx v) (hT : Tab w) (hl : (evs v).length ≤ 64) :
    Calls Tryd.prog 70 #[.slice none 0 0, .func (.func 71) #[] #[.pointer (some ⟨bx, 0, none⟩)]] w fun e w' => ∃ u, e = .returned u ∧ w'.ownsRow w.heap.size 3 1 u (evs v).length (natV (evs v)) ∧ Turn (· = bx) w w' := by
  refine calls_of_wp_marks Tryd.func70 rfl ?_
  simp only [Tryd.ntmps70, List.size_toArray, List.length_cons, List.length_nil, Nat.reduceAdd, Nat.reduceSub, Array.replicate_succ, Array.replicate_zero, List.push_toArray, List.append_toArray, List.nil_append, List.cons_append]
  go_wp2
  obtain ⟨B, hB⟩ : ∃ B, w.heap.size = B := ⟨_, rfl⟩
  have hbl : bx < B := by rw [← hB]; exact (Array.getElem?_eq_some_iff.1 hb).1
  have htl : 0 < B := by rw [← hB]; exact tab_lt hT
  have hL1 : (w.alloc (.cells #[.slice none 0 0] 30)).heap[B]? = some (.cells #[.slice none 0 0] 30 (0, 0)) := new_at hB.symm
  have hE1 : Ext w (w.alloc (.cells #[.slice none 0 0] 30)) := (Turn.refl _ w).alloc _
  have hs1 : (w.alloc (.cells #[.slice none 0 0] 30)).heap.size = B + 1 := by rw [← hB]; simp
  generalize (w.alloc (.cells #[.slice none 0 0] 30)) = w1 at hL1 hE1 hs1 ⊢
  have hb1 : SBox w1 bx v := hE1.keep hb
  have hT1 := hT.keep hE1 id
  rw [hB]
  have HB := Lib.hid hB
  clear hB
  refine wp_range (xs := evs v) (S := (· = bx)) (K := fun b' => b' = bx ∨ b' = 0) rfl (enters_of Tryd.func71 (by kernel_rfl) rfl)
    (all_iter _ hv bx hbx w1 hb1 hT1) (fun _ h => .inl h) (fun b' h => by omega) (fun _ => rfl)
    (fun pre V => ∃ u, V.heap[B]? = some (.cells #[u] 30 (0, 0)) ∧ V.ownsRow B 3 1 u pre.length (natV pre) ∧ (∀ g, u.ownBlock = some g → g ≠ B ∧ g ≠ B + 1 ∧ g ≠ B + 2) ∧ Turn (· = bx) w V)
    (fun _ _ _ => False) ?hI ?hIx ?h0 (fun i t => (t.setIfInBounds 7 (.int .i64 i)).setIfInBounds 5 (.int .i64 i)) ?assign ?body ?done ?stop
  case hI =>
    rintro pre P Q ⟨u, i1, i2, i3, i4⟩ ht0
    have ht : Turn (fun b => b = bx ∨ b = B + 2) P Q := ht0.mono (fun b _ h => by omega)
    exact ⟨u, ht.heap i1 (by omega), own_keep i2 ht (fun b hb e => by have := i3 b hb; have := (i2.lt _ hb).1; omega), i3, i4.after ht (fun b' h1 h2 => by have := HB.out; omega)⟩
  case hIx => exact fun _ _ _ _ h _ => h
  case h0 =>
    intro V hV _
    exact ⟨.slice none 0 0, hV.keep hL1, World.ownsRow_nil _ _ _ _, (fun g hg => by cases hg), Ext.of (Turn.trans hE1 hV)⟩
  case assign =>
    intro i V K hK
    gi_wp2
    exact hK
  case body =>
    rintro pre i rest V hx hsz ht ⟨u, i1, i2, i3, i4⟩
    simp only [List.setIfInBounds_toArray, List.set_cons_zero, List.set_cons_succ]
    have hpl : pre.length < 64 := by
      have := congrArg List.length hx
      simp at this
      omega
    have cL := cell_of_one i1
    have fL := free_of_one i1
    have hBV : B < V.heap.size := (Array.getElem?_eq_some_iff.1 i1).1
    have hX := Lib.hid hx
    clear hx
    refine wpIn_block ?_
    refine wpIn_region_plain (by kernel_rfl) (by rintro ⟨_, _, h⟩; exact h) ?_
    have I1 := Lib.hid i1
    clear i1
    go_wp2_with (at_builtin; refine append_row rfl (.tmp 8) (.tmp 10) 30 rfl B 3 _ 1 8 Tryd.underlying30 Tryd.infoI rfl (by decide) _ _ _ rfl (own_ext i2 ((Turn.refl _ V).alloc _)) ⟨V.heap.size, 0, none⟩ 1 1 [.int .i64 i] rfl rfl (new_cells' rfl) ?c2 ?c3 ?c4 ?c5 ?_)
    case c2 => first | rfl | (intro u hu; simp at hu; rcases hu with rfl; rfl)
    case c3 => unfold maxLen; omega
    case c4 => omega
    case c5 => simp; omega
    intro ao' c' w5 hO5 hT5 hB5
    have hT6 : Turn (fun b' => u.ownBlock = some b') V w5 := Turn.trans (Turn.alloc (Turn.refl _ V) _) hT5
    have hL5 := hT6.heap I1.out (fun e => (i3 _ e).1 rfl)
    have hE5 : Turn (· = bx) w w5 := i4.after hT6 (fun b' h1 e => by have := (i2.lt _ e).1; have := HB.out; omega)
    have hg5 : ∀ g, (Value.slice ao' (pre.length + 1) c').ownBlock = some g → g ≠ B ∧ g ≠ B + 1 ∧ g ≠ B + 2 := by
      intro g hg
      rcases hB5 with e | e
      · exact i3 g (e ▸ hg)
      · rw [hg] at e; cases e; omega
    have cL5 := cell_of_one hL5
    have fL5 := free_of_one hL5
    have hT7 := Turn.set1 w5 B 0 (.slice ao' (pre.length + 1) c')
    have hL7 : (w5.setCell ⟨B, 0, none⟩ (.slice ao' (pre.length + 1) c')).heap[B]? = some (.cells #[.slice ao' (pre.length + 1) c'] 30 (0, 0)) := by
      simp only [World.setCell, Array.getElem?_modify, hL5]
      simp
    have hKV : Turn (fun b => ¬ ((b = bx ∨ b = 0) ∨ b = B + 1 ∨ b = B + 1 + 1)) V (w5.setCell ⟨B, 0, none⟩ (.slice ao' (pre.length + 1) c')) :=
      (hT6.mono (fun b' _ e => by have := i3 _ e; have := (i2.lt _ e).1; omega)).trans (hT7.mono (fun b' _ e => by omega))
    have hfin : ∃ u, (w5.setCell ⟨B, 0, none⟩ (.slice ao' (pre.length + 1) c')).heap[B]? = some (.cells #[u] 30 (0, 0)) ∧ (w5.setCell ⟨B, 0, none⟩ (.slice ao' (pre.length + 1) c')).ownsRow B 3 1 u (pre ++ [i]).length (natV (pre ++ [i])) ∧ (∀ g, u.ownBlock = some g → g ≠ B ∧ g ≠ B + 1 ∧ g ≠ B + 2) ∧ Turn (· = bx) w (w5.setCell ⟨B, 0, none⟩ (.slice ao' (pre.length + 1) c')) := by
      refine ⟨_, hL7, ?_, hg5, hE5.after hT7 (fun b h1 h2 => by have := HB.out; omega)⟩
      rw [natV_append, List.length_append]
      exact own_keep hO5 hT7 (fun b hb e => (hg5 b hb).1 e)
    have HKV := Lib.hid hKV; have HFIN := Lib.hid hfin
    clear hKV hfin hL7 hT7 hg5 hE5 hT6 hT5 hO5 hB5 cL fL i2 i3 i4 ht
    go_wp2
    exact ⟨HKV.out, HFIN.out⟩
  case done =>
    rintro V ⟨u, i1, i2, i3, i4⟩ ht hD
    have cL := cell_of_one i1
    clear hE1 hb1 hT1 hL1
    go_wp2
    have hm : Marks B ({ target := .collected w1.heap.size, args := #[] } :: []) V := Marks.cons (base := B) trivial (by omega) hD (fun e he => by cases he)
    refine bodyPostM_ret hm (fun w' => results_tmp rfl _ _ _) (fun w' ht' hs => ⟨u, rfl, ?_, ?_⟩)
    · rw [HB.out]
      exact own_keep i2 ht' (fun b hb e => by obtain ⟨cur, hc⟩ := own_block_ty i2 hb; exact Shut.not hc rfl e)
    · exact i4.after ht' (fun b' h2 h3 => by have := h3.1; have := HB.out; omega)
  case stop => exact fun _ _ _ _ _ _ h => h.elim
end Go.Proofs.YtapfoaiibjdfnaaDoor
