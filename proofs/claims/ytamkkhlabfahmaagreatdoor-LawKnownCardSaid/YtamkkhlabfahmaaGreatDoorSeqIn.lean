/- seq.in, alt.in, rep.in: by induction over compiled patterns. -/
import Derived.Test.YtamkkhlabfahmaaGreatDoorGa02
set_option maxRecDepth 100000
set_option maxHeartbeats 8000000
namespace Go.Proofs.YtamkkhlabfahmaaGreatDoor
open Go.RowKit Go.Ab

/-- The type, and the method, of a part. -/
def partTy : PartS → TypeId
 | .sound .. => 243
 | .edge .. => 245
 | .seq .. => 250
 | .alt .. => 247
 | .rep .. => 249
def partFn : PartS → FuncId
 | .sound .. => 248
 | .edge .. => 249
 | .seq .. => 255
 | .alt .. => 250
 | .rep .. => 252
theorem partAt_iface {K : Nat → Prop} {w : World} {p : PartS} {u : Value} (h : PartAt K w p u) : ∃ pay, u = .iface (partTy p) pay := by
 cases p <;> (unfold PartAt at h)
 ·exact ⟨_, h.1⟩
 ·exact ⟨_, h⟩
 ·obtain ⟨ao, cap, h1, _⟩ := h; exact ⟨_, h1⟩
 ·obtain ⟨ao, cap, h1, _⟩ := h; exact ⟨_, h1⟩
 ·obtain ⟨x, h1, _⟩ := h; exact ⟨_, h1⟩
theorem part_method (p : PartS) (pay : Value) (w : World) : (method 379 (partTy p) pay "ablaut/pats.in").run Tryz.prog w = .ok (partFn p, pay) w := by
 cases p <;> kernel_rfl
theorem part_call (p : PartS) (args : Array Value) (w : World) : (callFunc (partFn p) args).run Tryz.prog w = .ok (.enter (partFn p) args) w := by
 cases p
 all_goals first
  | exact enters_of Tryz.func248 (by kernel_rfl) rfl _ _
  | exact enters_of Tryz.func249 (by kernel_rfl) rfl _ _
  | exact enters_of Tryz.func255 (by kernel_rfl) rfl _ _
  | exact enters_of Tryz.func250 (by kernel_rfl) rfl _ _
  | exact enters_of Tryz.func252 (by kernel_rfl) rfl _ _

/-- The method of a part: its relation in a word. -/
def InOk (p : PartS) : Prop := ∀ (K : Nat → Prop) (w : World) (pay v : Value) (ws : Wd), PartAt K w p (.iface (partTy p) pay) → WordAt w v ws → ws.length ≤ 32 → Tab w →
 Calls Tryz.prog (partFn p) #[pay, v] w fun e w' => e = .returned (.agg (rowArr (rowM (relS ws p)))) ∧ Ext w w'

theorem tab_lt {w : World} (hT : Tab w) : 0 < w.heap.size := by
 have := hT 0 (by decide)
 apply Nat.lt_of_not_le; intro h
 simp [World.cell?, Array.getElem?_eq_none h] at this

theorem seq_ok (l : List PartS) (hl : ∀ p ∈ l, InOk p) : InOk (.seq l) := by
 intro K w pay v ws hp hv hn hT
 unfold PartAt at hp
 obtain ⟨ao, cap, hpe, hlm, hps⟩ := hp
 simp only [Value.iface.injEq] at hpe
 obtain ⟨_, rfl⟩ := hpe
 obtain ⟨bo, bcap, rfl, _⟩ := hv.slice
 unfold maxLen at hlm
 obtain ⟨n, hN⟩ : ∃ n, ws.length = n := ⟨_, rfl⟩
 have HN := Lib.hid hN
 rw [hN] at hn hv ⊢
 clear hN
 obtain ⟨M, hM⟩ : ∃ M, l.length = M := ⟨_, rfl⟩
 have HM := Lib.hid hM
 rw [hM] at hlm ⊢
 clear hM
 unfold relS
 show Calls Tryz.prog 255 _ _ _
 have z1 := zero_rel
 have z2 := relArr_size noB
 have z3 := relArr_ne noB
 have HL := Lib.hid hl; have HPS := Lib.hid hps; have HV := Lib.hid hv; have HT := Lib.hid hT
 clear hl hps hv hT
 go_enter Tryz.func255, Tryz.ntmps255
 go_wp2_with fail
 obtain ⟨B, hB⟩ : ∃ B, w.heap.size = B := ⟨_, rfl⟩
 have hx : ((w.alloc (.cells #[.slice ao M cap] 250)).alloc (.cells (relArr noB) 223)).heap[B]? = some (.cells #[.slice ao M cap] 250 (0, 0)) := by
  subst hB; exact new_keep (new_at rfl)
 have hr : RowsAt ((w.alloc (.cells #[.slice ao M cap] 250)).alloc (.cells (relArr noB) 223)) (B + 1) (fun _ => 0) := by
  subst hB
  refine (new_at (by simp)).trans ?_
  rw [rowArr_rel, rowArr_congr (g := fun _ => 0) fun a _ => rowM_no a]
 have hE : Ext w ((w.alloc (.cells #[.slice ao M cap] 250)).alloc (.cells (relArr noB) 223)) := ((Turn.refl _ w).alloc _).alloc _
 generalize ((w.alloc (.cells #[.slice ao M cap] 250)).alloc (.cells (relArr noB) 223)) = w1 at hx hr hE ⊢
 rw [hB]
 have HB := Lib.hid hB
 clear hB
 refine (identity_any n hn w1).mono ?_
 rintro e w2 ⟨rfl, hE2⟩
 have hx2 := hE2.heap hx id
 have hr2 := hr.keep hE2 id
 have hE02 := hE.trans hE2
 have hO0 : (w2.alloc (.cells (relArr noB) 223)).heap[w2.heap.size]? = some (.cells (relArr noB) 223 (0, 0)) := new_at rfl
 have x0 : ((w2.alloc (.cells (relArr noB) 223)).setRow w2.heap.size (rowArr (rowM (idB n)))).cell? ⟨B, 0, none⟩ = some (.slice ao M cap) := by
  have hlt := (Array.getElem?_eq_some_iff.1 hx2).1
  refine cell_of_one ((Turn.setRow _ w2.heap.size _).heap (new_keep hx2) (by omega))
 go_wp2_with (refine wpList_store_row rfl 223 (.tmp 5) (.tmp 11) rfl w2.heap.size (rowArr (rowM (idB n))) rfl rfl _ _ hO0 (Tryz.relInfo _) (by rw [relArr_size, rowArr_size]) (rowArr_one _) ?_)
 obtain ⟨O, hO⟩ : ∃ O, w2.heap.size = O := ⟨_, rfl⟩
 have hO1 : RowsAt ((w2.alloc (.cells (relArr noB) 223)).setRow w2.heap.size (rowArr (rowM (idB n)))) w2.heap.size (rowM (idB n)) := setRow_heap _ _ _ _ _ _ hO0
 have hE3 : Ext w2 ((w2.alloc (.cells (relArr noB) 223)).setRow w2.heap.size (rowArr (rowM (idB n)))) := ((Turn.refl _ w2).alloc _).after (Turn.setRow _ _ _) (fun b' h1 h2 => by omega)
 have hl2 := hr2.lt
 generalize ((w2.alloc (.cells (relArr noB) 223)).setRow w2.heap.size (rowArr (rowM (idB n)))) = w3 at hO1 hE3 x0 ⊢
 rw [hO] at hO1 hl2 ⊢
 have hr3 := hr2.keep hE3 id
 have hE03 := hE02.trans hE3
 clear hx hr hE hE2 hx2 hr2 hE02 hO0 hE3 hO z1 z2 z3 x0
 refine wp_loop (fun a W => ∃ (k : Nat), k ≤ M ∧ a.defers = [] ∧ (a.tmps.size = 25 ∧ a.tmps.getD 1 undef = .slice bo n bcap ∧ a.tmps.getD 4 undef = .pointer (some ⟨B + 1, 0, none⟩) ∧ a.tmps.getD 5 undef = .pointer (some ⟨O, 0, none⟩) ∧ a.tmps.getD 13 undef = .slice ao M cap ∧ a.tmps.getD 14 undef = .int .i64 M ∧ a.tmps.getD 15 undef = .int .i64 k) ∧
   RowsAt W (B + 1) (fun _ => 0) ∧ RowsAt W O (rowM (seqS ws (l.take k) (idB n))) ∧ Ext w W)
  (fun a _ => M - (intOf (a.tmps.getD 15 undef)).toNat) ?_ ?_
 ·exact ⟨0, by omega, rfl, ⟨rfl, rfl, rfl, rfl, rfl, rfl, rfl⟩, hr3, by simpa [seqS] using hO1, hE03⟩
 clear hr3 hO1 hE03
 rintro ⟨t, _⟩ W ⟨k, hk, hds, ⟨hsz, f1, f4, f5, f13, f14, f15⟩, hr, hO, hE⟩
 subst hds
 obtain ⟨u', hu⟩ := frame_fun hsz
 obtain ⟨u, rfl⟩ : ∃ x, x = u' := ⟨_, rfl⟩
 have hu' : t = #[u 0, u 1, u 2, u 3, u 4, u 5, u 6, u 7, u 8, u 9, u 10, u 11, u 12, u 13, u 14, u 15, u 16, u 17, u 18, u 19, u 20, u 21, u 22, u 23, u 24] := hu
 clear hu
 subst hu'
 change u 1 = _ at f1
 change u 4 = _ at f4
 change u 5 = _ at f5
 change u 13 = _ at f13
 change u 14 = _ at f14
 change u 15 = _ at f15
 rw [f1, f4, f5, f13, f14, f15]
 clear f1 f4 f5 f13 f14 f15 hsz
 have hBO : w.heap.size ≤ O := by have := HB.out; omega
 have HBO := Lib.hid hBO
 clear hBO
 by_cases hkM : k < M
 ·have h1 : (k : Int) < (M : Int) := by omega
  have hkl : k < l.length := by rw [HM.out]; exact hkM
  obtain ⟨g, off, u, rfl, hKg, hg, hc, hpa⟩ := (PartsAt.ext HPS.out hE).get k hkl
  rw [Nat.zero_add] at hc
  obtain ⟨pay, rfl⟩ := partAt_iface hpa
  have hok := HL.out l[k] (List.getElem_mem hkl) K W pay (.slice bo n bcap) ws hpa (HV.out.ext hE) (by rw [HN.out]; exact hn) (HT.out.keep hE id)
  have htake : l.take (k + 1) = l.take k ++ [l[k]] := List.take_succ_eq_append_getElem hkl
  have hstep := seqS_snoc ws l[k] (l.take k) (idB n)
  rw [← htake] at hstep
  obtain ⟨q, hq⟩ : ∃ q, l[k] = q := ⟨_, rfl⟩
  rw [hq] at hok hc hstep
  obtain ⟨X, hX⟩ : ∃ X, seqS ws (l.take k) (idB n) = X := ⟨_, rfl⟩
  obtain ⟨Y, hY⟩ : ∃ Y, relS ws q = Y := ⟨_, rfl⟩
  rw [hX] at hO hstep
  rw [hY] at hok hstep
  have pm := part_method q pay
  have pc := part_call q
  have HOK := Lib.hid hok; have HST := Lib.hid hstep
  have z1 := zero_rel
  have z2 := relArr_size noB
  have z3 := relArr_ne noB
  clear hok hstep htake hq hX hY hpa
  go_wp2_with fail
  clear pm pc
  refine HOK.out.mono ?_
  rintro e W2 ⟨rfl, hE2⟩
  have hE02 := hE.trans hE2
  have hr2 := hr.keep hE2 id
  have hO2 := hO.keep hE2 id
  have hR0 : (W2.alloc (.cells (relArr noB) 223)).heap[W2.heap.size]? = some (.cells (relArr noB) 223 (0, 0)) := new_at rfl
  go_wp2_with (first | fail | (refine wpList_store_row rfl 223 (.tmp 8) (.tmp 21) rfl W2.heap.size (rowArr (rowM Y)) rfl rfl _ _ hR0 (Tryz.relInfo _) (by rw [relArr_size, rowArr_size]) (rowArr_one _) ?_))
  have hR1 : RowsAt ((W2.alloc (.cells (relArr noB) 223)).setRow W2.heap.size (rowArr (rowM Y))) W2.heap.size (rowM Y) := setRow_heap _ _ _ _ _ _ hR0
  have hE3 : Ext W2 ((W2.alloc (.cells (relArr noB) 223)).setRow W2.heap.size (rowArr (rowM Y))) := ((Turn.refl _ W2).alloc _).after (Turn.setRow _ _ _) (fun b' h1 h2 => by omega)
  generalize ((W2.alloc (.cells (relArr noB) 223)).setRow W2.heap.size (rowArr (rowM Y))) = W3 at hR1 hE3 ⊢
  have hE03 := hE02.trans hE3
  have hr3 := hr2.keep hE3 id
  have hO3 := hO2.keep hE3 id
  clear z1 z2 z3 hR0 hr2 hO2 hE02
  go_wp2_with fail
  refine (then_any hO3 hR1 (HT.out.keep hE03 id)).mono ?_
  rintro e W4 ⟨rfl, hE4⟩
  have hO4 := hO3.keep hE4 id
  have hr4 := hr3.keep hE4 id
  go_wp2_with (refine wpList_store_row rfl 223 (.tmp 5) (.tmp 22) rfl O (rowArr (rowM (comp X Y))) rfl rfl _ _ hO4 (Tryz.relInfo _) (by rw [rowArr_size, rowArr_size]) (rowArr_one _) ?_)
  have hTs := Turn.setRow W4 O (rowArr (rowM (comp X Y)))
  have hO5 := RowsAt.row (g := rowM (comp X Y)) hO4
  have hr5 := hr4.keep hTs (by omega)
  have hE5 := (hE03.trans hE4).after hTs (fun b' h1 h2 => by have := HBO.out; omega)
  generalize (W4.setRow O (rowArr (rowM (comp X Y)))) = W5 at hO5 hr5 hE5 ⊢
  rw [← HST.out] at hO5
  clear hTs hO4 hr4 hE4 hO3 hr3 hE03 hE3 hR1 hO hr hE hE2
  go_wp2
  exact ⟨⟨k + 1, by omega, by first | rfl | trivial, ⟨rfl, rfl, rfl, rfl, rfl, rfl, rfl⟩, hr5, hO5, hE5⟩, by simp [intOf]; omega⟩
 ·obtain rfl : k = M := by omega
  have h1 : ¬ (k : Int) < (k : Int) := by omega
  rw [List.take_of_length_le (by rw [HM.out]; exact Nat.le_refl _)] at hO
  obtain ⟨X, hX⟩ : ∃ X, seqS ws l (idB n) = X := ⟨_, rfl⟩
  have HX := Lib.hid hX
  rw [hX] at hO
  clear hX
  have hrow := RowsAt.row (g := rowM X) hr
  have hE2 : Ext w (W.setRow (B + 1) (rowArr (rowM X))) := hE.after (Turn.setRow W (B + 1) _) (fun b' h1 h2 => by have := HB.out; omega)
  have HROW := Lib.hid hrow; have HE2 := Lib.hid hE2
  clear hrow hE2
  go_wp2_with (first
   | (refine wpList_load_row rfl 223 (.tmp 5) rfl O rfl _ _ _ _ hO Tryz.underlying223 rfl (Tryz.relInfo _) ?_)
   | (refine wpList_store_row rfl 223 (.tmp 4) (.tmp 24) rfl (B + 1) (rowArr (rowM X)) rfl rfl _ _ hr (Tryz.relInfo _) (by rw [rowArr_size, rowArr_size]) (rowArr_one _) ?_))
  exact bodyPost_ret (v := .agg (rowArr (rowM X))) (rel_result rfl rfl HROW.out) rfl ⟨by rw [HN.out, HX.out], HE2.out⟩

theorem alt_ok (l : List PartS) (hl : ∀ p ∈ l, InOk p) : InOk (.alt l) := by
 intro K w pay v ws hp hv hn hT
 unfold PartAt at hp
 obtain ⟨ao, cap, hpe, hlm, hps⟩ := hp
 simp only [Value.iface.injEq] at hpe
 obtain ⟨_, rfl⟩ := hpe
 obtain ⟨bo, bcap, rfl, _⟩ := hv.slice
 unfold maxLen at hlm
 obtain ⟨n, hN⟩ : ∃ n, ws.length = n := ⟨_, rfl⟩
 have HN := Lib.hid hN
 rw [hN] at hn hv ⊢
 clear hN
 obtain ⟨M, hM⟩ : ∃ M, l.length = M := ⟨_, rfl⟩
 have HM := Lib.hid hM
 rw [hM] at hlm ⊢
 clear hM
 unfold relS
 show Calls Tryz.prog 250 _ _ _
 have z1 := zero_rel
 have z2 := relArr_size noB
 have z3 := relArr_ne noB
 have HL := Lib.hid hl; have HPS := Lib.hid hps; have HV := Lib.hid hv; have HT := Lib.hid hT
 clear hl hps hv hT
 go_enter Tryz.func250, Tryz.ntmps250
 go_wp2
 obtain ⟨B, hB⟩ : ∃ B, w.heap.size = B := ⟨_, rfl⟩
 have hr : RowsAt ((w.alloc (.cells #[.slice ao M cap] 247)).alloc (.cells (relArr noB) 223)) (B + 1) (rowM noB) := by
  subst hB
  exact new_at (by simp)
 have hE : Ext w ((w.alloc (.cells #[.slice ao M cap] 247)).alloc (.cells (relArr noB) 223)) := ((Turn.refl _ w).alloc _).alloc _
 generalize ((w.alloc (.cells #[.slice ao M cap] 247)).alloc (.cells (relArr noB) 223)) = w1 at hr hE ⊢
 rw [hB]
 have HB := Lib.hid hB
 clear hB z1 z2 z3
 refine wp_loop (fun a W => ∃ (k : Nat), k ≤ M ∧ a.defers = [] ∧ (a.tmps.size = 21 ∧ a.tmps.getD 1 undef = .slice bo n bcap ∧ a.tmps.getD 4 undef = .pointer (some ⟨B + 1, 0, none⟩) ∧ a.tmps.getD 9 undef = .slice ao M cap ∧ a.tmps.getD 10 undef = .int .i64 M ∧ a.tmps.getD 11 undef = .int .i64 k) ∧
   RowsAt W (B + 1) (rowM (altS ws (l.take k) noB)) ∧ Ext w W)
  (fun a _ => M - (intOf (a.tmps.getD 11 undef)).toNat) ?_ ?_
 ·exact ⟨0, by omega, rfl, ⟨rfl, rfl, rfl, rfl, rfl, rfl⟩, by simpa [altS] using hr, hE⟩
 clear hr hE
 rintro ⟨t, _⟩ W ⟨k, hk, hds, ⟨hsz, f1, f4, f9, f10, f11⟩, hr, hE⟩
 subst hds
 obtain ⟨u', hu⟩ := frame_fun hsz
 obtain ⟨u, rfl⟩ : ∃ x, x = u' := ⟨_, rfl⟩
 have hu' : t = #[u 0, u 1, u 2, u 3, u 4, u 5, u 6, u 7, u 8, u 9, u 10, u 11, u 12, u 13, u 14, u 15, u 16, u 17, u 18, u 19, u 20] := hu
 clear hu
 subst hu'
 change u 1 = _ at f1
 change u 4 = _ at f4
 change u 9 = _ at f9
 change u 10 = _ at f10
 change u 11 = _ at f11
 rw [f1, f4, f9, f10, f11]
 clear f1 f4 f9 f10 f11 hsz
 have hBl := hr.lt
 by_cases hkM : k < M
 ·have h1 : (k : Int) < (M : Int) := by omega
  have hkl : k < l.length := by rw [HM.out]; exact hkM
  obtain ⟨g, off, u, rfl, hKg, hg, hc, hpa⟩ := (PartsAt.ext HPS.out hE).get k hkl
  rw [Nat.zero_add] at hc
  obtain ⟨pay, rfl⟩ := partAt_iface hpa
  have hok := HL.out l[k] (List.getElem_mem hkl) K W pay (.slice bo n bcap) ws hpa (HV.out.ext hE) (by rw [HN.out]; exact hn) (HT.out.keep hE id)
  have htake : l.take (k + 1) = l.take k ++ [l[k]] := List.take_succ_eq_append_getElem hkl
  have hstep := altS_snoc ws l[k] (l.take k) noB
  rw [← htake] at hstep
  obtain ⟨q, hq⟩ : ∃ q, l[k] = q := ⟨_, rfl⟩
  rw [hq] at hok hc hstep
  obtain ⟨X, hX⟩ : ∃ X, altS ws (l.take k) noB = X := ⟨_, rfl⟩
  obtain ⟨Y, hY⟩ : ∃ Y, relS ws q = Y := ⟨_, rfl⟩
  rw [hX] at hr hstep
  rw [hY] at hok hstep
  have pm := part_method q pay
  have pc := part_call q
  have HOK := Lib.hid hok; have HST := Lib.hid hstep
  have z1 := zero_rel
  have z2 := relArr_size noB
  have z3 := relArr_ne noB
  clear hok hstep htake hq hX hY hpa
  go_wp2_with fail
  clear pm pc
  refine HOK.out.mono ?_
  rintro e W2 ⟨rfl, hE2⟩
  have hE02 := hE.trans hE2
  have hr2 := hr.keep hE2 id
  have hR0 : (W2.alloc (.cells (relArr noB) 223)).heap[W2.heap.size]? = some (.cells (relArr noB) 223 (0, 0)) := new_at rfl
  go_wp2_with (first | fail | (refine wpList_store_row rfl 223 (.tmp 7) (.tmp 17) rfl W2.heap.size (rowArr (rowM Y)) rfl rfl _ _ hR0 (Tryz.relInfo _) (by rw [relArr_size, rowArr_size]) (rowArr_one _) ?_))
  have hR1 : RowsAt ((W2.alloc (.cells (relArr noB) 223)).setRow W2.heap.size (rowArr (rowM Y))) W2.heap.size (rowM Y) := setRow_heap _ _ _ _ _ _ hR0
  have hE3 : Ext W2 ((W2.alloc (.cells (relArr noB) 223)).setRow W2.heap.size (rowArr (rowM Y))) := ((Turn.refl _ W2).alloc _).after (Turn.setRow _ _ _) (fun b' h1 h2 => by omega)
  have hne : B + 1 ≠ W2.heap.size := by have := hr2.lt; omega
  generalize ((W2.alloc (.cells (relArr noB) 223)).setRow W2.heap.size (rowArr (rowM Y))) = W3 at hR1 hE3 ⊢
  have hE03 := hE02.trans hE3
  have hr3 := hr2.keep hE3 id
  clear z1 z2 z3 hR0 hr2 hE02
  go_wp2_with fail
  refine (or_any hr3 hR1 hne).mono ?_
  rintro e W4 ⟨⟨v4, rfl⟩, hT4, hr4⟩
  have hE4 := hE03.after hT4 (fun b' h1 h2 => by have := HB.out; omega)
  rw [← HST.out] at hr4
  clear hr3 hE03 hE3 hR1 hr hE hE2 hT4 hne
  go_wp2
  exact ⟨⟨k + 1, by omega, by first | rfl | trivial, ⟨rfl, rfl, rfl, rfl, rfl, rfl⟩, hr4, hE4⟩, by simp [intOf]; omega⟩
 ·obtain rfl : k = M := by omega
  have h1 : ¬ (k : Int) < (k : Int) := by omega
  rw [List.take_of_length_le (by rw [HM.out]; exact Nat.le_refl _)] at hr
  obtain ⟨X, hX⟩ : ∃ X, altS ws l noB = X := ⟨_, rfl⟩
  have HX := Lib.hid hX
  rw [hX] at hr
  clear hX
  have hrow := RowsAt.row (g := rowM X) hr
  have hE2 : Ext w (W.setRow (B + 1) (rowArr (rowM X))) := hE.after (Turn.setRow W (B + 1) _) (fun b' h1 h2 => by have := HB.out; omega)
  have HROW := Lib.hid hrow; have HE2 := Lib.hid hE2
  clear hrow hE2
  go_wp2_with (first
   | (refine wpList_load_row rfl 223 (.tmp 4) rfl (B + 1) rfl _ _ _ _ hr Tryz.underlying223 rfl (Tryz.relInfo _) ?_)
   | (refine wpList_store_row rfl 223 (.tmp 4) (.tmp 20) rfl (B + 1) (rowArr (rowM X)) rfl rfl _ _ hr (Tryz.relInfo _) (by simp only [rowArr_size]) (rowArr_one _) ?_))
  exact bodyPost_ret (v := .agg (rowArr (rowM X))) (rel_result rfl rfl HROW.out) rfl ⟨by rw [HX.out], HE2.out⟩

theorem rep_ok (p : PartS) (mn mx : Int) (hok : InOk p) : InOk (.rep p mn mx) := by
 intro K w pay v ws hp hv hn hT
 unfold PartAt at hp
 obtain ⟨u, hpe, ⟨hb1, hb2, hb3⟩, hpa⟩ := hp
 simp only [Value.iface.injEq] at hpe
 obtain ⟨_, rfl⟩ := hpe
 obtain ⟨pay, rfl⟩ := partAt_iface hpa
 obtain ⟨bo, bcap, rfl, _⟩ := hv.slice
 obtain ⟨n, hN⟩ : ∃ n, ws.length = n := ⟨_, rfl⟩
 have HN := Lib.hid hN
 have HX : Hid (relS ws (.rep p mn mx) = comp (powB (relS ws p) n mn.toNat) (powB (orB (relS ws p) (idB n)) n (extra n mn mx))) := Lib.hid (by show repB (relS ws p) ws.length _ _ = _; rw [hN]; rfl)
 have hmX := relS_mono ws p
 rw [hN] at hn hv hmX ⊢
 clear hN
 show Calls Tryz.prog 252 _ _ _
 obtain ⟨lo, rfl⟩ := Int.eq_ofNat_of_zero_le hb1
 have z1 := zero_rel
 have z2 := relArr_size noB
 have z3 := relArr_ne noB
 have pm := part_method p pay
 have pc := part_call p
 have HOK := Lib.hid hok; have HPA := Lib.hid hpa; have HV := Lib.hid hv; have HT := Lib.hid hT
 clear hok hpa hv hT
 go_enter Tryz.func252, Tryz.ntmps252
 go_wp2_with fail
 obtain ⟨B, hB⟩ : ∃ B, w.heap.size = B := ⟨_, rfl⟩
 have hx : ((w.alloc (.cells #[.iface (partTy p) pay, .int .i64 (lo : Int), .int .i64 mx] 249)).alloc (.cells (relArr noB) 223)).heap[B]? = some (.cells #[.iface (partTy p) pay, .int .i64 (lo : Int), .int .i64 mx] 249 (0, 0)) := by
  subst hB; exact new_keep (new_at rfl)
 have hr : RowsAt ((w.alloc (.cells #[.iface (partTy p) pay, .int .i64 (lo : Int), .int .i64 mx] 249)).alloc (.cells (relArr noB) 223)) (B + 1) (rowM noB) := by
  subst hB
  exact new_at (by simp)
 have hE : Ext w ((w.alloc (.cells #[.iface (partTy p) pay, .int .i64 (lo : Int), .int .i64 mx] 249)).alloc (.cells (relArr noB) 223)) := ((Turn.refl _ w).alloc _).alloc _
 generalize ((w.alloc (.cells #[.iface (partTy p) pay, .int .i64 (lo : Int), .int .i64 mx] 249)).alloc (.cells (relArr noB) 223)) = w1 at hx hr hE ⊢
 rw [hB]
 have HB := Lib.hid hB
 clear hB pm pc
 obtain ⟨X, hX⟩ : ∃ X, relS ws p = X := ⟨_, rfl⟩
 have HN2 := HN.out
 have hc1 := HOK.out K w1 pay (.slice bo n bcap) ws (HPA.out.ext hE) (HV.out.ext hE) (by rw [HN.out]; exact hn) (HT.out.keep hE id)
 rw [hX] at hc1 hmX HX
 clear hX HN2
 refine hc1.mono ?_
 rintro e w2 ⟨rfl, hE2⟩
 clear hc1
 have hx2 := hE2.heap hx id
 have hr2 := hr.keep hE2 id
 have hE02 := hE.trans hE2
 have hR0 : (w2.alloc (.cells (relArr noB) 223)).heap[w2.heap.size]? = some (.cells (relArr noB) 223 (0, 0)) := new_at rfl
 have hR5 : RowsAt ((w2.alloc (.cells (relArr noB) 223)).setRow w2.heap.size (rowArr (rowM X))) w2.heap.size (rowM X) := setRow_heap _ _ _ _ _ _ hR0
 have hE3 : Ext w2 ((w2.alloc (.cells (relArr noB) 223)).setRow w2.heap.size (rowArr (rowM X))) := ((Turn.refl _ w2).alloc _).after (Turn.setRow _ _ _) (fun b' h1 h2 => by omega)
 have hx3 := hE3.heap hx2 id
 have y1 : ((w2.alloc (.cells (relArr noB) 223)).setRow w2.heap.size (rowArr (rowM X))).cell? ⟨B, 1, none⟩ = some (.int .i64 (lo : Int)) := by rw [cell_of_row _ _ _ _ _ _ hx3]; rfl
 go_wp2_with (first
  | (refine wpList_store_row rfl 223 (.tmp 5) (.tmp 13) rfl w2.heap.size (rowArr (rowM X)) rfl rfl _ _ hR0 (Tryz.relInfo _) (by rw [relArr_size, rowArr_size]) (rowArr_one _) ?_)
  | (refine wpList_load_row rfl 223 (.tmp 5) rfl w2.heap.size rfl _ _ _ _ hR5 Tryz.underlying223 rfl (Tryz.relInfo _) ?_))
 have hr3 := hr2.keep hE3 id
 have hE03 := hE02.trans hE3
 generalize ((w2.alloc (.cells (relArr noB) 223)).setRow w2.heap.size (rowArr (rowM X))) = w3 at hR5 hE3 hx3 y1 hr3 hE03 ⊢
 obtain ⟨b5, hb5⟩ : ∃ b, w2.heap.size = b := ⟨_, rfl⟩
 rw [hb5] at hR5 ⊢
 clear hb5 hR0 hx2 hr2 hE02 hE2 hE3 hx hr hE y1
 refine (power_any hn hmX lo (by omega) w3 (HT.out.keep hE03 id)).mono ?_
 rintro e w4 ⟨rfl, hE4⟩
 have hx4 := hE4.heap hx3 id
 have hr4 := hr3.keep hE4 id
 have hR54 := hR5.keep hE4 id
 have hE04 := hE03.trans hE4
 have hR0 : (w4.alloc (.cells (relArr noB) 223)).heap[w4.heap.size]? = some (.cells (relArr noB) 223 (0, 0)) := new_at rfl
 have hR6 : RowsAt ((w4.alloc (.cells (relArr noB) 223)).setRow w4.heap.size (rowArr (rowM (powB X n lo)))) w4.heap.size (rowM (powB X n lo)) := setRow_heap _ _ _ _ _ _ hR0
 have hE5 : Ext w4 ((w4.alloc (.cells (relArr noB) 223)).setRow w4.heap.size (rowArr (rowM (powB X n lo)))) := ((Turn.refl _ w4).alloc _).after (Turn.setRow _ _ _) (fun b' h1 h2 => by omega)
 go_upto_region 3 with (refine wpList_store_row rfl 223 (.tmp 6) (.tmp 19) rfl w4.heap.size (rowArr (rowM (powB X n lo))) rfl rfl _ _ hR0 (Tryz.relInfo _) (by rw [relArr_size, rowArr_size]) (rowArr_one _) ?_)
 have hx5 := hE5.heap hx4 id
 have hr5 := hr4.keep hE5 id
 have hR55 := hR54.keep hE5 id
 have hE05 := hE04.trans hE5
 generalize ((w4.alloc (.cells (relArr noB) 223)).setRow w4.heap.size (rowArr (rowM (powB X n lo)))) = w5 at hR6 hE5 hx5 hr5 hR55 hE05 ⊢
 obtain ⟨b6, hb6⟩ : ∃ b, w4.heap.size = b := ⟨_, rfl⟩
 rw [hb6] at hR6 ⊢
 clear hb6 hR0 hx4 hr4 hR54 hE04 hE4 hE5 hE03 hR5 hx3 hr3
 have hR0 : (w5.alloc (.cells (relArr noB) 223)).heap[w5.heap.size]? = some (.cells (relArr noB) 223 (0, 0)) := new_at rfl
 have hR7 : RowsAt ((w5.alloc (.cells (relArr noB) 223)).setRow w5.heap.size (rowArr (rowM X))) w5.heap.size (rowM X) := setRow_heap _ _ _ _ _ _ hR0
 have hE6 : Ext w5 ((w5.alloc (.cells (relArr noB) 223)).setRow w5.heap.size (rowArr (rowM X))) := ((Turn.refl _ w5).alloc _).after (Turn.setRow _ _ _) (fun b' h1 h2 => by omega)
 go_upto_region 4 with (first
  | (refine wpList_load_row rfl 223 (.tmp 5) rfl b5 rfl _ _ _ _ hR55 Tryz.underlying223 rfl (Tryz.relInfo _) ?_)
  | (refine wpList_store_row rfl 223 (.tmp 7) (.tmp 20) rfl w5.heap.size (rowArr (rowM X)) rfl rfl _ _ hR0 (Tryz.relInfo _) (by rw [relArr_size, rowArr_size]) (rowArr_one _) ?_))
 have hx6 := hE6.heap hx5 id
 have hr6 := hr5.keep hE6 id
 have hR66 := hR6.keep hE6 id
 have hE06 := hE05.trans hE6
 generalize ((w5.alloc (.cells (relArr noB) 223)).setRow w5.heap.size (rowArr (rowM X))) = w6 at hR7 hE6 hx6 hr6 hR66 hE06 ⊢
 obtain ⟨b7, hb7⟩ : ∃ b, w5.heap.size = b := ⟨_, rfl⟩
 have hn67 : b6 ≠ b7 := by have := hR6.lt; omega
 have hnB7 : B + 1 ≠ b7 ∧ B ≠ b7 := by have := hr5.lt; omega
 have hw7 : w.heap.size ≤ b7 := by have := hE05.size; omega
 rw [hb7] at hR7 ⊢
 clear hb7 hR0 hx5 hr5 hR55 hE05 hE6 hR6
 go_wp2_with fail
 refine (identity_any n hn w6).mono ?_
 rintro e w7 ⟨rfl, hE7⟩
 have hx7 := hE7.heap hx6 id
 have hr7 := hr6.keep hE7 id
 have hR67 := hR66.keep hE7 id
 have hR77 := hR7.keep hE7 id
 have hE07 := hE06.trans hE7
 have hR0 : (w7.alloc (.cells (relArr noB) 223)).heap[w7.heap.size]? = some (.cells (relArr noB) 223 (0, 0)) := new_at rfl
 have hR8 : RowsAt ((w7.alloc (.cells (relArr noB) 223)).setRow w7.heap.size (rowArr (rowM (idB n)))) w7.heap.size (rowM (idB n)) := setRow_heap _ _ _ _ _ _ hR0
 have hE8 : Ext w7 ((w7.alloc (.cells (relArr noB) 223)).setRow w7.heap.size (rowArr (rowM (idB n)))) := ((Turn.refl _ w7).alloc _).after (Turn.setRow _ _ _) (fun b' h1 h2 => by omega)
 go_upto_region 5 with (refine wpList_store_row rfl 223 (.tmp 8) (.tmp 23) rfl w7.heap.size (rowArr (rowM (idB n))) rfl rfl _ _ hR0 (Tryz.relInfo _) (by rw [relArr_size, rowArr_size]) (rowArr_one _) ?_)
 have hx8 := hE8.heap hx7 id
 have hr8 := hr7.keep hE8 id
 have hR68 := hR67.keep hE8 id
 have hR78 := hR77.keep hE8 id
 have hE08 := hE07.trans hE8
 generalize ((w7.alloc (.cells (relArr noB) 223)).setRow w7.heap.size (rowArr (rowM (idB n)))) = w8 at hR8 hE8 hx8 hr8 hR68 hR78 hE08 ⊢
 have hne : b7 ≠ w7.heap.size := by have := hR77.lt; omega
 obtain ⟨b8, hb8⟩ : ∃ b, w7.heap.size = b := ⟨_, rfl⟩
 rw [hb8] at hR8 hne ⊢
 clear hb8 hR0 hx7 hr7 hR67 hR77 hE07 hE7 hE8 hx6 hr6 hR66 hE06 hR7
 go_wp2_with fail
 refine (or_any hR78 hR8 hne).mono ?_
 rintro e w9 ⟨⟨v9, rfl⟩, hT9, hR79⟩
 have hx9 := hT9.heap hx8 hnB7.2
 have hr9 := hr8.keep hT9 hnB7.1
 have hR69 := hR68.keep hT9 hn67
 have hE09 := hE08.after hT9 (fun b' h1 h2 => by omega)
 have y1 : w9.cell? ⟨B, 1, none⟩ = some (.int .i64 (lo : Int)) := by rw [cell_of_row _ _ _ _ _ _ hx9]; rfl
 have y2 : w9.cell? ⟨B, 2, none⟩ = some (.int .i64 mx) := by rw [cell_of_row _ _ _ _ _ _ hx9]; rfl
 have hT9' := HT.out.keep hE09 id
 have hmY : Mono n (orB X (idB n)) := hmX.or (Mono.id n)
 clear hT9 hx8 hr8 hR68 hR78 hE08 hR8 hx9 hne
 obtain ⟨Y, hY⟩ : ∃ Y, orB X (idB n) = Y := ⟨_, rfl⟩
 rw [hY] at hmY hR79 HX
 clear hY
 have key : ∀ (ex : Nat), extra n (lo : Int) mx = ex → ex ≤ 64 →
   Calls Tryz.prog 247 #[.agg (rowArr (rowM Y)), .int .i64 ex, .int .i64 n] w9 fun e w' => e = .returned (.agg (rowArr (rowM (powB Y n ex)))) ∧ Ext w9 w' := fun ex _ he => power_any hn hmY ex he w9 hT9'
 have HK := Lib.hid key
 clear key
 by_cases hmx : mx < 0
 ·have hex : extra n (lo : Int) mx = n := by unfold extra; rw [if_pos hmx]
  rw [hex] at HX
  have HEX := Lib.hid hex
  clear hex
  go_wp2_with (refine wpList_load_row rfl 223 (.tmp 7) rfl b7 rfl _ _ _ _ hR79 Tryz.underlying223 rfl (Tryz.relInfo _) ?_)
  refine (HK.out n HEX.out (by omega)).mono ?_
  rintro e w10 ⟨rfl, hE10⟩
  have hR710 := hR79.keep hE10 id
  have hR610 := hR69.keep hE10 id
  have hr10 := hr9.keep hE10 id
  have hE010 := hE09.trans hE10
  have hTs := Turn.setRow w10 b7 (rowArr (rowM (powB Y n n)))
  have hR711 := RowsAt.row (g := rowM (powB Y n n)) hR710
  have hR611 := hR610.keep hTs hn67
  have hr11 := hr10.keep hTs hnB7.1
  have hE011 := hE010.after hTs (fun b' h1 h2 => by omega)
  go_wp2_with (refine wpList_store_row rfl 223 (.tmp 7) (.tmp 39) rfl b7 (rowArr (rowM (powB Y n n))) rfl rfl _ _ hR710 (Tryz.relInfo _) (by rw [rowArr_size, rowArr_size]) (rowArr_one _) ?_)
  generalize (w10.setRow b7 (rowArr (rowM (powB Y n n)))) = w11 at hR711 hR611 hr11 hE011 ⊢
  refine (then_any hR611 hR711 (HT.out.keep hE011 id)).mono ?_
  rintro e w12 ⟨rfl, hE12⟩
  have hr12 := hr11.keep hE12 id
  have hrow := RowsAt.row (g := rowM (comp (powB X n lo) (powB Y n n))) hr12
  have hEf := (hE011.trans hE12).after (Turn.setRow w12 (B + 1) (rowArr (rowM (comp (powB X n lo) (powB Y n n))))) (fun b' h1 h2 => by have := HB.out; omega)
  go_wp2_with (refine wpList_store_row rfl 223 (.tmp 4) (.tmp 40) rfl (B + 1) (rowArr (rowM (comp (powB X n lo) (powB Y n n)))) rfl rfl _ _ hr12 (Tryz.relInfo _) (by rw [rowArr_size, rowArr_size]) (rowArr_one _) ?_)
  exact bodyPost_ret (v := .agg (rowArr (rowM (comp (powB X n lo) (powB Y n n))))) (rel_result rfl rfl hrow) rfl ⟨by rw [HX.out]; rfl, hEf⟩
 ·obtain ⟨ex, hex'⟩ := Int.eq_ofNat_of_zero_le (show 0 ≤ mx - lo by omega)
  have hex : extra n (lo : Int) mx = ex := by unfold extra; rw [if_neg hmx, show (((lo : Nat) : Int)) = (lo : Int) from rfl]; omega
  rw [hex] at HX
  have HEX := Lib.hid hex
  have hmm : mx = (lo : Int) + ex := by omega
  have HMM := Lib.hid hmm
  have hlo32 : (lo : Int) ≤ 32 := hb2
  have hmx32 : mx ≤ 32 := by omega
  have hmx0 : 0 ≤ mx := by omega
  have hex32 : ex ≤ 64 := by omega
  clear hex hmm hex'
  go_upto_region 9 with (fail)
  rw [show mx - (lo : Int) = (ex : Int) by have := HMM.out; omega]
  go_wp2_with (refine wpList_load_row rfl 223 (.tmp 7) rfl b7 rfl _ _ _ _ hR79 Tryz.underlying223 rfl (Tryz.relInfo _) ?_)
  refine (HK.out ex HEX.out hex32).mono ?_
  rintro e w10 ⟨rfl, hE10⟩
  have hR710 := hR79.keep hE10 id
  have hR610 := hR69.keep hE10 id
  have hr10 := hr9.keep hE10 id
  have hE010 := hE09.trans hE10
  have hTs := Turn.setRow w10 b7 (rowArr (rowM (powB Y n ex)))
  have hR711 := RowsAt.row (g := rowM (powB Y n ex)) hR710
  have hR611 := hR610.keep hTs hn67
  have hr11 := hr10.keep hTs hnB7.1
  have hE011 := hE010.after hTs (fun b' h1 h2 => by omega)
  go_wp2_with (refine wpList_store_row rfl 223 (.tmp 7) (.tmp 39) rfl b7 (rowArr (rowM (powB Y n ex))) rfl rfl _ _ hR710 (Tryz.relInfo _) (by rw [rowArr_size, rowArr_size]) (rowArr_one _) ?_)
  generalize (w10.setRow b7 (rowArr (rowM (powB Y n ex)))) = w11 at hR711 hR611 hr11 hE011 ⊢
  refine (then_any hR611 hR711 (HT.out.keep hE011 id)).mono ?_
  rintro e w12 ⟨rfl, hE12⟩
  have hr12 := hr11.keep hE12 id
  have hrow := RowsAt.row (g := rowM (comp (powB X n lo) (powB Y n ex))) hr12
  have hEf := (hE011.trans hE12).after (Turn.setRow w12 (B + 1) (rowArr (rowM (comp (powB X n lo) (powB Y n ex))))) (fun b' h1 h2 => by have := HB.out; omega)
  go_wp2_with (refine wpList_store_row rfl 223 (.tmp 4) (.tmp 40) rfl (B + 1) (rowArr (rowM (comp (powB X n lo) (powB Y n ex)))) rfl rfl _ _ hr12 (Tryz.relInfo _) (by rw [rowArr_size, rowArr_size]) (rowArr_one _) ?_)
  exact bodyPost_ret (v := .agg (rowArr (rowM (comp (powB X n lo) (powB Y n ex))))) (rel_result rfl rfl hrow) rfl ⟨by rw [HX.out]; rfl, hEf⟩

mutual
theorem in_all : ∀ p : PartS, InOk p
 | .sound pl mi nt => fun K w pay v ws hp hv hn hT => by
  unfold PartAt at hp
  obtain ⟨hpe, h1, h2⟩ := hp
  simp only [Value.iface.injEq] at hpe
  obtain ⟨_, rfl⟩ := hpe
  exact sound_in h1 h2 hv hn
 | .edge e => fun K w pay v ws hp hv hn hT => by
  unfold PartAt at hp
  simp only [Value.iface.injEq] at hp
  obtain ⟨_, rfl⟩ := hp
  exact edge_in hv hn
 | .seq l => seq_ok l (in_alls l)
 | .alt l => alt_ok l (in_alls l)
 | .rep p mn mx => rep_ok p mn mx (in_all p)
theorem in_alls : ∀ l : List PartS, ∀ p ∈ l, InOk p
 | [], _, h => by cases h
 | q :: l, p, h => (List.mem_cons.1 h).elim (fun e => e ▸ in_all q) (fun h => in_alls l p h)
end
end Go.Proofs.YtamkkhlabfahmaaGreatDoor
