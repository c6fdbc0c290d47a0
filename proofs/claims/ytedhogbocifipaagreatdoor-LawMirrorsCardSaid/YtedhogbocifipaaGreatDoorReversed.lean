/- ablautlaw08.reversed. -/
import Derived.Test.YtedhogbocifipaaGreatDoorGa11
set_option maxRecDepth 100000
set_option maxHeartbeats 8000000
namespace Go.Proofs.YtedhogbocifipaaGreatDoor
open Go.RowKit Go.Ab
attribute [local go_sem] Oper.semAt_some wide_fn wide_depth

theorem rev_take {ws : Wd} {k : Nat} (h : k < ws.length) : ws.reverse.take (k + 1) = ws.reverse.take k ++ [ws.getD (ws.length - 1 - k) (0, 0)] := by
 rw [List.take_succ_eq_append_getElem (by rw [List.length_reverse]; exact h), List.getElem_reverse, List.getD_eq_getElem?_getD, List.getElem?_eq_getElem (by omega)]; rfl

theorem reversed_any {w : World} {vo : Option Addr} {n vc : Nat} {ws : Wd} (hv : WordAt w (.slice vo n vc) ws) (hn : ws.length = n) (hb : n ≤ 17592186044416) :
  Calls Tryz.prog 33 #[.slice vo n vc] w fun e w' => ∃ ao c, e = .returned (.slice ao n c) ∧ w'.ownsRow w.heap.size 24 2 (.slice ao n c) n (sndL ws.reverse) ∧ Ext w w' := by
 have HV := Lib.hid hv; have HN := Lib.hid hn
 clear hv hn
 have hw0 : IntKind.i64.wrap ((n : Int) - 1) = (n : Int) - 1 := IntWalk.i64_in _ (by omega)
 go_enter Tryz.func33, Tryz.ntmps33
 go_wp2
 clear hw0
 refine wp_loop (fun a W => ∃ (k : Nat) (i : Int) (ao : Option Addr) (c : Nat), k ≤ n ∧ i = (n : Int) - 1 - (k : Int) ∧ a.defers = [] ∧ (a.tmps.size = 20 ∧ a.tmps.getD 0 undef = .slice vo n vc ∧ a.tmps.getD 3 undef = .slice ao k c ∧ a.tmps.getD 4 undef = .int .i64 i) ∧ W.ownsRow w.heap.size 24 2 (.slice ao k c) k (sndL (ws.reverse.take k)) ∧ Ext w W)
  (fun a _ => (intOf (a.tmps.getD 4 undef) + 1).toNat) ?_ ?_
 ·exact ⟨0, _, none, 0, by omega, by simp, rfl, ⟨rfl, rfl, rfl, rfl⟩, World.ownsRow_nil _ _ _ _, Turn.refl _ _⟩
 rintro ⟨t, _⟩ W ⟨k, i, ao, c, hk, hi, hds, ⟨hsz, f0, f3, f4⟩, ho, hE⟩
 subst hds
 obtain ⟨u', hu⟩ := frame_fun hsz
 obtain ⟨u, rfl⟩ : ∃ x, x = u' := ⟨_, rfl⟩
 have hu' : t = #[u 0, u 1, u 2, u 3, u 4, u 5, u 6, u 7, u 8, u 9, u 10, u 11, u 12, u 13, u 14, u 15, u 16, u 17, u 18, u 19] := hu
 clear hu
 subst hu'
 change u 0 = _ at f0
 change u 3 = _ at f3
 change u 4 = _ at f4
 rw [f0, f3, f4]
 clear f0 f3 f4 hsz
 have HO := Lib.hid ho
 clear ho
 by_cases hkN : k < n
 ·obtain ⟨j, hj⟩ : ∃ j, n - 1 - k = j := ⟨_, rfl⟩
  obtain rfl : i = (j : Int) := by omega
  have h1 : (0 : Int) ≤ (j : Int) := by omega
  have hjn : (j : Int) < (n : Int) := by omega
  have hjj : j < n := by omega
  obtain ⟨g, off, c', hq, hg, d0, d1⟩ := (HV.out.ext hE).at (i := j) (by rw [HN.out]; exact hjj)
  simp only [Value.slice.injEq] at hq
  obtain ⟨rfl, hz, rfl⟩ := hq
  clear hz
  have hsn := rev_take (ws := ws) (k := k) (by rw [HN.out]; exact hkN)
  rw [HN.out, hj] at hsn
  obtain ⟨⟨sa, sb⟩, hs⟩ : ∃ s, ws.getD j (0, 0) = s := ⟨_, rfl⟩
  rw [hs] at d0 d1 hsn
  dsimp only at d0 d1
  have hwj : IntKind.i64.wrap ((j : Int) - 1) = (j : Int) - 1 := IntWalk.i64_in _ (by omega)
  have HSN := Lib.hid hsn; have HI := Lib.hid hi
  clear hs hsn hi
  go_wp2_with (at_builtin; refine append_row rfl (.tmp 12) (.tmp 17) 28 rfl w.heap.size 24 _ 2 8 Tryz.underlying28 @infoS rfl (by decide) _ _ _ rfl (own_ext HO.out ((Turn.refl _ _).alloc _)) ⟨W.heap.size, 0, none⟩ 1 1 [.int .u32 (sa : Int), .int .u32 (sb : Int)] rfl rfl (new_cells' rfl) (one_snd2 _ _) (by unfold maxLen; omega) (by omega) (Nat.le_trans hE.size (Turn.alloc (Turn.refl (fun _ => False) _) _).size) ?_)
  intro ao' c' W2 hO2 hT2 hB2
  have hE2 : Ext w W2 := Turn.after (hE.trans ((Turn.refl _ _).alloc _)) hT2 (fun b hb e => by have := (HO.out.lt _ e).1; omega)
  have HO2 := Lib.hid hO2; have HE2 := Lib.hid hE2
  clear hO2 hE2 hT2 hB2 hE d0 d1
  go_wp2
  exact ⟨⟨k + 1, _, ao', c', by omega, by have := HI.out; push_cast; omega, by first | rfl | trivial, ⟨rfl, rfl, rfl, rfl⟩, by rw [HSN.out, sndL_append]; exact HO2.out, HE2.out⟩, by first | (simp [intOf]; done) | (simp [intOf]; omega)⟩
 ·obtain rfl : k = n := by omega
  obtain rfl : i = -1 := by omega
  have h1 : ¬ (0 : Int) ≤ -1 := by omega
  have hfin : sndL (ws.reverse.take k) = sndL ws.reverse := by rw [List.take_of_length_le (by rw [List.length_reverse, HN.out]; exact Nat.le_refl _)]
  have ho := HO.out
  rw [hfin] at ho
  have HO2 := Lib.hid ho
  clear ho hfin HO
  go_wp2
  go_ret
  exact ⟨ao, c, rfl, HO2.out, hE⟩
end Go.Proofs.YtedhogbocifipaaGreatDoor
