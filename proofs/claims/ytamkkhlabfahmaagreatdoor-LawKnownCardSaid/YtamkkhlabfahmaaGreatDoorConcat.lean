/- append of a whole word, nil or not; slices.Grow, slices.Concat over sounds. -/
import Derived.Test.YtamkkhlabfahmaaGreatDoorGa00
import Derived.Test.YtamkkhlabfahmaaGreatDoorGa06
import Derived.Test.YtamkkhlabfahmaaGreatDoorGa01
import Derived.Test.YtamkkhlabfahmaaGreatDoorProg
import Derived.WalkLawsBesides
import Derived.Handy
import Derived.Lib.Hide
import Derived.Lib.SliceRun
import Derived.Lib.AppendZeros
set_option maxRecDepth 100000
set_option maxHeartbeats 4000000
namespace Go.Proofs.YtamkkhlabfahmaaGreatDoor
open Go.RowKit Go.Ab
attribute [local go_sem] Oper.semAt_some wide_fn wide_depth

theorem add_at (b o j : Nat) : (⟨b, o, none⟩ : Addr).add j = ⟨b, o + j, none⟩ := by
 unfold Addr.add; split
 ·rename_i h; subst h; rfl
 ·simp

section
variable {P : Program} {w : World}
/-- append of m elements that are read, also of none. -/
theorem append_rd {ops : Array Oper} {rest : List Oper} {o : Oper} {a : Act} {Q : Exit → Act → World → Prop} (hgd : o.guard = none) (s x : Operand) (t : TypeId)
  (ho : o.op = .call { callee := .builtin .append, args := #[s, x], argTypes := #[t, t] })
  (base : Nat) (e : TypeId) (z : Value) (size bytes : Nat) (ht : P.underlying t = some (.slice e)) (hinfo : (P.info? e).map (fun i => (i.zero, i.size, i.bytes)) = some (some z, size, bytes))
  (hzs : z.cells.size = size) (hsz : 0 < size)
  (v : Value) (n : Nat) (xs : List Value) (hs : a.eval s = v) (hown : w.ownsRow base e size v n xs)
  (A : Option Addr) (m c : Nat) (news : List Value) (hx : a.eval x = .slice A m c) (hr : Rd w (.slice A m c) m size news) (h1 : ∀ u ∈ news, u.oneCell' = true)
  (h63 : n + m ≤ maxLen) (hbytes : (n + m) * bytes ≤ 140737488355328) (hbase : base ≤ w.heap.size)
  (h : ∀ ao c' w', w'.ownsRow base e size (.slice ao (n + m) c') (n + m) (xs ++ news) → Turn (fun b => v.ownBlock = some b) w w' → ((Value.slice ao (n + m) c').ownBlock = v.ownBlock ∨ (Value.slice ao (n + m) c').ownBlock = some w.heap.size) → wpList P ops Q rest (a.put o.dst (.slice ao (n + m) c')) w') : wpList P ops Q (o :: rest) a w := by
 obtain ⟨r1, _, ao, cap, hv, r3⟩ := hr
 simp only [Value.slice.injEq, true_and] at hv
 obtain ⟨rfl, rfl⟩ := hv
 rcases A with _ | ad
 ·have hm : m = 0 := by
   apply Nat.le_antisymm _ (Nat.zero_le _)
   apply Nat.le_of_not_lt; intro h0
   obtain ⟨_, _, q, _⟩ := r3 h0
   cases q
  subst hm
  obtain rfl : news = [] := List.eq_nil_of_length_eq_zero (by simpa using r1)
  obtain ⟨i, hi, hz, hs1, hb1⟩ := info_parts hinfo
  have hrun : (Builtin.append_ #[t, t] o.type #[v, .slice none 0 c]).run P w = .ok v w := by
   rcases hown.2 with ⟨rfl, rfl⟩ | ⟨g, cap, cur, rfl, _, _, hnc, _⟩
   ·simp [Builtin.append_, run_underlying ht, sizeOf, typeInfo, hi, Builtin.lenOf, Builtin.firstCells]
   ·simp [Builtin.append_, run_underlying ht, sizeOf, typeInfo, hi, Builtin.lenOf, Builtin.firstCells, hnc, storeCells]
  refine wpList_plain hgd fun K hK => ?_
  unfold Oper.wp execOp
  simp only [ho, resolve, invoke, builtin, Sem.run_bind, Sem.run_pure, Result.andThen_ok, List.map_toArray, List.map_cons, List.map_nil, hs, hx, hrun]
  obtain ⟨ao, c', rfl⟩ := own_slice hown
  exact hK _ _ (h ao c' w (by simpa using hown) (Turn.refl _ _) (.inl rfl))
 ·refine append_row hgd s x t ho base e z size bytes ht hinfo hzs hsz v n xs hs hown ad m c news hx r1 (fun j u hj => ?_) h1 h63 hbytes hbase h
  have hj2 : j < m * size := by rw [← r1]; exact (List.getElem?_eq_some_iff.1 hj).1
  have hm : 0 < m := by
   apply Nat.pos_of_ne_zero; rintro rfl; omega
  obtain ⟨g, off, q, _, hc⟩ := r3 hm
  cases q
  rw [add_at, hc j hj2, List.getD_eq_getElem?_getD, hj]
  rfl
end
theorem one_sndL (w : Wd) : ∀ u ∈ sndL w, u.oneCell' = true := by
 intro u hu
 obtain ⟨s, _, hu⟩ := List.mem_flatMap.1 hu
 simp only [List.mem_cons, List.not_mem_nil, or_false] at hu
 rcases hu with rfl | rfl <;> rfl
theorem infoS : (Tryz.prog.info? 24).map (fun i => (i.zero, i.size, i.bytes)) = some (some (.agg #[.int .u32 0, .int .u32 0]), 2, 8) := by kernel_rfl

theorem grow_any (n : Nat) (hn : n ≤ 100000) (w : World) :
  Calls Tryz.prog 150 #[.slice none 0 0, .int .i64 n] w fun e w' => ∃ ao c, e = .returned (.slice ao 0 c) ∧ w'.ownsRow w.heap.size 24 2 (.slice ao 0 c) 0 [] ∧ Ext w w' := by
 by_cases h0 : n = 0
 ·subst h0
  go_enter Tryz.func150, Tryz.ntmps150
  go_wp2
  go_ret
  exact ⟨_, _, rfl, World.ownsRow_nil _ _ _ _, Turn.refl _ _⟩
 ·obtain ⟨i, hi, hz, hs1, hb1⟩ := info_parts (@infoS)
  have hrun := Lib.run_append_nil_zeros (P := Tryz.prog) w 32 3 32 24 i (.agg #[.int .u32 0, .int .u32 0]) .i64 .i64 Tryz.underlying32 Tryz.underlying3 hi hz n (by omega) (by omega) (by omega) (by rw [hb1]; omega)
  have hge := grownCap_ge w n 0 24
  have hle := grownCap_le_maxLen w n 0 24 (by unfold maxLen; omega)
  obtain ⟨c, hc⟩ : ∃ c, grownCap w n 0 24 = c := ⟨_, rfl⟩
  rw [hc] at hrun hge hle
  obtain ⟨cs, hcs⟩ : ∃ cs, Builtin.zeroCells (Value.agg #[.int .u32 0, .int .u32 0]).cells n ++ Builtin.zeroCells (Value.agg #[.int .u32 0, .int .u32 0]).cells (c - n) = cs := ⟨_, rfl⟩
  have hsz : cs.size = c * 2 := by
   rw [← hcs, Array.size_append, size_zeroCells, size_zeroCells]
   show n * 2 + (c - n) * 2 = c * 2
   omega
  rw [hcs] at hrun
  have hn1 : (0 : Int) < (n : Int) := by omega
  have HR := Lib.hid hrun
  clear hrun hcs hc hi hz hs1 hb1
  go_enter Tryz.func150, Tryz.ntmps150
  go_wp2_with (at_builtin; refine Lib.wpList_append_run _ rfl (.tmp 20) (.tmp 21) _ _ rfl (.slice none 0 0) (.int .i64 n) rfl rfl _ _ HR.out ?_)
  go_ret
  exact ⟨_, _, rfl, ⟨by simp, .inr ⟨w.heap.size, c, cs, rfl, Nat.le_refl _, new_at (by simp), by omega, hle, hsz, by simp⟩⟩, ((Turn.refl _ w).drew).alloc _⟩

/-- The first k words, one after the other. -/
def preW (us : List Wd) (k : Nat) : Wd := (us.take k).flatten
theorem flat_take {us : List Wd} {k : Nat} (h : k < us.length) : preW us (k + 1) = preW us k ++ us[k] := by
 unfold preW
 rw [List.take_succ_eq_append_getElem h, List.flatten_append]; simp
theorem flat_all {us : List Wd} {k : Nat} (h : us.length ≤ k) : preW us k = us.flatten := by unfold preW; rw [List.take_of_length_le h]
theorem flat_le {us : List Wd} (k : Nat) : (preW us k).length ≤ us.flatten.length := by
 unfold preW
 conv => rhs; rw [← List.take_append_drop k us, List.flatten_append, List.length_append]
 omega

theorem concat_any {w : World} {ao : Option Addr} {cap : Nat} {vs : List Value} {us : List Wd} {F : Wd} (hF : us.flatten = F) (hr : Rd w (.slice ao us.length cap) us.length 1 vs) (hv : ∀ i (h : i < us.length), WordAt w (vs.getD i undef) us[i]) (hsum : F.length ≤ 1000) :
  Calls Tryz.prog 108 #[.slice ao us.length cap] w fun e w' => ∃ u, e = .returned u ∧ w'.ownsRow w.heap.size 24 2 u F.length (sndL F) ∧ Ext w w' := by
 obtain ⟨N, hN⟩ : ∃ N, us.length = N := ⟨_, rfl⟩
 have hNm : N ≤ maxLen := by have := hr.2.1; omega
 unfold maxLen at hNm
 rw [hN] at hr ⊢
 have HN := Lib.hid hN
 clear hN
 have HV := Lib.hid hv; have HF := Lib.hid hF
 clear hF
 have hat : Hid (∀ k (hk : k < us.length), ∃ g off, ao = some ⟨g, off, none⟩ ∧ g < w.heap.size ∧ w.cell? ⟨g, off + k, none⟩ = some (vs.getD k undef)) := Lib.hid fun k hk => by
  obtain ⟨_, _, ao', c', q, h3⟩ := hr
  cases q
  obtain ⟨g, off, h4, h5, h6⟩ := h3 (by have := HN.out; omega)
  exact ⟨g, off, h4, h5, h6 k (by have := HN.out; omega)⟩
 clear hr hv
 go_enter Tryz.func108, Tryz.ntmps108
 go_wp2
 refine wp_loop (fun a W => ∃ (k : Nat), k ≤ N ∧ a.defers = [] ∧ (a.tmps.size = 36 ∧ a.tmps.getD 0 undef = .slice ao N cap ∧ a.tmps.getD 3 undef = .int .i64 ((preW us k).length : Int) ∧ a.tmps.getD 9 undef = .slice ao N cap ∧ a.tmps.getD 10 undef = .int .i64 N ∧ a.tmps.getD 11 undef = .int .i64 k) ∧ w = W)
  (fun a _ => N - (intOf (a.tmps.getD 11 undef)).toNat) ?_ ?_
 ·exact ⟨0, by omega, rfl, ⟨rfl, rfl, by simp [preW], rfl, rfl, rfl⟩, rfl⟩
 rintro ⟨t, _⟩ W ⟨k, hk, hds, ⟨hsz, f0, f3, f9, f10, f11⟩, rfl⟩
 subst hds
 obtain ⟨u', hu⟩ := frame_fun hsz
 obtain ⟨u, rfl⟩ : ∃ x, x = u' := ⟨_, rfl⟩
 have hu' : t = #[u 0, u 1, u 2, u 3, u 4, u 5, u 6, u 7, u 8, u 9, u 10, u 11, u 12, u 13, u 14, u 15, u 16, u 17, u 18, u 19, u 20, u 21, u 22, u 23, u 24, u 25, u 26, u 27, u 28, u 29, u 30, u 31, u 32, u 33, u 34, u 35] := hu
 clear hu
 subst hu'
 change u 0 = _ at f0
 change u 3 = _ at f3
 change u 9 = _ at f9
 change u 10 = _ at f10
 change u 11 = _ at f11
 rw [f0, f3, f9, f10, f11]
 clear f0 f3 f9 f10 f11 hsz
 by_cases hkN : k < N
 ·have h1 : (k : Int) < (N : Int) := by omega
  have hkl : k < us.length := by rw [HN.out]; exact hkN
  obtain ⟨g, off, rfl, hg, hc⟩ := hat.out k hkl
  obtain ⟨xo, xc, hx, hxm⟩ := (HV.out k hkl).slice
  rw [hx] at hc
  have hft := flat_take hkl
  have hfl := flat_le (us := us) (k + 1)
  rw [HF.out] at hfl
  have hlen : (preW us (k + 1)).length = (preW us k).length + us[k].length := by rw [hft, List.length_append]
  rw [hlen] at hfl
  obtain ⟨z, hz⟩ : ∃ z, (preW us k).length = z := ⟨_, rfl⟩
  obtain ⟨y, hy⟩ : ∃ y, us[k].length = y := ⟨_, rfl⟩
  rw [hz, hy] at hfl
  rw [hz]
  rw [hy] at hc
  have hnn : ¬ ((z : Int) + (y : Int) < 0) := by omega
  have HLN : Hid ((preW us (k + 1)).length = z + y) := Lib.hid (by rw [hlen, hz, hy])
  clear hft hlen hz hy hx hxm
  go_wp2
  exact ⟨⟨k + 1, by omega, by rw [HLN.out]; simp, by simp⟩, by simp [intOf]; omega⟩
 obtain rfl : k = N := by omega
 have h1 : ¬ (k : Int) < (k : Int) := by omega
 have hall : (preW us k) = F := (flat_all (by rw [HN.out]; exact Nat.le_refl _)).trans HF.out
 rw [hall]
 clear hall
 obtain ⟨T, hT⟩ : ∃ T, F.length = T := ⟨_, rfl⟩
 rw [hT] at hsum ⊢
 have HT := Lib.hid hT
 clear hT
 go_wp2_with (go_at_call 150; refine (grow_any T (by omega) _).mono ?_; rintro e w2 ⟨ro, rc, rfl, hO, hE⟩)
 refine wp_loop (fun a W => ∃ (j : Nat) (ro : Option Addr) (rc : Nat), j ≤ k ∧ a.defers = [] ∧ (a.tmps.size = 36 ∧ a.tmps.getD 6 undef = .slice ro (preW us j).length rc ∧ a.tmps.getD 25 undef = .slice ao k cap ∧ a.tmps.getD 26 undef = .int .i64 k ∧ a.tmps.getD 27 undef = .int .i64 j) ∧ W.ownsRow w.heap.size 24 2 (.slice ro (preW us j).length rc) (preW us j).length (sndL (preW us j)) ∧ Ext w W)
  (fun a _ => k - (intOf (a.tmps.getD 27 undef)).toNat) ?_ ?_
 ·exact ⟨0, ro, rc, by omega, rfl, ⟨rfl, rfl, rfl, rfl, rfl⟩, hO, hE⟩
 clear hO hE w2 ro rc
 rintro ⟨t, _⟩ W ⟨j, ro, rc, hj, hds, ⟨hsz, f6, f25, f26, f27⟩, hO, hE⟩
 subst hds
 obtain ⟨u', hu⟩ := frame_fun hsz
 obtain ⟨u, rfl⟩ : ∃ x, x = u' := ⟨_, rfl⟩
 have hu' : t = #[u 0, u 1, u 2, u 3, u 4, u 5, u 6, u 7, u 8, u 9, u 10, u 11, u 12, u 13, u 14, u 15, u 16, u 17, u 18, u 19, u 20, u 21, u 22, u 23, u 24, u 25, u 26, u 27, u 28, u 29, u 30, u 31, u 32, u 33, u 34, u 35] := hu
 clear hu
 subst hu'
 change u 6 = _ at f6
 change u 25 = _ at f25
 change u 26 = _ at f26
 change u 27 = _ at f27
 rw [f6, f25, f26, f27]
 clear f6 f25 f26 f27 hsz
 by_cases hjN : j < k
 ·have h1 : (j : Int) < (k : Int) := by omega
  have hkl : j < us.length := by rw [HN.out]; exact hjN
  obtain ⟨g, off, rfl, hg, hc0⟩ := hat.out j hkl
  have hc := hE.cell_some hc0 (fun h => h)
  have hw := (HV.out j hkl).ext hE
  obtain ⟨xo, xc, hx, hxm⟩ := hw.slice
  rw [hx] at hc hw
  have hft := flat_take hkl
  have hfl := flat_le (us := us) (j + 1)
  rw [HF.out] at hfl
  have hlen : (preW us (j + 1)).length = (preW us j).length + us[j].length := by rw [hft, List.length_append]
  rw [hlen, HT.out] at hfl
  have HFT := Lib.hid hft; have HLEN := Lib.hid hlen; have HW := Lib.hid hw.1
  have hbz := hE.size
  clear hft hlen hx hxm hw hc0
  obtain ⟨Y, hY⟩ : ∃ Y, (preW us j) = Y := ⟨_, rfl⟩
  obtain ⟨Z, hZ⟩ : ∃ Z, us[j] = Z := ⟨_, rfl⟩
  rw [hY] at hO hfl HFT HLEN ⊢
  rw [hZ] at hc hfl HFT HLEN HW
  clear hY hZ
  go_wp2_with (at_builtin; refine append_rd rfl (.tmp 31) (.tmp 32) 32 rfl w.heap.size 24 _ 2 8 Tryz.underlying32 @infoS rfl (by decide) _ _ _ rfl hO _ _ _ _ rfl HW.out (one_sndL _) (by unfold maxLen; omega) (by omega) hbz ?_; intro ao' c' w5 hO5 hT5 hB5)
  refine ⟨⟨j + 1, ao', c', by omega, by first | rfl | trivial, ⟨rfl, by rw [HLEN.out]; rfl, rfl, rfl, rfl⟩, ?_, ?_⟩, by simp [intOf]; omega⟩
  ·rw [HLEN.out, HFT.out, sndL_append]; exact hO5
  ·exact hE.after hT5 (fun b hb e => by have := (hO.lt _ e).1; omega)
 ·obtain rfl : j = k := by omega
  have h1 : ¬ (j : Int) < (j : Int) := by omega
  have hall : (preW us j) = F := (flat_all (by rw [HN.out]; exact Nat.le_refl _)).trans HF.out
  rw [hall, HT.out] at hO
  rw [hall, HT.out]
  have HO := Lib.hid hO
  clear hO hall
  go_wp2
  go_ret
  exact ⟨_, rfl, by rw [HT.out]; exact HO.out, hE⟩
end Go.Proofs.YtamkkhlabfahmaaGreatDoor
