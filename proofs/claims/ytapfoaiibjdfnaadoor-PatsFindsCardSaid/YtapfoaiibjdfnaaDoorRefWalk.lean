/- ablautref06.walk, Check, both; count, Size. -/
import Derived.Test.YtapfoaiibjdfnaaDoorRefNode
import Derived.Test.YtapfoaiibjdfnaaDoorLike
namespace Go.Proofs.YtapfoaiibjdfnaaDoor
open Go.RowKit Go.Ab
attribute [local go_sem] Oper.semAt_some wide_fn wide_depth

theorem walkL_cons (p : Pat) (l : List Pat) (n : Nat) : walkL (p :: l) n = bindE (walkP p n) (walkL l) := by rw [walkL]
theorem walkP_eq (p : Pat) (n : Nat) : walkP p n = if n = 40 then (n, 12) else if nodeE p = 0 then walkL p.l (n + 1) else (n, nodeE p) := by cases p; rw [walkP]; rfl
theorem walkP_le {p : Pat} {n : Nat} (h : n ≤ 40) : (walkP p n).1 ≤ 40 := (walkP_chk p n [] h).1.1

def WalkOk (p : Pat) : Prop := ∀ (K : Nat → Prop) (w : World) (cs : List Value) (n : Nat), PatAt K w p cs → n ≤ 40 →
  Calls Tryd.prog 58 #[.agg cs.toArray, .int .i64 n] w fun e w' => e = .returned (.tuple #[.int .i64 ((walkP p n).1 : Int), .int .i64 (walkP p n).2]) ∧ Ext w w'

set_option maxRecDepth 100000 in
set_option maxHeartbeats 8000000 in
theorem walk_step (k : Int) (pl mi : Nat) (nt : Bool) (mn mx : Int) (l : List Pat) (ih : ∀ p ∈ l, WalkOk p) : WalkOk (.node k pl mi nt mn mx l) := by
  intro K w cs n hp hn
  unfold PatAt at hp
  obtain ⟨ao, cap, rfl, hpl, hmi, hlc, hcm, hl⟩ := hp
  have hnd := fun (V : World) => node_cells k pl mi nt mn mx ao l.length cap hpl hmi (Nat.le_trans hlc hcm) V
  have hlm : l.length ≤ maxLen := Nat.le_trans hlc hcm
  unfold maxLen at hlm
  rw [← nodeE_F] at hnd
  have HW := Lib.hid (walkP_eq (.node k pl mi nt mn mx l) n)
  obtain ⟨z, hz⟩ : ∃ z, nodeE (.node k pl mi nt mn mx l) = z := ⟨_, rfl⟩
  rw [hz] at HW hnd
  obtain ⟨N, hN⟩ : ∃ N, l.length = N := ⟨_, rfl⟩
  have HN := Lib.hid hN
  have HL := Lib.hid hl; have HND := Lib.hid hnd; have IH := Lib.hid ih
  unfold patCells
  rw [hN] at HND hlm ⊢
  clear hl hnd ih hz hN hlc hcm hpl hmi
  obtain ⟨Z1, Z2, hZ⟩ : ∃ a b, walkP (.node k pl mi nt mn mx l) n = (a, b) := ⟨_, _, rfl⟩
  rw [hZ] at HW ⊢
  clear hZ
  change Hid ((Z1, Z2) = if n = 40 then (n, 12) else if z = 0 then walkL l (n + 1) else (n, z)) at HW
  show Calls Tryd.prog 58 _ w fun e w' => e = .returned (.tuple #[.int .i64 (Z1 : Int), .int .i64 Z2]) ∧ Ext w w'
  by_cases h40 : n = 40
  · subst h40
    have hw : Z1 = 40 ∧ Z2 = 12 := by have := HW.out; rw [if_pos rfl] at this; exact ⟨congrArg Prod.fst this, congrArg Prod.snd this⟩
    obtain ⟨rfl, rfl⟩ := hw
    clear HW
    go_enter Tryd.func58, Tryd.ntmps58
    go_wp2
    exact bodyPost_ret (results_two rfl _ _ _) rfl ⟨rfl, (Turn.refl _ w).alloc _⟩
  have g40 : ((n : Int) == 40) = false := by rw [beq_eq_false_iff_ne]; omega
  have hn39 : n < 40 := by omega
  rw [if_neg h40] at HW
  clear h40
  go_enter Tryd.func58, Tryd.ntmps58
  go_wp2_with fail
  refine (HND.out _).mono ?_
  rintro e w2 ⟨rfl, hE2⟩
  have hE02 : Ext w w2 := Turn.trans ((Turn.refl _ w).alloc _) hE2
  have hx : w2.heap[w.heap.size]? = some (.cells #[.int .i64 k, .int .u32 (pl : Int), .int .u32 (mi : Int), .bool nt, .int .i64 mn, .int .i64 mx, .slice ao N cap] 27 (0, 0)) := hE2.keep (new_at rfl)
  clear hE2
  by_cases hz0 : z = 0
  case neg =>
    have gz : (z == 0) = false := by rw [beq_eq_false_iff_ne]; exact hz0
    rw [if_neg hz0] at HW
    have hw : Z1 = n ∧ Z2 = z := ⟨congrArg Prod.fst HW.out, congrArg Prod.snd HW.out⟩
    obtain ⟨rfl, rfl⟩ := hw
    clear HW hz0 hx
    go_wp2
    exact bodyPost_ret (results_two rfl _ _ _) rfl ⟨rfl, hE02⟩
  rw [if_pos hz0] at HW
  subst hz0
  generalize w.heap.size = B at hx ⊢
  have HX := Lib.hid hx
  clear hx
  go_wp2
  refine wp_loop (fun a W => ∃ (i m : Nat), i ≤ N ∧ m ≤ 40 ∧ walkL (l.drop i) m = (Z1, Z2) ∧ a.defers = [] ∧ (a.tmps.size = 42 ∧ a.tmps.getD 2 undef = .pointer (some ⟨B, 0, none⟩) ∧ a.tmps.getD 7 undef = .int .i64 m ∧ a.tmps.getD 8 undef = .int .i64 i) ∧ Ext w2 W)
    (fun a _ => N - (intOf (a.tmps.getD 8 undef)).toNat) ?_ ?_
  · exact ⟨0, n + 1, by omega, by omega, HW.out.symm, rfl, ⟨rfl, rfl, by go_num, rfl⟩, Turn.refl _ _⟩
  clear HW
  rintro ⟨t, _⟩ W ⟨i, m, hi, hm, hw, hds, ⟨hsz, f2, f7, f8⟩, hE⟩
  subst hds
  obtain ⟨u', hu⟩ := frame_fun hsz
  obtain ⟨u, rfl⟩ : ∃ x, x = u' := ⟨_, rfl⟩
  have hu' : t = #[u 0, u 1, u 2, u 3, u 4, u 5, u 6, u 7, u 8, u 9, u 10, u 11, u 12, u 13, u 14, u 15, u 16, u 17, u 18, u 19, u 20, u 21, u 22, u 23, u 24, u 25, u 26, u 27, u 28, u 29, u 30, u 31, u 32, u 33, u 34, u 35, u 36, u 37, u 38, u 39, u 40, u 41] := hu
  clear hu
  subst hu'
  change u 2 = _ at f2
  change u 7 = _ at f7
  change u 8 = _ at f8
  rw [f2, f7, f8]
  clear f2 f7 f8 hsz
  have HW := Lib.hid hw
  clear hw
  have hx := hE.keep HX.out
  have cX := fun j => cell_of_row _ _ j _ _ _ hx
  by_cases hiN : i < N
  · have h1 : (i : Int) < (N : Int) := by omega
    have hil : i < l.length := by rw [HN.out]; exact hiN
    obtain ⟨g, off, c, rfl, hg, hgl, hra, hq⟩ := (HL.out.ext (hE02.trans hE)).get i hil
    rw [Nat.zero_add] at hra
    obtain ⟨qo, qcap, hcq, _, _, _⟩ := patAt_cells hq
    obtain ⟨c0, c1, c2, c3, c4, c5, c6⟩ := patCells_at hra hcq
    have hc := IH.out _ (List.getElem_mem hil) K W c m hq hm
    have hd : l.drop i = l[i] :: l.drop (i + 1) := List.drop_eq_getElem_cons hil
    have hnext : bindE (walkP l[i] m) (walkL (l.drop (i + 1))) = (Z1, Z2) := by rw [← walkL_cons, ← hd]; exact HW.out
    have hle := walkP_le (p := l[i]) hm
    obtain ⟨y1, y2, hy⟩ : ∃ a b, walkP l[i] m = (a, b) := ⟨_, _, rfl⟩
    rw [hy] at hc hnext hle
    change y1 ≤ 40 at hle
    change (if y2 = 0 then walkL (l.drop (i + 1)) y1 else (y1, y2)) = (Z1, Z2) at hnext
    rw [hcq] at hc
    unfold patCells at hc
    have HC := Lib.hid hc; have HNX := Lib.hid hnext
    clear hc hra hq hcq hd hnext hy hx
    go_wp2_with fail
    refine HC.out.mono ?_
    rintro e W2 ⟨rfl, hE2⟩
    have hE22 := hE.trans hE2
    clear hE hE2 c0 c1 c2 c3 c4 c5 c6 HC cX
    by_cases hy0 : y2 = 0
    · rw [if_pos hy0] at HNX
      subst hy0
      go_wp2
      exact ⟨⟨i + 1, y1, by omega, hle, HNX.out, by first | rfl | trivial, ⟨rfl, rfl, rfl, rfl⟩, hE22⟩, by simp [intOf]; omega⟩
    · have gy : (y2 == 0) = false := by rw [beq_eq_false_iff_ne]; exact hy0
      rw [if_neg hy0] at HNX
      have hw : Z1 = y1 ∧ Z2 = y2 := ⟨(congrArg Prod.fst HNX.out).symm, (congrArg Prod.snd HNX.out).symm⟩
      obtain ⟨rfl, rfl⟩ := hw
      clear hy0 HNX
      go_wp2
      exact bodyPost_ret (results_two rfl _ _ _) rfl ⟨rfl, hE02.trans hE22⟩
  · obtain rfl : i = N := by omega
    have h1 : ¬ (i : Int) < (i : Int) := by omega
    have hw : Z1 = m ∧ Z2 = 0 := by
      have := HW.out
      rw [List.drop_of_length_le (by rw [HN.out]; exact Nat.le_refl _), walkL] at this
      exact ⟨(congrArg Prod.fst this).symm, (congrArg Prod.snd this).symm⟩
    obtain ⟨rfl, rfl⟩ := hw
    clear HW
    go_wp2
    exact bodyPost_ret (results_two rfl _ _ _) rfl ⟨rfl, hE02.trans hE⟩
mutual
theorem walk_all : ∀ p : Pat, WalkOk p
  | .node k pl mi nt mn mx l => walk_step k pl mi nt mn mx l (walk_alls l)
theorem walk_alls : ∀ l : List Pat, ∀ p ∈ l, WalkOk p
  | [], _, h => by cases h
  | q :: l, p, h => (List.mem_cons.1 h).elim (fun e => e ▸ walk_all q) (fun h => walk_alls l p h)
end

theorem refcheck_any {K : Nat → Prop} {w : World} {p : Pat} {cs : List Value} (hp : PatAt K w p cs) :
    Calls Tryd.prog 33 #[.agg cs.toArray] w fun e w' => e = .returned (.int .i64 (chkP p)) ∧ Ext w w' := by
  have hE1 : Ext w (w.alloc (.cells cs.toArray 27)) := (Turn.refl _ w).alloc _
  have hc := walk_all p K _ cs 0 (hp.ext hE1) (by omega)
  rw [walkP_zero] at hc
  obtain ⟨qo, qcap, hcq, _, _, _⟩ := patAt_cells hp
  rw [hcq] at hc ⊢
  unfold patCells at hc ⊢
  obtain ⟨a, ha⟩ : ∃ b, (walkP p 0).1 = b := ⟨_, rfl⟩
  obtain ⟨z, hz⟩ : ∃ b, chkP p = b := ⟨_, rfl⟩
  rw [ha, hz] at hc
  rw [hz]
  have HC := Lib.hid hc
  clear hc hcq hE1 ha hz
  go_enter Tryd.func33, Tryd.ntmps33
  go_wp2_with fail
  refine HC.out.mono ?_
  rintro e w2 ⟨rfl, hE⟩
  have hE2 : Ext w w2 := Turn.trans ((Turn.refl _ w).alloc _) hE
  clear hE
  go_wp2
  go_ret
  exact ⟨rfl, hE2⟩

theorem refboth_any {K : Nat → Prop} {w : World} {p : Pat} {cs : List Value} {v : Value} {ws : Wd} (hp : PatAt K w p cs) (hv : WordAt w v ws) :
    Calls Tryd.prog 51 #[.agg cs.toArray, v] w fun e w' => e = .returned (.int .i64 (relE p ws)) ∧ Ext w w' := by
  have hE1 : Ext w (w.alloc (.cells cs.toArray 27)) := (Turn.refl _ w).alloc _
  have hc := refcheck_any (hp.ext hE1)
  have hw := fun (V : World) (hE : Ext w V) => rcheck_any (hv.ext hE)
  have HR : Hid (relE p ws = if chkP p = 0 then wE ws else chkP p) := Lib.hid (by unfold relE wE; rfl)
  obtain ⟨qo, qcap, hcq, _, _, _⟩ := patAt_cells hp
  obtain ⟨bo, bcap, rfl, _⟩ := hv.slice
  rw [hcq] at hc ⊢
  unfold patCells at hc ⊢
  obtain ⟨a, ha⟩ : ∃ b, wE ws = b := ⟨_, rfl⟩
  obtain ⟨z, hz⟩ : ∃ b, chkP p = b := ⟨_, rfl⟩
  obtain ⟨n, hn⟩ : ∃ n, ws.length = n := ⟨_, rfl⟩
  rw [hz] at hc HR
  rw [ha] at hw HR
  rw [hn] at hw ⊢
  have HC := Lib.hid hc; have HW := Lib.hid hw
  clear hc hcq hE1 ha hz hw hn hv
  go_enter Tryd.func51, Tryd.ntmps51
  go_wp2_with fail
  refine HC.out.mono ?_
  rintro e w2 ⟨rfl, hE⟩
  have hE2 : Ext w w2 := Turn.trans ((Turn.refl _ w).alloc _) hE
  clear hE HC
  by_cases hz0 : z = 0
  · rw [if_pos hz0] at HR
    subst hz0
    go_wp2_with fail
    refine (HW.out _ hE2).mono ?_
    rintro e w3 ⟨rfl, hE⟩
    have hE3 := hE2.trans hE
    clear hE
    go_wp2
    go_ret
    exact ⟨by rw [HR.out]; rfl, hE3⟩
  · rw [if_neg hz0] at HR
    have gz : (z == 0) = false := by rw [beq_eq_false_iff_ne]; exact hz0
    clear hz0
    go_wp2
    go_ret
    exact ⟨by rw [HR.out]; rfl, hE2⟩
end Go.Proofs.YtapfoaiibjdfnaaDoor
