/- word.valid, word.Check; good. pats.Size. slices.ContainsFunc over patterns; pats.empty, Empty. pats.empty, Empty. pats.relate. pats.exists, Matches, Begins. PLAIN: which patterns are valid; sums, repetitions, empty patterns. PLAIN: mirrors. -/
import Derived.Test.YtapfoaiibjdfnaaDoorCheckP
namespace Go.Proofs.YtapfoaiibjdfnaaDoor
open Go.RowKit Go.Ab
attribute [local go_sem] Oper.semAt_some wide_fn wide_depth

theorem wvalid_any (a b : Nat) (ha : a < 4294967296) (hb : b < 4294967296) (w : World) :
    Calls Tryd.prog 79 #[.agg #[.int .u32 (a : Int), .int .u32 (b : Int)]] w fun e w' => e = .returned (.bool (okSound a b)) ∧ Ext w w' := by
  obtain ⟨o1, o2⟩ := okSound_bits ha hb
  have hl : a ||| b < 4294967296 := Nat.or_lt_two_pow (n := 32) ha hb
  have hok : okSound a b = ((a &&& b == 0) && ((a ||| b) / 16777216 == 0)) := rfl
  obtain ⟨x, hx⟩ : ∃ x, (a &&& b == 0) = x := ⟨_, rfl⟩
  obtain ⟨c, hc⟩ : ∃ c, a ||| b = c := ⟨_, rfl⟩
  rw [hx] at o1 hok
  rw [hc] at o2 hok hl
  have q : ((c : Int) / 16777216 == 0) = (c / 16777216 == 0) := by
    apply Bool.eq_iff_iff.2
    rw [beq_iff_eq, beq_iff_eq]; omega
  obtain ⟨y, hy⟩ : ∃ y, (c / 16777216 == 0) = y := ⟨_, rfl⟩
  rw [hy] at q hok
  have HOK := Lib.hid hok
  clear hok hx hc hy
  go_enter Tryd.func79, Tryd.ntmps79
  cases x
  · go_wp2
    go_ret
    exact ⟨by rw [HOK.out]; rfl, (Turn.refl _ _).alloc _⟩
  · go_wp2
    go_ret
    exact ⟨by rw [HOK.out]; rfl, (Turn.refl _ _).alloc _⟩

def wE (ws : Wd) : Int := if 32 < ws.length then 11 else if allV ws = true then 0 else 14

set_option maxRecDepth 100000 in
set_option maxHeartbeats 4000000 in
theorem wcheck_any {w : World} {v : Value} {ws : Wd} (hv : WordAt w v ws) :
    Calls Tryd.prog 54 #[v] w fun e w' => e = .returned (.int .i64 (wE ws)) ∧ Ext w w' := by
  obtain ⟨ao, cap, rfl, hlm⟩ := hv.slice
  unfold maxLen at hlm
  have HV := Lib.hid hv
  clear hv
  obtain ⟨N, hN⟩ : ∃ N, ws.length = N := ⟨_, rfl⟩
  have HN := Lib.hid hN
  have HE : Hid (wE ws = if 32 < N then 11 else if allV ws = true then 0 else 14) := Lib.hid (by unfold wE; rw [hN])
  rw [hN] at hlm HV ⊢
  clear hN
  by_cases h32 : 32 < N
  · rw [if_pos h32] at HE
    have h1 : (32 : Int) < (N : Int) := by omega
    go_enter Tryd.func54, Tryd.ntmps54
    go_wp2
    go_ret
    exact ⟨by rw [HE.out]; rfl, Turn.refl _ _⟩
  rw [if_neg h32] at HE
  have h0 : ¬ (32 : Int) < (N : Int) := by omega
  go_enter Tryd.func54, Tryd.ntmps54
  go_wp2
  refine wp_loop (fun a W => ∃ (k : Nat), k ≤ N ∧ a.defers = [] ∧ (a.tmps.size = 18 ∧ a.tmps.getD 8 undef = .slice ao N cap ∧ a.tmps.getD 9 undef = .int .i64 N ∧ a.tmps.getD 10 undef = .int .i64 k) ∧ allV (ws.take k) = true ∧ Ext w W)
    (fun a _ => N - (intOf (a.tmps.getD 10 undef)).toNat) ?_ ?_
  · exact ⟨0, by omega, rfl, ⟨rfl, rfl, rfl, rfl⟩, by simp [allV], Turn.refl _ _⟩
  rintro ⟨t, _⟩ W ⟨k, hk, hds, ⟨hsz, f8, f9, f10⟩, hall, hE⟩
  subst hds
  obtain ⟨u', hu⟩ := frame_fun hsz
  obtain ⟨u, rfl⟩ : ∃ x, x = u' := ⟨_, rfl⟩
  have hu' : t = #[u 0, u 1, u 2, u 3, u 4, u 5, u 6, u 7, u 8, u 9, u 10, u 11, u 12, u 13, u 14, u 15, u 16, u 17] := hu
  clear hu
  subst hu'
  change u 8 = _ at f8
  change u 9 = _ at f9
  change u 10 = _ at f10
  rw [f8, f9, f10]
  clear f8 f9 f10 hsz
  have HALL := Lib.hid hall
  clear hall
  by_cases hkN : k < N
  · have h1 : (k : Int) < (N : Int) := by omega
    have hkl : k < ws.length := by rw [HN.out]; exact hkN
    obtain ⟨g, off, cap', he, hg, d1, d2⟩ := (HV.out.ext hE).at hkl
    simp only [Value.slice.injEq] at he
    obtain ⟨rfl, hq', rfl⟩ := he
    clear hq'
    obtain ⟨hs1, hs2⟩ := HV.out.2.get k hkl
    obtain ⟨a, ha⟩ : ∃ a, (ws.getD k (0, 0)).1 = a := ⟨_, rfl⟩
    obtain ⟨b, hb⟩ : ∃ b, (ws.getD k (0, 0)).2 = b := ⟨_, rfl⟩
    rw [ha] at d1 hs1
    rw [hb] at d2 hs2
    have HA := Lib.hid ha; have HB := Lib.hid hb
    clear ha hb
    go_wp2_with fail
    refine (wvalid_any a b hs1 hs2 _).mono ?_
    rintro e W2 ⟨rfl, hE2⟩
    have hE02 : Ext w W2 := hE.trans (Turn.trans ((Turn.refl _ W).alloc _) hE2)
    clear hE hE2 d1 d2
    cases hok : okSound a b
    · have hfin : allV ws = false := allV_at hkl (by rw [HA.out, HB.out]; exact hok)
      have HF := Lib.hid hfin
      clear hfin hok
      go_wp2
      go_ret
      exact ⟨by rw [HE.out, HF.out]; rfl, hE02⟩
    · have hfin := allV_take hkl HALL.out (by rw [HA.out, HB.out]; exact hok)
      have HF := Lib.hid hfin
      clear hfin hok
      go_wp2
      exact ⟨⟨k + 1, by omega, by first | rfl | trivial, ⟨rfl, rfl, rfl, rfl⟩, HF.out, hE02⟩, by simp [intOf]; omega⟩
  · obtain rfl : k = N := by omega
    have h1 : ¬ (k : Int) < (k : Int) := by omega
    have hfin : allV ws = true := by have := HALL.out; rwa [List.take_of_length_le (by rw [HN.out]; exact Nat.le_refl _)] at this
    have HF := Lib.hid hfin
    clear hfin
    go_wp2
    go_ret
    exact ⟨by rw [HE.out, HF.out]; rfl, hE⟩

def goodV (p : Pat) (ws : Wd) : Bool := decide (ws.length ≤ 32) && decide (wE ws = 0) && decide (chkP p = 0)
set_option maxRecDepth 100000 in
set_option maxHeartbeats 4000000 in
theorem good_any {K : Nat → Prop} {w : World} {p : Pat} {cs : List Value} {v : Value} {ws : Wd} (hp : PatAt K w p cs) (hK : ∀ g, K g → g < w.heap.size) (hv : WordAt w v ws) (hT : Tab w) :
    Calls Tryd.prog 26 #[.agg cs.toArray, v] w fun e w' => e = .returned (.bool (goodV p ws)) ∧ Ext w w' := by
  have hck := fun (V : World) (hE : Ext w V) => check_any (K := K) (hp.ext hE) (fun g hg => Nat.lt_of_lt_of_le (hK g hg) hE.size) (hT.keep hE id)
  have hwc := fun (V : World) (hE : Ext w V) => wcheck_any (hv.ext hE)
  obtain ⟨ao, cap, rfl, hlc, hcm, _⟩ := patAt_cells hp
  obtain ⟨bo, bcap, rfl, hbm⟩ := hv.slice
  clear hp hlc hcm hv hT hK
  obtain ⟨z, hz⟩ : ∃ z, chkP p = z := ⟨_, rfl⟩
  obtain ⟨y, hy⟩ : ∃ z, wE ws = z := ⟨_, rfl⟩
  obtain ⟨n, hN⟩ : ∃ n, ws.length = n := ⟨_, rfl⟩
  have HE : Hid (goodV p ws = (decide (n ≤ 32) && decide (y = 0) && decide (z = 0))) := Lib.hid (by unfold goodV; rw [hz, hy, hN])
  have HCK := Lib.hid hck; have HWC := Lib.hid hwc
  rw [hz] at HCK
  rw [hy, hN] at HWC
  rw [hN] at hbm ⊢
  clear hck hwc hz hy hN
  unfold maxLen at hbm
  unfold patCells at HCK ⊢
  by_cases hn : n ≤ 32
  · have h1 : (n : Int) ≤ 32 := by omega
    go_enter Tryd.func26, Tryd.ntmps26
    go_wp2_with fail
    refine (HWC.out _ ((Turn.refl _ w).alloc _)).mono ?_
    rintro e w2 ⟨rfl, hE2⟩
    have hE02 : Ext w w2 := Turn.trans ((Turn.refl _ w).alloc _) hE2
    have hx : w2.heap[w.heap.size]? = some (.cells #[.int .i64 p.k, .int .u32 (p.pl : Int), .int .u32 (p.mi : Int), .bool p.nt, .int .i64 p.mn, .int .i64 p.mx, .slice ao p.l.length cap] 27 (0, 0)) := hE2.keep (new_at rfl)
    have cX := fun j => cell_of_row _ _ j _ _ _ hx
    clear hE2
    by_cases hy0 : y = 0
    · have hy1 : (y == 0) = true := by rw [beq_iff_eq]; exact hy0
      go_wp2_with fail
      refine (HCK.out _ hE02).mono ?_
      rintro e w3 ⟨rfl, hE3⟩
      have hE03 := hE02.trans hE3
      clear hE3 cX hx
      go_wp2
      go_ret
      refine ⟨?_, hE03⟩
      rw [HE.out, decide_eq_true hn, decide_eq_true hy0, Bool.true_and, Bool.true_and]
      rfl
    · have hy1 : (y == 0) = false := by rw [beq_eq_false_iff_ne]; exact hy0
      go_wp2
      go_ret
      exact ⟨by rw [HE.out, decide_eq_false hy0, Bool.and_false, Bool.false_and]; rfl, hE02⟩
  · have h1 : ¬ (n : Int) ≤ 32 := by omega
    go_enter Tryd.func26, Tryd.ntmps26
    go_wp2
    go_ret
    exact ⟨by rw [HE.out, decide_eq_false hn, Bool.false_and, Bool.false_and]; rfl, (Turn.refl _ w).alloc _⟩
end Go.Proofs.YtapfoaiibjdfnaaDoor

namespace Go.Proofs.YtapfoaiibjdfnaaDoor
open Go.RowKit Go.Ab
attribute [local go_sem] Oper.semAt_some wide_fn wide_depth

mutual
/-- How many nodes there are. -/
def totP : Pat → Nat
  | .node _ _ _ _ _ _ l => totL l + 1
def totL : List Pat → Nat
  | [] => 0
  | p :: l => totP p + totL l
end
theorem totP_eq (p : Pat) : totP p = totL p.l + 1 := by cases p; unfold totP; rfl
theorem totL_append (a b : List Pat) : totL (a ++ b) = totL a + totL b := by
  induction a with
  | nil => simp [totL]
  | cons p a ih => simp only [List.cons_append, totL, ih]; omega
theorem totL_len (l : List Pat) : l.length ≤ totL l := by
  induction l with
  | nil => simp
  | cons p l ih => simp only [totL, List.length_cons, totP_eq]; omega
theorem szW_tot : ∀ (f : Nat) (l : List Pat), szW f l = min f (totL l)
  | 0, l => by rw [szW_zero]; omega
  | f + 1, [] => by simp [szW, totL]
  | f + 1, p :: l => by
    show szW f (p.l ++ l) + 1 = _
    rw [szW_tot f, totL_append]
    simp only [totL, totP_eq]
    omega
theorem sizeP_tot (p : Pat) : sizeP p = min 41 (totP p) := by
  unfold sizeP; rw [szW_tot]; simp [totL]
theorem totL_cut (l : List Pat) (c : Nat) : min c (totL (l.take 41)) = min c (totL l) ∨ 41 < c := by
  by_cases h : l.length ≤ 41
  · rw [List.take_of_length_le h]; exact .inl rfl
  · by_cases hc : 41 < c
    · exact .inr hc
    · left
      have h1 := totL_len (l.take 41)
      have h2 := totL_len l
      rw [List.length_take] at h1
      omega

theorem Stk.append {K : Nat → Prop} {W : World} {ps qs : List Pat} {xs ys : List Value} (h : Stk K W ps xs) (k : Stk K W qs ys) : Stk K W (ps ++ qs) (xs ++ ys) := by
  refine ⟨by rw [List.length_append, h.1, k.1, List.length_append]; omega, fun i hi => ?_⟩
  by_cases hip : i < ps.length
  · obtain ⟨d, h1, h2, h3⟩ := h.2 i hip
    refine ⟨d, h1, fun j v hj => ?_, by rw [List.getElem_append_left hip]; exact h3⟩
    have := h2 j v hj
    rw [List.getElem?_append_left (List.getElem?_eq_some_iff.1 this).1]; exact this
  · obtain ⟨d, h1, h2, h3⟩ := k.2 (i - ps.length) (by simp at hi; omega)
    refine ⟨d, h1, fun j v hj => ?_, by rw [List.getElem_append_right (by omega)]; exact h3⟩
    have := h2 j v hj
    rw [List.getElem?_append_right (by rw [h.1]; omega), h.1]
    rw [show i * 7 + j - ps.length * 7 = (i - ps.length) * 7 + j by omega]; exact this

/-- The first patterns of a row, as a slice that is read. -/
theorem PatsAt.row {K : Nat → Prop} {w : World} {l : List Pat} {ao : Option Addr} (h : PatsAt K w l ao 0) (cap : Nat) : ∀ T, T ≤ l.length → T ≤ maxLen →
    ∃ news, Rd w (.slice ao T cap) T 7 news ∧ Stk K w (l.take T) news ∧ ∀ v ∈ news, v.oneCell' = true
  | 0, _, _ => ⟨[], ⟨rfl, Nat.zero_le _, ao, cap, rfl, fun h => absurd h (by decide)⟩, Stk.nil K w, fun v hv => by cases hv⟩
  | T + 1, hT, hm => by
    obtain ⟨news, hr, hs, h1⟩ := PatsAt.row h cap T (by omega) (by omega)
    obtain ⟨g, off, c, rfl, hg, hgl, hra, hp⟩ := h.get T (by omega)
    obtain ⟨qo, qcap, hc, _⟩ := patAt_cells hp
    have hc7 : c.length = 7 := by rw [hc]; rfl
    rw [Nat.zero_add] at hra
    obtain ⟨hl, _, _, _, e, h3⟩ := hr
    refine ⟨news ++ c, ⟨by rw [List.length_append, hl, hc7]; omega, hm, _, cap, rfl, fun _ => ⟨g, off, rfl, hgl, fun j hj => ?_⟩⟩, ?_, ?_⟩
    · by_cases hjT : j < T * 7
      · obtain ⟨g', off', e1, _, h4⟩ := h3 (by omega)
        simp only [Value.slice.injEq] at e
        obtain ⟨e, _⟩ := e
        rw [← e] at e1
        cases e1
        rw [h4 j hjT, List.getD_eq_getElem?_getD, List.getD_eq_getElem?_getD, List.getElem?_append_left (by omega)]
      · have hjc : j - T * 7 < c.length := by omega
        have := hra (j - T * 7) _ (List.getElem?_eq_getElem hjc)
        rw [show off + T * 7 + (j - T * 7) = off + j by omega] at this
        rw [this, List.getD_eq_getElem?_getD, List.getElem?_append_right (by omega), hl, List.getElem?_eq_getElem hjc, Option.getD_some]
    · rw [List.take_succ_eq_append_getElem (by omega)]
      exact hs.push hc7 hp
    · intro v hv
      rcases List.mem_append.1 hv with hv | hv
      · exact h1 v hv
      · rw [hc] at hv; exact patCells_one v hv

set_option maxRecDepth 100000 in
set_option maxHeartbeats 8000000 in
theorem size_any {K : Nat → Prop} {w : World} {p : Pat} {cs : List Value} (hp : PatAt K w p cs) (hK : ∀ g, K g → g < w.heap.size) :
    Calls Tryd.prog 29 #[.agg cs.toArray] w fun e w' => e = .returned (.int .i64 (sizeP p)) ∧ Ext w w' := by
  have hp0 := hp
  obtain ⟨ao, cap, rfl, hlc, hcm, _⟩ := patAt_cells hp
  obtain ⟨pk, hpk⟩ : ∃ x, p.k = x := ⟨_, rfl⟩
  obtain ⟨ppl, hppl⟩ : ∃ x, p.pl = x := ⟨_, rfl⟩
  obtain ⟨pmi, hpmi⟩ : ∃ x, p.mi = x := ⟨_, rfl⟩
  obtain ⟨pnt, hpnt⟩ : ∃ x, p.nt = x := ⟨_, rfl⟩
  obtain ⟨pmn, hpmn⟩ : ∃ x, p.mn = x := ⟨_, rfl⟩
  obtain ⟨pmx, hpmx⟩ : ∃ x, p.mx = x := ⟨_, rfl⟩
  obtain ⟨pN, hpN⟩ : ∃ x, p.l.length = x := ⟨_, rfl⟩
  rw [hpk, hppl, hpmi, hpnt, hpmn, hpmx, hpN] at hp0 ⊢
  have HP0 := Lib.hid hp0
  obtain ⟨Z, hZ⟩ : ∃ Z, sizeP p = Z := ⟨_, rfl⟩
  have HZ : Hid (Z = min 41 (totP p)) := Lib.hid (by rw [← hZ, sizeP_tot])
  rw [hZ]
  unfold patCells
  clear hp hp0 hpk hppl hpmi hpnt hpmn hpmx hpN hlc hcm hZ
  obtain ⟨B, hB⟩ : ∃ B, w.heap.size = B := ⟨_, rfl⟩
  have HB := Lib.hid hB
  clear hB
  go_enter Tryd.func29, Tryd.ntmps29
  go_wp2
  have hB := HB.out
  have hSt0 : Stk (· < B) w [p] (patCells pk ppl pmi pnt pmn pmx ao pN cap) := by
    subst hB
    have := (Stk.nil (· < w.heap.size) w).push (c := patCells pk ppl pmi pnt pmn pmx ao pN cap) rfl (HP0.out.mono (fun g h => hK g h))
    simpa using this
  have hrow0 : ((w.alloc (.cells (patCells pk ppl pmi pnt pmn pmx ao pN cap).toArray 27)).alloc (.cells (patCells pk ppl pmi pnt pmn pmx ao pN cap).toArray 27)).ownsRow B 27 7 (.slice (some ⟨B + 1, 0, none⟩) 1 1) 1 (patCells pk ppl pmi pnt pmn pmx ao pN cap) := by
    subst hB
    exact ⟨rfl, .inr ⟨_, _, _, rfl, by omega, new_at (by simp), by omega, by decide, rfl, rfl⟩⟩
  have hE0 : Ext w ((w.alloc (.cells (patCells pk ppl pmi pnt pmn pmx ao pN cap).toArray 27)).alloc (.cells (patCells pk ppl pmi pnt pmn pmx ao pN cap).toArray 27)) := ((Turn.refl _ _).alloc _).alloc _
  unfold patCells at hrow0 hE0
  generalize ((w.alloc (.cells [.int .i64 pk, .int .u32 (ppl : Int), .int .u32 (pmi : Int), .bool pnt, .int .i64 pmn, .int .i64 pmx, .slice ao pN cap].toArray 27)).alloc (.cells [.int .i64 pk, .int .u32 (ppl : Int), .int .u32 (pmi : Int), .bool pnt, .int .i64 pmn, .int .i64 pmx, .slice ao pN cap].toArray 27)) = w1 at hrow0 hE0 ⊢
  rw [hB]
  clear hB
  go_loopw [3, 4] (fun v nV wr => ∃ (n : Nat) (ps : List Pat) (ao : Option Addr) (cap : Nat) (xs : List Value), n ≤ 41 ∧ nV = .int .i64 n ∧ v = .slice ao ps.length cap ∧ wr.ownsRow B 27 7 (.slice ao ps.length cap) ps.length xs ∧ Stk (· < B) wr ps xs ∧ Hid (n + min (41 - n) (totL ps) = Z) ∧ Ext w wr ∧ ps.length ≤ 41 * n + 1)
    (fun _ nV _ => 41 - (intOf nV).toNat)
  case atStart => exact ⟨0, [p], _, _, _, by omega, rfl, rfl, hrow0, hSt0.ext hE0 (fun _ _ h => h), Lib.hid (by rw [HZ.out]; simp [totL]), hE0, by simp⟩
  case round =>
    obtain ⟨n, ps, ao2, cap2, xs, hn, rfl, rfl, hO, hS, HT, hE, hpl⟩ := hrel
    rcases List.eq_nil_or_concat ps with rfl | ⟨qs, q, hq⟩
    · have hz : Z = n := by have := HT.out; simp [totL] at this; omega
      go_wp2
      go_ret
      exact ⟨ret_int (by omega), hE⟩
    · rw [List.concat_eq_append] at hq
      subst hq
      obtain ⟨hS1, c, hc7, hcx, hqc⟩ := hS.pop
      obtain ⟨M, hMq⟩ : ∃ M, qs.length = M := ⟨_, rfl⟩
      have hlen : (qs ++ [q]).length = M + 1 := by rw [List.length_append, hMq]; rfl
      rw [hlen] at hO hpl ⊢
      rw [hMq] at hS1 hcx
      obtain ⟨g, rfl⟩ := own_addr hO
      by_cases hn41 : n = 41
      · have hz : Z = 41 := by have := HT.out; omega
        subst hn41
        clear hO hS1 hcx hc7 hqc hS
        go_wp2
        go_ret
        exact ⟨ret_int (by rw [hz]), hE⟩
      · obtain ⟨qo, qcap, hcq, hqlc, hqcm, hqs⟩ := patAt_cells hqc
        have hO1 := own_pop hO
        obtain ⟨c0, c1, c2, c3, c4, c5, c6⟩ := patCells_at (own_range hO (o := M * 7) hcx) hcq
        have HQL := Lib.hid hqlc; have HQS := Lib.hid hqs
        obtain ⟨qN, hqN⟩ : ∃ x, q.l.length = x := ⟨_, rfl⟩
        rw [hqN] at c6 HQL
        have HQN := Lib.hid hqN
        have h5 : M ≤ cap2 := by
          rcases hO.2 with ⟨e, _⟩ | ⟨_, _, _, e, _, _, hnc, _⟩
          · cases e
          · cases e; omega
        have hgW : g < wr.heap.size := (hO.lt _ rfl).2
        have hgB : B ≤ g := (hO.lt _ rfl).1
        have hk2 : qN ≤ qcap := HQL.out
        have HO1 := Lib.hid hO1
        clear hqlc hqc hcx hcq hqs hqN hc7 hO hO1 hS
        unfold maxLen at hqcm
        rcases Nat.lt_or_ge 41 qN with h41 | h41
        · have h42 : ¬ (qN : Int) ≤ 41 := by omega
          obtain ⟨news, hrd, hsn, hon⟩ := PatsAt.row HQS.out qcap 41 (by rw [HQN.out]; omega) (by unfold maxLen; omega)
          have hcut : q.l.take 41 = q.l.take 41 := rfl
          have hnz : n + 1 + min (41 - (n + 1)) (totL (qs ++ q.l.take 41)) = Z := by
            rw [hcut, totL_append, ← HT.out, totL_append]
            have h1 : totL [q] = totL q.l + 1 := by simp [totL, totP_eq]
            have h2 := totL_cut q.l 40
            have h3 := totL_cut q.l (40 - n - totL qs)
            rw [h1]
            omega
          have hlen2 : (qs ++ q.l.take 41).length = M + 41 := by rw [List.length_append, hMq, List.length_take, Nat.min_eq_left (by rw [HQN.out]; omega)]
          have HRD := Lib.hid hrd; have HSN := Lib.hid hsn; have HON := Lib.hid hon; have HNZ := Lib.hid hnz; have HL2 := Lib.hid hlen2; have HS1 := Lib.hid hS1
          clear hrd hsn hon hnz hlen2 hcut hS1
          go_wp2_with (at_builtin; refine append_rd rfl (.tmp 28) (.tmp 35) 25 rfl B 27 _ 7 64 Tryd.underlying25 Tryd.infoPat rfl (by decide) (.slice (some ⟨g, 0, none⟩) M cap2) M _ rfl (own_ext HO1.out ((Turn.refl _ wr).alloc _)) (.slice qo 41 qcap) 41 _ rfl (HRD.out.ext ((Turn.refl _ wr).alloc _)) HON.out ?c3 ?c4 ?c5 ?_)
          case c3 => unfold maxLen; omega
          case c4 => omega
          case c5 => have := hE.size; have := HB.out; simp; omega
          intro ao5 cc w5 hO5 hT5 _
          have hT6 : Turn (· = g) wr w5 := ((Turn.refl (· = g) wr).alloc _).trans (hT5.mono (fun b _ e => by cases e; rfl))
          have hS6 := (HS1.out.append HSN.out).ext hT6 (fun b hb e => by omega)
          have hE6 : Ext w w5 := hE.after hT6 (fun b h1 h2 => by have := HB.out; omega)
          rw [← HL2.out] at hO5
          have HO5 := Lib.hid hO5; have HS6 := Lib.hid hS6
          clear hO5 hS6 hT5 hT6 hE c0 c1 c2 c3 c4 c5 c6
          go_wp2
          go_roundw
          case rel => exact ⟨n + 1, qs ++ q.l.take 41, _, _, _, by omega, by go_num, by rw [HL2.out], HO5.out, HS6.out, HNZ, hE6, by rw [HL2.out]; omega⟩
          case measure => simp [intOf]; omega
        · have h42 : (qN : Int) ≤ 41 := by omega
          obtain ⟨news, hrd, hsn, hon⟩ := PatsAt.row HQS.out qcap qN (by rw [HQN.out]; omega) (by unfold maxLen; omega)
          have hcut : q.l.take qN = q.l.take 41 := by rw [List.take_of_length_le (by rw [HQN.out]; omega), List.take_of_length_le (by rw [HQN.out]; omega)]
          have hnz : n + 1 + min (41 - (n + 1)) (totL (qs ++ q.l.take qN)) = Z := by
            rw [hcut, totL_append, ← HT.out, totL_append]
            have h1 : totL [q] = totL q.l + 1 := by simp [totL, totP_eq]
            have h2 := totL_cut q.l 40
            have h3 := totL_cut q.l (40 - n - totL qs)
            rw [h1]
            omega
          have hlen2 : (qs ++ q.l.take qN).length = M + qN := by rw [List.length_append, hMq, List.length_take, Nat.min_eq_left (by rw [HQN.out]; omega)]
          have HRD := Lib.hid hrd; have HSN := Lib.hid hsn; have HON := Lib.hid hon; have HNZ := Lib.hid hnz; have HL2 := Lib.hid hlen2; have HS1 := Lib.hid hS1
          clear hrd hsn hon hnz hlen2 hcut hS1
          go_wp2_with (at_builtin; refine append_rd rfl (.tmp 28) (.tmp 35) 25 rfl B 27 _ 7 64 Tryd.underlying25 Tryd.infoPat rfl (by decide) (.slice (some ⟨g, 0, none⟩) M cap2) M _ rfl (own_ext HO1.out ((Turn.refl _ wr).alloc _)) (.slice qo qN qcap) qN _ rfl (HRD.out.ext ((Turn.refl _ wr).alloc _)) HON.out ?c3 ?c4 ?c5 ?_)
          case c3 => unfold maxLen; omega
          case c4 => omega
          case c5 => have := hE.size; have := HB.out; simp; omega
          intro ao5 cc w5 hO5 hT5 _
          have hT6 : Turn (· = g) wr w5 := ((Turn.refl (· = g) wr).alloc _).trans (hT5.mono (fun b _ e => by cases e; rfl))
          have hS6 := (HS1.out.append HSN.out).ext hT6 (fun b hb e => by omega)
          have hE6 : Ext w w5 := hE.after hT6 (fun b h1 h2 => by have := HB.out; omega)
          rw [← HL2.out] at hO5
          have HO5 := Lib.hid hO5; have HS6 := Lib.hid hS6
          clear hO5 hS6 hT5 hT6 hE c0 c1 c2 c3 c4 c5 c6
          go_wp2
          go_roundw
          case rel => exact ⟨n + 1, qs ++ q.l.take qN, _, _, _, by omega, by go_num, by rw [HL2.out], HO5.out, HS6.out, HNZ, hE6, by rw [HL2.out]; omega⟩
          case measure => simp [intOf]; omega
end Go.Proofs.YtapfoaiibjdfnaaDoor

namespace Go.Proofs.YtapfoaiibjdfnaaDoor
open Go.RowKit Go.Ab
attribute [local go_sem] Oper.semAt_some wide_fn wide_depth

theorem any_take {l : List Pat} {F : Pat → Bool} {k : Nat} (hk : k < l.length) (h0 : (l.take k).any F = false) (h : F l[k] = false) : (l.take (k + 1)).any F = false := by
  rw [List.take_succ_eq_append_getElem hk, List.any_append, h0]; simp [h]
theorem any_at {l : List Pat} {F : Pat → Bool} {k : Nat} (hk : k < l.length) (h : F l[k] = true) : l.any F = true :=
  List.any_eq_true.2 ⟨_, List.getElem_mem hk, h⟩

set_option maxRecDepth 100000 in
set_option maxHeartbeats 4000000 in
theorem index_pat {K : Nat → Prop} {w : World} {ao : Option Addr} {cap : Nat} {l : List Pat} (hl : PatsAt K w l ao 0) (hlm : l.length ≤ maxLen) (fn : Nat) (hen : ∀ args w, (callFunc fn args).run Tryd.prog w = .ok (.enter fn args) w)
    (F : Pat → Bool) (hF : ∀ p ∈ l, ∀ cs V, Ext w V → PatAt K V p cs → Calls Tryd.prog fn #[.agg cs.toArray] V fun e w' => e = .returned (.bool (F p)) ∧ Ext V w') :
    Calls Tryd.prog 88 #[.slice ao l.length cap, .func (.func fn) #[] #[]] w fun e w' => ∃ z : Int, e = .returned (.int .i64 z) ∧ decide (0 ≤ z) = l.any F ∧ Ext w w' := by
  unfold maxLen at hlm
  have HL := Lib.hid hl; have HF := Lib.hid hF
  clear hl hF
  obtain ⟨N, hN⟩ : ∃ N, l.length = N := ⟨_, rfl⟩
  have HN := Lib.hid hN
  rw [hN] at hlm ⊢
  clear hN
  have HEN := Lib.hid hen
  clear hen
  go_enter Tryd.func88, Tryd.ntmps88
  go_wp2
  refine wp_loop (fun a W => ∃ (k : Nat), k ≤ N ∧ a.defers = [] ∧ (a.tmps.size = 19 ∧ a.tmps.getD 0 undef = .slice ao N cap ∧ a.tmps.getD 1 undef = .func (.func fn) #[] #[] ∧ a.tmps.getD 7 undef = .int .i64 N ∧ a.tmps.getD 8 undef = .int .i64 k) ∧ (l.take k).any F = false ∧ Ext w W)
    (fun a _ => N - (intOf (a.tmps.getD 8 undef)).toNat) ?_ ?_
  · exact ⟨0, by omega, rfl, ⟨rfl, rfl, rfl, rfl, rfl⟩, by simp, Turn.refl _ _⟩
  rintro ⟨t, _⟩ W ⟨k, hk, hds, ⟨hsz, f0, f1, f7, f8⟩, hall, hE⟩
  subst hds
  obtain ⟨u', hu⟩ := frame_fun hsz
  obtain ⟨u, rfl⟩ : ∃ x, x = u' := ⟨_, rfl⟩
  have hu' : t = #[u 0, u 1, u 2, u 3, u 4, u 5, u 6, u 7, u 8, u 9, u 10, u 11, u 12, u 13, u 14, u 15, u 16, u 17, u 18] := hu
  clear hu
  subst hu'
  change u 0 = _ at f0
  change u 1 = _ at f1
  change u 7 = _ at f7
  change u 8 = _ at f8
  rw [f0, f1, f7, f8]
  clear f0 f1 f7 f8 hsz
  have HALL := Lib.hid hall
  clear hall
  by_cases hkN : k < N
  · have h1 : (k : Int) < (N : Int) := by omega
    have hkl : k < l.length := by rw [HN.out]; exact hkN
    obtain ⟨g, off, c, rfl, hg, hgl, hra, hp⟩ := (HL.out.ext hE).get k hkl
    rw [Nat.zero_add] at hra
    obtain ⟨qo, qcap, hcq, _, _, _⟩ := patAt_cells hp
    obtain ⟨c0, c1, c2, c3, c4, c5, c6⟩ := patCells_at hra hcq
    have hc := HF.out _ (List.getElem_mem hkl) c W hE hp
    rw [hcq] at hc
    unfold patCells at hc
    have HC := Lib.hid hc
    have hen := HEN.out
    clear hc hra hp hcq
    go_wp2_with fail
    clear hen
    refine HC.out.mono ?_
    rintro e W2 ⟨rfl, hE2⟩
    have hE02 := hE.trans hE2
    clear HC hE hE2 c0 c1 c2 c3 c4 c5 c6
    cases hok : F l[k]
    · have hfin := any_take hkl HALL.out hok
      have HFI := Lib.hid hfin
      clear hfin hok
      go_wp2
      exact ⟨⟨k + 1, by omega, by first | rfl | trivial, ⟨rfl, rfl, rfl, rfl, rfl⟩, HFI.out, hE02⟩, by simp [intOf]; omega⟩
    · have hfin := any_at hkl hok
      have HFI := Lib.hid hfin
      clear hfin hok
      go_wp2
      go_ret
      exact ⟨_, rfl, by rw [HFI.out]; simp, hE02⟩
  · obtain rfl : k = N := by omega
    have h1 : ¬ (k : Int) < (k : Int) := by omega
    have hfin : l.any F = false := by have := HALL.out; rwa [List.take_of_length_le (by rw [HN.out]; exact Nat.le_refl _)] at this
    have HFI := Lib.hid hfin
    clear hfin
    go_wp2
    go_ret
    exact ⟨_, rfl, by rw [HFI.out]; simp, hE⟩
theorem contains_pat {K : Nat → Prop} {w : World} {ao : Option Addr} {cap : Nat} {l : List Pat} (hl : PatsAt K w l ao 0) (hlm : l.length ≤ maxLen) (fn : Nat) (hen : ∀ args w, (callFunc fn args).run Tryd.prog w = .ok (.enter fn args) w)
    (F : Pat → Bool) (hF : ∀ p ∈ l, ∀ cs V, Ext w V → PatAt K V p cs → Calls Tryd.prog fn #[.agg cs.toArray] V fun e w' => e = .returned (.bool (F p)) ∧ Ext V w') :
    Calls Tryd.prog 80 #[.slice ao l.length cap, .func (.func fn) #[] #[]] w fun e w' => e = .returned (.bool (l.any F)) ∧ Ext w w' := by
  have hi := index_pat hl hlm (cap := cap) fn hen F hF
  have HI := Lib.hid hi
  clear hi hF hl hen
  go_enter Tryd.func80, Tryd.ntmps80
  go_wp2_with fail
  refine HI.out.mono ?_
  rintro e w2 ⟨z, rfl, hz, hE⟩
  have HZ := Lib.hid hz
  clear hz
  go_wp2
  go_ret
  exact ⟨by rw [← HZ.out]; rfl, hE⟩
end Go.Proofs.YtapfoaiibjdfnaaDoor

namespace Go.Proofs.YtapfoaiibjdfnaaDoor
open Go.RowKit Go.Ab
attribute [local go_sem] Oper.semAt_some wide_fn wide_depth

mutual
/-- Does a valid pattern match nothing between two sounds? -/
def emptyP : Pat → Bool
  | .node k _ _ _ mn _ l => if k = 0 then true else if k = 3 then allE l else if k = 4 then anyE l else if k = 5 then mn == 0 || headE l else false
def allE : List Pat → Bool
  | [] => true
  | p :: l => emptyP p && allE l
def anyE : List Pat → Bool
  | [] => false
  | p :: l => emptyP p || anyE l
def headE : List Pat → Bool
  | [] => false
  | p :: _ => emptyP p
end
theorem emptyP_eq (k : Int) (pl mi : Nat) (nt : Bool) (mn mx : Int) (l : List Pat) : emptyP (.node k pl mi nt mn mx l) = if k = 0 then true else if k = 3 then allE l else if k = 4 then anyE l else if k = 5 then mn == 0 || headE l else false := by
  unfold emptyP; rfl
theorem anyE_eq (l : List Pat) : anyE l = l.any emptyP := by
  induction l with
  | nil => rfl
  | cons p l ih => unfold anyE; rw [ih]; rfl
theorem allE_eq (l : List Pat) : allE l = !(l.any fun p => !emptyP p) := by
  induction l with
  | nil => rfl
  | cons p l ih => unfold allE; rw [ih, List.any_cons, Bool.not_or, Bool.not_not]

def EmpOk (p : Pat) : Prop := ∀ (K : Nat → Prop) (w : World) (cs : List Value), PatAt K w p cs → okPat p →
  Calls Tryd.prog 55 #[.agg cs.toArray] w fun e w' => e = .returned (.bool (emptyP p)) ∧ Ext w w'

theorem not_empty {K : Nat → Prop} {w : World} {p : Pat} {cs : List Value} (h : EmpOk p) (hp : PatAt K w p cs) (hok : okPat p) :
    Calls Tryd.prog 81 #[.agg cs.toArray] w fun e w' => e = .returned (.bool (!emptyP p)) ∧ Ext w w' := by
  have hE1 : Ext w (w.alloc (.cells cs.toArray 27)) := (Turn.refl _ w).alloc _
  have hc := h K _ cs (hp.ext hE1) hok
  obtain ⟨qo, qcap, hcq, _, _, _⟩ := patAt_cells hp
  rw [hcq] at hc ⊢
  unfold patCells at hc ⊢
  obtain ⟨eb, heb⟩ : ∃ b, emptyP p = b := ⟨_, rfl⟩
  rw [heb] at hc ⊢
  have HC := Lib.hid hc
  clear hc hcq hE1 heb
  go_enter Tryd.func81, Tryd.ntmps81
  go_wp2_with fail
  refine HC.out.mono ?_
  rintro e w2 ⟨rfl, hE⟩
  have hE2 : Ext w w2 := Turn.trans ((Turn.refl _ w).alloc _) hE
  clear hE
  cases eb
  all_goals
    go_wp2
    go_ret
    exact ⟨rfl, hE2⟩

set_option maxRecDepth 100000 in
set_option maxHeartbeats 8000000 in
theorem empty_step (k : Int) (pl mi : Nat) (nt : Bool) (mn mx : Int) (l : List Pat) (ih : ∀ p ∈ l, EmpOk p) : EmpOk (.node k pl mi nt mn mx l) := by
  intro K w cs hp hok
  have hp0 := hp
  unfold PatAt at hp
  obtain ⟨ao, cap, rfl, hpl, hmi, hlc, hcm, hl⟩ := hp
  unfold okPat at hok
  obtain ⟨hn, hl40, hoks⟩ := hok
  obtain ⟨hk0, g1, g2, g3, h5, g4⟩ := nodeE_zero hn
  clear g1 g2 g3 g4
  have hok2 := okPats_iff.1 hoks
  have hlm : l.length ≤ maxLen := Nat.le_trans hlc hcm
  have HNOT : Hid (∀ V, Ext w V → Calls Tryd.prog 80 #[.slice ao l.length cap, .func (.func 81) #[] #[]] V fun e w' => e = .returned (.bool (l.any fun p => !emptyP p)) ∧ Ext V w') :=
    Lib.hid fun V hE => contains_pat (hl.ext hE) hlm _ (enters_of Tryd.func81 (by kernel_rfl) rfl) (fun p => !emptyP p) (fun p hm cs V2 _ hp => not_empty (ih p hm) hp (hok2 p hm))
  have HANY : Hid (∀ V, Ext w V → Calls Tryd.prog 80 #[.slice ao l.length cap, .func (.func 55) #[] #[]] V fun e w' => e = .returned (.bool (l.any emptyP)) ∧ Ext V w') :=
    Lib.hid fun V hE => contains_pat (hl.ext hE) hlm _ (enters_of Tryd.func55 (by kernel_rfl) rfl) emptyP (fun p hm cs V2 _ hp => ih p hm K V2 cs hp (hok2 p hm))
  have h1 : Hid (k = 5 → ∃ (q : Pat) (g off : Nat) (c : List Value), l = [q] ∧ ao = some ⟨g, off, none⟩ ∧ g < w.heap.size ∧ w.rangeAt g off c ∧ PatAt K w q c ∧ okPat q ∧ EmpOk q) := Lib.hid fun h => by
    obtain ⟨hl1, _⟩ := h5 h
    match l, hl1 with
    | [q], _ =>
      obtain ⟨g, off, c, h2, _, h3, h4, h6⟩ := hl.get 0 (by simp)
      exact ⟨q, g, off, c, rfl, h2, h3, by simpa using h4, h6, hok2 q (by simp), ih q (by simp)⟩
  have HE : Hid (emptyP (.node k pl mi nt mn mx l) = if k = 0 then true else if k = 3 then allE l else if k = 4 then anyE l else if k = 5 then mn == 0 || headE l else false) := Lib.hid (emptyP_eq ..)
  unfold patCells
  obtain ⟨N, hN⟩ : ∃ N, l.length = N := ⟨_, rfl⟩
  have HN5 : Hid (k = 5 → 0 < N) := Lib.hid fun h => by rw [← hN]; have := (h5 h).1; omega
  rw [hN] at HNOT HANY ⊢
  have hE1 : Ext w (w.alloc (.cells #[.int .i64 k, .int .u32 (pl : Int), .int .u32 (mi : Int), .bool nt, .int .i64 mn, .int .i64 mx, .slice ao N cap] 27)) := (Turn.refl _ w).alloc _
  clear hp0 hpl hmi hlc hcm hl hn hl40 hoks h5 hok2 hlm ih hN
  by_cases hk0 : k = 0
  · rw [if_pos hk0] at HE
    subst hk0
    go_enter Tryd.func55, Tryd.ntmps55
    go_wp2
    go_ret
    exact ⟨by rw [HE.out]; rfl, hE1⟩
  · rw [if_neg hk0] at HE
    by_cases hk3 : k = 3
    · rw [if_pos hk3] at HE
      subst hk3
      have hc := HNOT.out _ hE1
      obtain ⟨eb, heb⟩ : ∃ b, (l.any fun p => !emptyP p) = b := ⟨_, rfl⟩
      rw [heb] at hc
      rw [allE_eq, heb] at HE
      have HC := Lib.hid hc
      clear hc heb
      go_enter Tryd.func55, Tryd.ntmps55
      go_wp2_with fail
      refine HC.out.mono ?_
      rintro e w2 ⟨rfl, hE⟩
      have hE2 : Ext w w2 := hE1.trans hE
      clear hE hE1
      cases eb
      all_goals
        go_wp2
        go_ret
        exact ⟨by rw [HE.out]; rfl, hE2⟩
    · rw [if_neg hk3] at HE
      by_cases hk4 : k = 4
      · rw [if_pos hk4] at HE
        subst hk4
        have hc := HANY.out _ hE1
        rw [anyE_eq] at HE
        have HC := Lib.hid hc
        clear hc
        go_enter Tryd.func55, Tryd.ntmps55
        go_wp2_with fail
        refine HC.out.mono ?_
        rintro e w2 ⟨rfl, hE⟩
        have hE2 : Ext w w2 := hE1.trans hE
        clear hE hE1
        go_wp2
        go_ret
        exact ⟨by rw [HE.out]; rfl, hE2⟩
      · rw [if_neg hk4] at HE
        by_cases hk5 : k = 5
        · rw [if_pos hk5] at HE
          have hN0 := HN5.out hk5
          obtain ⟨q, g, off, c, rfl, rfl, hg, hra, hq, hokq, hem⟩ := h1.out hk5
          subst hk5
          obtain ⟨qo, qcap, hcq, _, _, _⟩ := patAt_cells hq
          have hc := hem K _ c (hq.ext hE1) hokq
          rw [hcq] at hc
          obtain ⟨c0, c1, c2, c3, c4, c5, c6⟩ := patCells_at (rangeAt_turn hE1 hra id) hcq
          have hh : headE [q] = emptyP q := by unfold headE; rfl
          rw [hh] at HE
          obtain ⟨eb, heb⟩ : ∃ b, emptyP q = b := ⟨_, rfl⟩
          rw [heb] at hc HE
          unfold patCells at hc
          have HC := Lib.hid hc
          clear hc heb hh hcq hra hq h1 HNOT HANY hem hokq
          by_cases hm : mn = 0
          · subst hm
            go_enter Tryd.func55, Tryd.ntmps55
            go_wp2
            go_ret
            exact ⟨by rw [HE.out]; rfl, hE1⟩
          · have hm2 : (mn == 0) = false := by rw [beq_eq_false_iff_ne]; exact hm
            go_enter Tryd.func55, Tryd.ntmps55
            rw [hm2, Bool.false_or] at HE
            go_wp2_with fail
            refine HC.out.mono ?_
            rintro e w2 ⟨rfl, hE⟩
            have hE2 : Ext w w2 := hE1.trans hE
            clear hE hE1 c0 c1 c2 c3 c4 c5 c6
            go_wp2
            go_ret
            exact ⟨by rw [HE.out]; rfl, hE2⟩
        · rw [if_neg hk5] at HE
          have q0 : (k == 0) = false := by rw [beq_eq_false_iff_ne]; exact hk0
          have q3 : (k == 3) = false := by rw [beq_eq_false_iff_ne]; exact hk3
          have q4 : (k == 4) = false := by rw [beq_eq_false_iff_ne]; exact hk4
          have q5 : (k == 5) = false := by rw [beq_eq_false_iff_ne]; exact hk5
          clear h1 HNOT HANY
          go_enter Tryd.func55, Tryd.ntmps55
          go_wp2
          go_ret
          exact ⟨by rw [HE.out]; rfl, hE1⟩

mutual
theorem empty_all : ∀ p : Pat, EmpOk p
  | .node k pl mi nt mn mx l => empty_step k pl mi nt mn mx l (empty_alls l)
theorem empty_alls : ∀ l : List Pat, ∀ p ∈ l, EmpOk p
  | [], _, h => by cases h
  | q :: l, p, h => (List.mem_cons.1 h).elim (fun e => e ▸ empty_all q) (fun h => empty_alls l p h)
end

/-- pats.Empty. -/
def emptyV (p : Pat) : Bool := decide (chkP p = 0) && emptyP p
theorem isempty_any {K : Nat → Prop} {w : World} {p : Pat} {cs : List Value} (hp : PatAt K w p cs) (hK : ∀ g, K g → g < w.heap.size) (hT : Tab w) :
    Calls Tryd.prog 28 #[.agg cs.toArray] w fun e w' => e = .returned (.bool (emptyV p)) ∧ Ext w w' := by
  have hck := fun (V : World) (hE : Ext w V) => check_any (K := K) (hp.ext hE) (fun g hg => Nat.lt_of_lt_of_le (hK g hg) hE.size) (hT.keep hE id)
  have hem := fun (V : World) (hE : Ext w V) => empty_all p K V cs (hp.ext hE)
  obtain ⟨ao, cap, rfl, hlc, hcm, _⟩ := patAt_cells hp
  clear hp hlc hcm hT hK
  have HCK := Lib.hid hck; have HEM := Lib.hid hem
  clear hck hem
  obtain ⟨z, hz⟩ : ∃ z, chkP p = z := ⟨_, rfl⟩
  obtain ⟨eb, heb⟩ : ∃ b, emptyP p = b := ⟨_, rfl⟩
  have HE : Hid (emptyV p = (decide (z = 0) && eb)) := Lib.hid (by unfold emptyV; rw [hz, heb])
  have HZ := Lib.hid hz
  rw [hz] at HCK
  rw [heb] at HEM
  clear hz heb
  unfold patCells at HCK HEM ⊢
  go_enter Tryd.func28, Tryd.ntmps28
  go_wp2_with fail
  refine (HCK.out _ ((Turn.refl _ w).alloc _)).mono ?_
  rintro e w2 ⟨rfl, hE2⟩
  have hE02 : Ext w w2 := Turn.trans ((Turn.refl _ w).alloc _) hE2
  have hx : w2.heap[w.heap.size]? = some (.cells #[.int .i64 p.k, .int .u32 (p.pl : Int), .int .u32 (p.mi : Int), .bool p.nt, .int .i64 p.mn, .int .i64 p.mx, .slice ao p.l.length cap] 27 (0, 0)) := hE2.keep (new_at rfl)
  have cX := fun j => cell_of_row _ _ j _ _ _ hx
  clear hE2
  by_cases hz0 : z = 0
  · have hz1 : (z == 0) = true := by rw [beq_iff_eq]; exact hz0
    have hem := HEM.out _ hE02 (chkP_ok (HZ.out.trans hz0))
    have HE2 := Lib.hid hem
    clear hem
    go_wp2_with fail
    refine HE2.out.mono ?_
    rintro e w3 ⟨rfl, hE3⟩
    have hE03 := hE02.trans hE3
    clear hE3
    go_wp2
    go_ret
    exact ⟨by rw [HE.out, decide_eq_true hz0, Bool.true_and]; rfl, hE03⟩
  · have hz1 : (z == 0) = false := by rw [beq_eq_false_iff_ne]; exact hz0
    go_wp2
    go_ret
    exact ⟨by rw [HE.out, decide_eq_false hz0]; rfl, hE02⟩
end Go.Proofs.YtapfoaiibjdfnaaDoor

namespace Go.Proofs.YtapfoaiibjdfnaaDoor
open Go.RowKit Go.Ab
attribute [local go_sem] Oper.semAt_some wide_fn wide_depth

/-- The error of a pattern, or of a word. -/
def relE (p : Pat) (ws : Wd) : Int := if chkP p = 0 then (if 32 < ws.length then 11 else if allV ws = true then 0 else 14) else chkP p
def relR (p : Pat) (ws : Wd) : Bin2 := if relE p ws = 0 then relP ws p else noB

theorem rel_result2 {fn : Func} {p u : Tmp} (h : fn.results = #[.cell p 68, .tmp u]) {tmps : Array Value} {w : World} {g : Nat} {f : Nat → Nat} (hp : tmps.getD p undef = .pointer (some ⟨g, 0, none⟩)) (hg : RowsAt w g f) :
    (results fn tmps).run Tryd.prog w = .ok (.tuple #[.agg (rowArr f), tmps.getD u undef]) w := by
  have hp' : tmps[p]?.getD undef = .pointer (some ⟨g, 0, none⟩) := by simpa using hp
  simp [results, h, hp', asAddr, run_loadVar_row w g _ _ _ _ _ hg Tryd.underlying68 rfl (Tryd.relInfo f)]

set_option maxRecDepth 100000 in
set_option maxHeartbeats 8000000 in
theorem relate_any {K : Nat → Prop} {w : World} {p : Pat} {cs : List Value} {v : Value} {ws : Wd} (hp : PatAt K w p cs) (hK : ∀ g, K g → g < w.heap.size) (hv : WordAt w v ws) (hT : Tab w) :
    Calls Tryd.prog 47 #[.agg cs.toArray, v] w fun e w' => e = .returned (.tuple #[.agg (rowArr (rowM (relR p ws))), .int .i64 (relE p ws)]) ∧ Ext w w' := by
  have hck := fun (V : World) (hE : Ext w V) => check_any (K := K) (hp.ext hE) (fun g hg => Nat.lt_of_lt_of_le (hK g hg) hE.size) (hT.keep hE id)
  have hcp := fun (V : World) (hE : Ext w V) => compile_all p K V cs (hp.ext hE)
  have hbad := fun (V : World) (hE : Ext w V) => contains_bad (hv.ext hE)
  have HV := Lib.hid hv; have HT := Lib.hid hT
  obtain ⟨ao, cap, rfl, hlc, hcm, _⟩ := patAt_cells hp
  obtain ⟨bo, bcap, rfl, hbm⟩ := hv.slice
  clear hp hlc hcm hv hT hK
  have HCK := Lib.hid hck; have HCP := Lib.hid hcp; have HBAD := Lib.hid hbad
  clear hck hcp hbad
  obtain ⟨z, hz⟩ : ∃ z, chkP p = z := ⟨_, rfl⟩
  obtain ⟨bad, hbd⟩ : ∃ b, allV ws = b := ⟨_, rfl⟩
  obtain ⟨n, hN⟩ : ∃ n, ws.length = n := ⟨_, rfl⟩
  have HE : Hid (relE p ws = if z = 0 then (if 32 < n then 11 else if bad = true then 0 else 14) else z) := Lib.hid (by unfold relE; rw [hz, hbd, hN])
  rw [hz] at HCK
  rw [hbd] at HBAD
  rw [hN] at HBAD HV hbm ⊢
  have HZ := Lib.hid hz; have HBD := Lib.hid hbd; have HN := Lib.hid hN
  clear hz hbd hN
  unfold patCells at HCK HCP ⊢
  have z1 := zero_rel
  have z2 := relArr_size noB
  have z3 := relArr_ne noB
  go_enter Tryd.func47, Tryd.ntmps47
  go_wp2_with fail
  obtain ⟨B, hB⟩ : ∃ B, w.heap.size = B := ⟨_, rfl⟩
  have hx1 : ((w.alloc (.cells #[.int .i64 p.k, .int .u32 (p.pl : Int), .int .u32 (p.mi : Int), .bool p.nt, .int .i64 p.mn, .int .i64 p.mx, .slice ao p.l.length cap] 27)).alloc (.cells (relArr noB) 68)).heap[B]? = some (.cells #[.int .i64 p.k, .int .u32 (p.pl : Int), .int .u32 (p.mi : Int), .bool p.nt, .int .i64 p.mn, .int .i64 p.mx, .slice ao p.l.length cap] 27 (0, 0)) := by
    subst hB; exact new_keep (new_at rfl)
  have hr1 : RowsAt ((w.alloc (.cells #[.int .i64 p.k, .int .u32 (p.pl : Int), .int .u32 (p.mi : Int), .bool p.nt, .int .i64 p.mn, .int .i64 p.mx, .slice ao p.l.length cap] 27)).alloc (.cells (relArr noB) 68)) (B + 1) (rowM noB) := by
    subst hB; exact new_at (by simp)
  have hE1 : Ext w ((w.alloc (.cells #[.int .i64 p.k, .int .u32 (p.pl : Int), .int .u32 (p.mi : Int), .bool p.nt, .int .i64 p.mn, .int .i64 p.mx, .slice ao p.l.length cap] 27)).alloc (.cells (relArr noB) 68)) := ((Turn.refl _ w).alloc _).alloc _
  generalize ((w.alloc (.cells #[.int .i64 p.k, .int .u32 (p.pl : Int), .int .u32 (p.mi : Int), .bool p.nt, .int .i64 p.mn, .int .i64 p.mx, .slice ao p.l.length cap] 27)).alloc (.cells (relArr noB) 68)) = w1 at hx1 hr1 hE1 ⊢
  rw [hB]
  have HB := Lib.hid hB
  clear hB
  refine (HCK.out _ hE1).mono ?_
  rintro e w2 ⟨rfl, hE2⟩
  have hx2 := hE2.keep hx1
  have hr2 := hr1.keep hE2 id
  have hE02 := hE1.trans hE2
  clear hE1 hE2 hx1 hr1
  have fin : ∀ (V : World) (c : Int) (t : Array Value) (ds : List Deferred), RowsAt V (B + 1) (rowM noB) → Ext w V → ds = [] → c = relE p ws → c ≠ 0 → t.getD 4 undef = .pointer (some ⟨B + 1, 0, none⟩) → t.getD 5 undef = .int .i64 c →
      bodyPost Tryd.prog Tryd.f47 (fun e w' => e = .returned (.tuple #[.agg (rowArr (rowM (relR p ws))), .int .i64 (relE p ws)]) ∧ Ext w w') .ret { tmps := t, defers := ds } V := by
    intro V c t ds h1 h2 h3 h4 h5 h6 h7
    subst h3
    refine bodyPost_ret (rel_result2 rfl h6 h1) rfl ⟨?_, h2⟩
    have : relR p ws = noB := by unfold relR; rw [if_neg (h4 ▸ h5)]
    rw [this, ← h4]
    show Ending.returned (.tuple #[_, t.getD 5 undef]) = _
    rw [h7]
  have FIN := Lib.hid fin
  clear fin
  have cX := fun j => cell_of_row _ _ j _ _ _ hx2
  by_cases hz0 : z = 0
  · rw [if_pos hz0] at HE
    subst hz0
    by_cases hn : 32 < n
    · rw [if_pos hn] at HE
      have h1 : (32 : Int) < (n : Int) := by omega
      have hr3 : RowsAt (w2.setRow (B + 1) (rowArr (rowM noB))) (B + 1) (rowM noB) := setRow_heap _ _ _ _ _ _ hr2
      have hE3 : Ext w (w2.setRow (B + 1) (rowArr (rowM noB))) := hE02.after (Turn.setRow _ _ _) (fun b' h1 h2 => by have := HB.out; omega)
      go_wp2_with (refine wpList_store_row rfl 68 (.tmp 4) (.tmp 18) rfl (B + 1) (rowArr (rowM noB)) rfl rfl _ _ hr2 (Tryd.relInfo _) (by simp only [rowArr_size]) (rowArr_one _) ?_)
      exact FIN.out _ 11 _ _ hr3 hE3 rfl HE.out.symm (by omega) rfl rfl
    · rw [if_neg hn] at HE
      have h1 : ¬ (32 : Int) < (n : Int) := by omega
      go_wp2_with fail
      refine (HBAD.out _ hE02).mono ?_
      rintro e w3 ⟨rfl, hE3⟩
      have hx3 := hE3.keep hx2
      have hr3 := hr2.keep hE3 id
      have hE03 := hE02.trans hE3
      clear hE3 hx2 hr2 hE02 cX
      have cX := fun j => cell_of_row _ _ j _ _ _ hx3
      cases bad
      · have hr4 : RowsAt (w3.setRow (B + 1) (rowArr (rowM noB))) (B + 1) (rowM noB) := setRow_heap _ _ _ _ _ _ hr3
        have hE4 : Ext w (w3.setRow (B + 1) (rowArr (rowM noB))) := hE03.after (Turn.setRow _ _ _) (fun b' h1 h2 => by have := HB.out; omega)
        go_wp2_with (refine wpList_store_row rfl 68 (.tmp 4) (.tmp 22) rfl (B + 1) (rowArr (rowM noB)) rfl rfl _ _ hr3 (Tryd.relInfo _) (by simp only [rowArr_size]) (rowArr_one _) ?_)
        exact FIN.out _ 14 _ _ hr4 hE4 rfl HE.out.symm (by omega) rfl rfl
      · have hok : okPat p := chkP_ok HZ.out
        have HOK := Lib.hid hok
        clear hok
        go_wp2_with fail
        refine (HCP.out _ hE03 HOK.out).mono ?_
        rintro e w4 ⟨u, rfl, hPA, hE4⟩
        obtain ⟨pay, rfl⟩ := partAt_iface hPA
        have pm := part_method (cmp p) pay
        have pc := part_call (cmp p)
        have hr4 := hr3.keep hE4 id
        have hE04 := hE03.trans hE4
        have hin := in_all (cmp p) _ w4 pay _ ws hPA (HV.out.ext hE04) (by rw [HN.out]; omega) (HT.out.keep hE04 id)
        rw [relS_cmp ws p HOK.out] at hin
        have HIN := Lib.hid hin
        clear hin hE4 hr3 hE03 hx3 cX hPA
        go_wp2_with fail
        clear pm pc
        refine HIN.out.mono ?_
        rintro e w5 ⟨rfl, hE5⟩
        have hr5 := hr4.keep hE5 id
        have hE05 := hE04.trans hE5
        have hr6 : RowsAt (w5.setRow (B + 1) (rowArr (rowM (relP ws p)))) (B + 1) (rowM (relP ws p)) := setRow_heap _ _ _ _ _ _ hr5
        have hE6 : Ext w (w5.setRow (B + 1) (rowArr (rowM (relP ws p)))) := hE05.after (Turn.setRow _ _ _) (fun b' h1 h2 => by have := HB.out; omega)
        clear HIN hr4 hE04 hE5
        go_wp2_with (refine wpList_store_row rfl 68 (.tmp 4) (.tmp 26) rfl (B + 1) (rowArr (rowM (relP ws p))) rfl rfl _ _ hr5 (Tryd.relInfo _) (by simp only [rowArr_size]) (rowArr_one _) ?_)
        refine bodyPost_ret (rel_result2 rfl rfl hr6) rfl ⟨?_, hE6⟩
        have h0 : relE p ws = 0 := HE.out
        have : relR p ws = relP ws p := by unfold relR; rw [if_pos h0]
        rw [this, h0]; rfl
  · rw [if_neg hz0] at HE
    have hr3 : RowsAt (w2.setRow (B + 1) (rowArr (rowM noB))) (B + 1) (rowM noB) := setRow_heap _ _ _ _ _ _ hr2
    have hE3 : Ext w (w2.setRow (B + 1) (rowArr (rowM noB))) := hE02.after (Turn.setRow _ _ _) (fun b' h1 h2 => by have := HB.out; omega)
    go_wp2_with (refine wpList_store_row rfl 68 (.tmp 4) (.tmp 12) rfl (B + 1) (rowArr (rowM noB)) rfl rfl _ _ hr2 (Tryd.relInfo _) (by simp only [rowArr_size]) (rowArr_one _) ?_)
    exact FIN.out _ z _ _ hr3 hE3 rfl HE.out.symm hz0 rfl rfl
end Go.Proofs.YtapfoaiibjdfnaaDoor

namespace Go.Proofs.YtapfoaiibjdfnaaDoor
open Go.RowKit Go.Ab
attribute [local go_sem] Oper.semAt_some wide_fn wide_depth

def exE (n : Nat) (at' : Int) : Int := if at' < 0 ∨ (n : Int) < at' then 3 else 0
theorem exists_any (ao : Option Addr) (n cap : Nat) (at' : Int) (w : World) :
    Calls Tryd.prog 48 #[.slice ao n cap, .int .i64 at'] w fun e w' => e = .returned (.int .i64 (exE n at')) ∧ w' = w := by
  by_cases h1 : at' < 0
  · have HZ : Hid (exE n at' = 3) := Lib.hid (by unfold exE; rw [if_pos (.inl h1)])
    go_enter Tryd.func48, Tryd.ntmps48
    go_wp2
    go_ret
    exact ⟨by rw [HZ.out]; rfl, rfl⟩
  · by_cases h2 : (n : Int) < at'
    · have HZ : Hid (exE n at' = 3) := Lib.hid (by unfold exE; rw [if_pos (.inr h2)])
      go_enter Tryd.func48, Tryd.ntmps48
      go_wp2
      go_ret
      exact ⟨by rw [HZ.out]; rfl, rfl⟩
    · have HZ : Hid (exE n at' = 0) := Lib.hid (by unfold exE; rw [if_neg (by omega)])
      go_enter Tryd.func48, Tryd.ntmps48
      go_wp2
      go_ret
      exact ⟨by rw [HZ.out]; rfl, rfl⟩

theorem bit1 (x n : Nat) (hx : x < 18446744073709551616) : (bits .and .u64 ((x : Int) / 2 ^ n) 1 == 1) = x.testBit n := by
  have e : ((x : Int) / 2 ^ n) = ((x / 2 ^ n : Nat) : Int) := by simp
  have h1 : bits .and .u64 ((x / 2 ^ n : Nat) : Int) ((1 : Nat) : Int) = ((x / 2 ^ n &&& 1 : Nat) : Int) := u64_and_nat _ _ (Nat.lt_of_le_of_lt (Nat.div_le_self _ _) hx) (by decide)
  rw [e, show (1 : Int) = ((1 : Nat) : Int) from rfl, h1, Nat.and_one_is_mod, Nat.testBit_eq_decide_div_mod_eq, Bool.eq_iff_iff, beq_iff_eq, decide_eq_true_iff]
  omega
theorem bitR (R : Bin2) (a n : Nat) (hn : n ≤ 32) : (bits .and .u64 ((rowM R a : Int) / 2 ^ n) 1 == 1) = R a n := by
  rw [bit1 _ _ (by have := rowM_lt R a; omega), rowM_bit R (by omega)]

theorem relE_len {p : Pat} {ws : Wd} (h : relE p ws = 0) : ws.length ≤ 32 := by
  unfold relE at h
  by_cases hc : chkP p = 0
  · rw [if_pos hc] at h
    by_cases hl : 32 < ws.length
    · rw [if_pos hl] at h; cases h
    · omega
  · rw [if_neg hc] at h; exact absurd h hc

def matV (p : Pat) (ws : Wd) : Bool := decide (relE p ws = 0) && relR p ws 0 ws.length
theorem results_two {fn : Func} {t u : Tmp} (h : fn.results = #[.tmp t, .tmp u]) (tmps : Array Value) (P : Program) (w : World) :
    (results fn tmps).run P w = .ok (.tuple #[tmps.getD t undef, tmps.getD u undef]) w := by
  simp [results, h]

set_option maxRecDepth 100000 in
set_option maxHeartbeats 8000000 in
theorem matches_any {K : Nat → Prop} {w : World} {p : Pat} {cs : List Value} {v : Value} {ws : Wd} (hp : PatAt K w p cs) (hK : ∀ g, K g → g < w.heap.size) (hv : WordAt w v ws) (hT : Tab w) :
    Calls Tryd.prog 21 #[.agg cs.toArray, v] w fun e w' => e = .returned (.tuple #[.bool (matV p ws), .int .i64 (relE p ws)]) ∧ Ext w w' := by
  have hre := fun (V : World) (hE : Ext w V) => relate_any (K := K) (hp.ext hE) (fun g hg => Nat.lt_of_lt_of_le (hK g hg) hE.size) (hv.ext hE) (hT.keep hE id)
  obtain ⟨ao, cap, rfl, hlc, hcm, _⟩ := patAt_cells hp
  obtain ⟨bo, bcap, rfl, hbm⟩ := hv.slice
  clear hp hlc hcm hv hT hK
  have HRE := Lib.hid hre
  clear hre
  obtain ⟨z, hz⟩ : ∃ z, relE p ws = z := ⟨_, rfl⟩
  obtain ⟨R, hR⟩ : ∃ R, relR p ws = R := ⟨_, rfl⟩
  obtain ⟨n, hN⟩ : ∃ n, ws.length = n := ⟨_, rfl⟩
  have HM : Hid (matV p ws = (decide (z = 0) && R 0 n)) := Lib.hid (by unfold matV; rw [hz, hR, hN])
  have hn32 : z = 0 → n ≤ 32 := fun h => by
    subst hz; subst hN
    exact relE_len h
  rw [hz] at HRE ⊢
  rw [hR] at HRE
  rw [hN] at HRE hbm ⊢
  clear hz hR hN
  have HNL := Lib.hid hn32
  clear hn32
  unfold patCells at HRE ⊢
  have z1 := zero_rel
  have z2 := relArr_size noB
  have z3 := relArr_ne noB
  go_enter Tryd.func21, Tryd.ntmps21
  go_wp2_with fail
  refine (HRE.out _ ((Turn.refl _ w).alloc _)).mono ?_
  rintro e w2 ⟨rfl, hE2⟩
  have hE02 : Ext w w2 := Turn.trans ((Turn.refl _ w).alloc _) hE2
  clear hE2
  have hR0 : (w2.alloc (.cells (relArr noB) 68)).heap[w2.heap.size]? = some (.cells (relArr noB) 68 (0, 0)) := new_at rfl
  have hR3 : RowsAt ((w2.alloc (.cells (relArr noB) 68)).setRow w2.heap.size (rowArr (rowM R))) w2.heap.size (rowM R) := setRow_heap _ _ _ _ _ _ hR0
  have hE3 : Ext w ((w2.alloc (.cells (relArr noB) 68)).setRow w2.heap.size (rowArr (rowM R))) := hE02.trans (((Turn.refl _ w2).alloc _).after (Turn.setRow _ _ _) (fun b' h1 h2 => by omega))
  go_upto_region 2 with (refine wpList_store_row rfl 68 (.tmp 6) (.tmp 12) rfl w2.heap.size (rowArr (rowM R)) rfl rfl _ _ hR0 (Tryd.relInfo _) (by rw [relArr_size, rowArr_size]) (rowArr_one _) ?_)
  generalize ((w2.alloc (.cells (relArr noB) 68)).setRow w2.heap.size (rowArr (rowM R))) = w3 at hR3 hE3 ⊢
  generalize w2.heap.size = b at hR3 ⊢
  clear hR0 hE02 z1 z2 z3
  by_cases hz0 : z = 0
  · have hn := HNL.out hz0
    subst hz0
    have c0 := hR3.cell (a := 0) (by decide)
    have hl := rowM_lt R 0
    go_wp2
    refine bodyPost_ret (results_two rfl _ _ _) rfl ⟨?_, hE3⟩
    show Ending.returned (.tuple #[.bool (bits .and .u64 ((rowM R 0 : Int) / 2 ^ n) 1 == 1), .int .i64 0]) = _
    rw [bitR R 0 n hn, HM.out]; simp
  · have hz1 : (z == 0) = false := by rw [beq_eq_false_iff_ne]; exact hz0
    go_wp2
    refine bodyPost_ret (results_two rfl _ _ _) rfl ⟨?_, hE3⟩
    rw [HM.out, decide_eq_false hz0]
    rfl
end Go.Proofs.YtapfoaiibjdfnaaDoor

namespace Go.Proofs.YtapfoaiibjdfnaaDoor
open Go.RowKit Go.Ab

mutual
def allN : Pat → Prop
  | .node k pl mi nt mn mx l => nodeE (.node k pl mi nt mn mx l) = 0 ∧ allNs l
def allNs : List Pat → Prop
  | [] => True
  | p :: l => allN p ∧ allNs l
end
theorem allN_eq (p : Pat) : allN p ↔ nodeE p = 0 ∧ allNs p.l := by cases p; unfold allN; exact Iff.rfl
theorem allNs_cons (p : Pat) (l : List Pat) : allNs (p :: l) ↔ allN p ∧ allNs l := by rw [allNs]
theorem allNs_append (a b : List Pat) : allNs (a ++ b) ↔ allNs a ∧ allNs b := by
  induction a with
  | nil => simp [allNs]
  | cons p a ih => rw [List.cons_append, allNs_cons, allNs_cons, ih, and_assoc]
theorem allNs_iff {l : List Pat} : allNs l ↔ ∀ p ∈ l, allN p := by
  induction l with
  | nil => simp [allNs]
  | cons p l ih => rw [allNs_cons, ih]; simp
theorem totL_cons (p : Pat) (l : List Pat) : totL (p :: l) = totP p + totL l := by rw [totL]
theorem chk_zero : ∀ (f : Nat) (l : List Pat), chk f l = 0 ↔ allNs l ∧ totL l ≤ f
  | f, [] => by cases f <;> simp [chk, allNs, totL]
  | 0, p :: l => by
    have h1 : totL (p :: l) = totL p.l + 1 + totL l := by rw [totL_cons, totP_eq]
    constructor
    · intro h; simp [chk] at h
    · rintro ⟨_, h⟩; omega
  | f + 1, p :: l => by
    have h1 : totL (p :: l) = totL p.l + 1 + totL l := by rw [totL_cons, totP_eq]
    rw [chk_succ]
    by_cases he : nodeE p = 0
    · rw [if_pos he, chk_zero f, allNs_append, totL_append, allNs_cons, allN_eq]
      constructor
      · rintro ⟨⟨h2, h3⟩, h4⟩; exact ⟨⟨⟨he, h2⟩, h3⟩, by omega⟩
      · rintro ⟨⟨⟨_, h2⟩, h3⟩, h4⟩; exact ⟨⟨h2, h3⟩, by omega⟩
    · rw [if_neg he, allNs_cons, allN_eq]
      constructor
      · intro h; exact absurd h he
      · rintro ⟨⟨⟨h, _⟩, _⟩, _⟩; exact absurd h he
theorem chkP_zero (p : Pat) : chkP p = 0 ↔ allN p ∧ totP p ≤ 40 := by
  unfold chkP
  rw [chk_zero, allNs_cons, totL_cons]
  simp [allNs, totL]
theorem relE_zero {p : Pat} {ws : Wd} : relE p ws = 0 ↔ chkP p = 0 ∧ ws.length ≤ 32 ∧ allV ws = true := by
  unfold relE
  by_cases h : chkP p = 0
  · rw [if_pos h]
    by_cases h2 : 32 < ws.length
    · rw [if_pos h2]; simp [h]; omega
    · rw [if_neg h2]
      by_cases h3 : allV ws = true
      · rw [if_pos h3]; simp [h, h3]; omega
      · rw [if_neg h3]; simp [h3]
  · rw [if_neg h]; simp [h]
theorem goodV_iff {p : Pat} {ws : Wd} : goodV p ws = true ↔ relE p ws = 0 := by
  rw [relE_zero]
  unfold goodV wE
  simp only [Bool.and_eq_true, decide_eq_true_eq]
  constructor
  · rintro ⟨⟨h1, h2⟩, h3⟩
    rw [if_neg (by omega)] at h2
    refine ⟨h3, h1, ?_⟩
    by_cases h : allV ws = true
    · exact h
    · rw [if_neg h] at h2; exact absurd h2 (by decide)
  · rintro ⟨h1, h2, h3⟩
    exact ⟨⟨h2, by rw [if_neg (by omega), if_pos h3]⟩, h1⟩
theorem relR_good {p : Pat} {ws : Wd} (h : relE p ws = 0) : relR p ws = relP ws p := by unfold relR; rw [if_pos h]
theorem goodV_len {p : Pat} {ws : Wd} (h : goodV p ws = true) : ws.length ≤ 32 := (relE_zero.1 (goodV_iff.1 h)).2.1

/-! ### What is built of patterns -/

theorem nodeE_seq (l : List Pat) : nodeE (.node 3 0 0 false 0 0 l) = 0 := by simp [nodeE, Pat.k, Pat.pl, Pat.mi, Pat.nt, Pat.mn, Pat.mx, Pat.l, okSound]
theorem nodeE_alt (l : List Pat) : nodeE (.node 4 0 0 false 0 0 l) = 0 := by simp [nodeE, Pat.k, Pat.pl, Pat.mi, Pat.nt, Pat.mn, Pat.mx, Pat.l, okSound]
theorem nodeE_rep (p : Pat) {lo hi : Int} (h1 : 0 ≤ lo) (h2 : lo ≤ 32) (h3 : hi = -1 ∨ (lo ≤ hi ∧ hi ≤ 32)) : nodeE (.node 5 0 0 false lo hi [p]) = 0 := by
  simp [nodeE, Pat.k, Pat.pl, Pat.mi, Pat.nt, Pat.mn, Pat.mx, Pat.l, okSound]
  omega
theorem good_of {p q : Pat} {ws : Wd} (h : relE p ws = 0) (h1 : allN q) (h2 : totP q ≤ 40) : relE q ws = 0 := by
  rw [relE_zero] at h ⊢
  exact ⟨(chkP_zero q).2 ⟨h1, h2⟩, h.2⟩
theorem good_allN {p : Pat} {ws : Wd} (h : relE p ws = 0) : allN p := ((chkP_zero p).1 (relE_zero.1 h).1).1
theorem good_tot {p : Pat} {ws : Wd} (h : relE p ws = 0) : totP p ≤ 40 := ((chkP_zero p).1 (relE_zero.1 h).1).2
theorem allN_seq {l : List Pat} (h : ∀ p ∈ l, allN p) : allN (.node 3 0 0 false 0 0 l) := by rw [allN_eq]; exact ⟨nodeE_seq l, allNs_iff.2 h⟩
theorem allN_alt {l : List Pat} (h : ∀ p ∈ l, allN p) : allN (.node 4 0 0 false 0 0 l) := by rw [allN_eq]; exact ⟨nodeE_alt l, allNs_iff.2 h⟩
theorem allN_rep {p : Pat} (h : allN p) {lo hi : Int} (h1 : 0 ≤ lo) (h2 : lo ≤ 32) (h3 : hi = -1 ∨ (lo ≤ hi ∧ hi ≤ 32)) : allN (.node 5 0 0 false lo hi [p]) := by
  rw [allN_eq]; exact ⟨nodeE_rep p h1 h2 h3, allNs_iff.2 (by simpa [Pat.l] using h)⟩
theorem totP_node (k : Int) (pl mi : Nat) (nt : Bool) (mn mx : Int) (l : List Pat) : totP (.node k pl mi nt mn mx l) = totL l + 1 := totP_eq _

theorem relP_node (w : Wd) (k : Int) (pl mi : Nat) (nt : Bool) (mn mx : Int) (l : List Pat) : relP w (.node k pl mi nt mn mx l) = if k = 1 then soundB w (pl, mi) nt else if k = 2 then edgeB 0 else if k = 6 then edgeB w.length else if k = 4 then altB w l else if k = 5 then oneB w l mn mx else seqB w l (idB w.length) := by rw [relP]
theorem relP_seq (ws : Wd) (l : List Pat) : relP ws (.node 3 0 0 false 0 0 l) = seqB ws l (idB ws.length) := by rw [relP_node]; simp
theorem relP_alt (ws : Wd) (l : List Pat) : relP ws (.node 4 0 0 false 0 0 l) = altB ws l := by rw [relP_node]; simp
theorem relP_rep (ws : Wd) (hn : ws.length ≤ 32) (p : Pat) (lo hi : Int) : relP ws (.node 5 0 0 false lo hi [p]) = sumB (relP ws p) ws.length lo.toNat (extra ws.length lo hi) := by
  rw [relP_node, if_neg (by decide), if_neg (by decide), if_neg (by decide), if_neg (by decide), if_pos rfl, oneB]
  exact repB_sum hn (relP_mono ws p) _ _

/-- One, and then the other. -/
theorem relP_two (ws : Wd) (hn : ws.length ≤ 32) (p q : Pat) : relP ws (.node 3 0 0 false 0 0 [p, q]) = comp (relP ws p) (relP ws q) := by
  rw [relP_seq]
  unfold seqB seqB seqB
  rw [id_comp hn (relP_mono ws p)]
theorem relP_either (ws : Wd) (p q : Pat) : relP ws (.node 4 0 0 false 0 0 [p, q]) = orB (relP ws p) (relP ws q) := by
  rw [relP_alt]
  unfold altB altB altB
  rw [orB_no]
/-- The way through the places between. -/
theorem comp_through {n : Nat} (hn : n ≤ 32) {X Y : Bin2} (hX : Mono n X) (hY : Mono n Y) (i k : Nat) : comp X Y i k = ((List.range (k + 1 - i)).any fun j => X i (i + j) && Y (i + j) k) := by
  apply Bool.eq_iff_iff.2
  rw [comp_iff, List.any_eq_true]
  constructor
  · rintro ⟨b, _, h1, h2⟩
    have := hX _ _ h1
    have := hY _ _ h2
    exact ⟨b - i, List.mem_range.2 (by omega), by rw [show i + (b - i) = b by omega, h1, h2]; rfl⟩
  · rintro ⟨j, hj, h⟩
    rw [Bool.and_eq_true] at h
    have := hX _ _ h.1
    exact ⟨i + j, by omega, h.1, h.2⟩

/-! ### Times -/

theorem seqB_rep (ws : Wd) (hn : ws.length ≤ 32) (p : Pat) : ∀ k, seqB ws (List.replicate k p) (idB ws.length) = powB (relP ws p) ws.length k
  | 0 => by simp [seqB, powB]
  | k + 1 => by
    rw [show List.replicate (k + 1) p = List.replicate k p ++ [p] from List.replicate_succ', seqB_snoc, seqB_rep ws hn p k, pow_snoc hn (relP_mono ws p)]
theorem times_one (ws : Wd) (hn : ws.length ≤ 32) (p : Pat) (k : Nat) : relP ws (.node 5 0 0 false k k [p]) = powB (relP ws p) ws.length k := by
  rw [relP_rep ws hn]
  unfold extra
  rw [if_neg (by omega), show ((k : Int) - (k : Int)).toNat = 0 by omega, show ((k : Int)).toNat = k by omega]
  rfl
theorem times_list (ws : Wd) (hn : ws.length ≤ 32) (p : Pat) (k : Nat) : relP ws (.node 3 0 0 false 0 0 (List.replicate k p)) = powB (relP ws p) ws.length k := by rw [relP_seq, seqB_rep ws hn]
theorem times_more (ws : Wd) (hn : ws.length ≤ 32) (p : Pat) (k : Nat) : relP ws (.node 5 0 0 false k ((k : Int) + 1) [p]) = sumB (relP ws p) ws.length k 1 := by
  rw [relP_rep ws hn]
  unfold extra
  rw [if_neg (by omega), show ((k : Int) + 1 - (k : Int)).toNat = 1 by omega, show ((k : Int)).toNat = k by omega]
theorem times_opt (ws : Wd) (hn : ws.length ≤ 32) (p : Pat) : relP ws (.node 5 0 0 false 0 1 [p]) = sumB (relP ws p) ws.length 0 1 := by
  rw [relP_rep ws hn]; rfl
theorem times_often (ws : Wd) (hn : ws.length ≤ 32) (p : Pat) (k : Nat) : relP ws (.node 5 0 0 false k (-1) [p]) = sumB (relP ws p) ws.length k ws.length := by
  rw [relP_rep ws hn]
  unfold extra
  rw [if_pos (by omega), show ((k : Int)).toNat = k by omega]
theorem times_any (ws : Wd) (hn : ws.length ≤ 32) (p : Pat) : relP ws (.node 5 0 0 false 0 (-1) [p]) = sumB (relP ws p) ws.length 0 ws.length := by
  rw [relP_rep ws hn]; rfl
theorem times_next (ws : Wd) (hn : ws.length ≤ 32) (p : Pat) (k : Nat) : relP ws (.node 3 0 0 false 0 0 [.node 5 0 0 false k k [p], .node 5 0 0 false 0 1 [p]]) = sumB (relP ws p) ws.length k 1 := by
  rw [relP_two ws hn, times_one ws hn, times_opt ws hn, ← pow_orId hn (relP_mono ws p), ← repB_sum hn (relP_mono ws p)]
  rfl
theorem times_on (ws : Wd) (hn : ws.length ≤ 32) (p : Pat) (k : Nat) : relP ws (.node 3 0 0 false 0 0 [.node 5 0 0 false k (-1) [p], .node 5 0 0 false 0 (-1) [p]]) = sumB (relP ws p) ws.length k ws.length := by
  rw [relP_two ws hn, times_often ws hn, times_any ws hn, ← pow_orId hn (relP_mono ws p), ← repB_sum hn (relP_mono ws p)]
  unfold repB
  rw [comp_assoc, ← pow_add hn ((relP_mono ws p).or (Mono.id _))]
  show repB _ _ _ _ = repB _ _ _ _
  rw [repB_sum hn (relP_mono ws p), repB_sum hn (relP_mono ws p), sum_far hn (relP_mono ws p) k (ws.length + ws.length) (by omega)]
theorem sum_le {X : Bin2} {n lo e f a b : Nat} (h : e ≤ f) (hh : sumB X n lo e a b = true) : sumB X n lo f a b = true := by
  obtain ⟨j, h1, h2⟩ := sumB_iff.1 hh
  exact sumB_iff.2 ⟨j, by omega, h2⟩
theorem times_le (ws : Wd) (hn : ws.length ≤ 32) (p : Pat) (k a b : Nat) : (powB (relP ws p) ws.length k a b = true → sumB (relP ws p) ws.length k 1 a b = true) ∧ (sumB (relP ws p) ws.length k 1 a b = true → sumB (relP ws p) ws.length k ws.length a b = true) := by
  refine ⟨fun h => sum_le (e := 0) (by omega) h, fun h => ?_⟩
  by_cases h1 : 1 ≤ ws.length
  · exact sum_le h1 h
  · rw [sum_far hn (relP_mono ws p) k 1 (by omega)] at h; exact h

/-! ### Empty patterns -/

theorem comp_diag {n : Nat} (hn : n ≤ 32) {X Y : Bin2} (hX : Mono n X) (hY : Mono n Y) (a : Nat) : comp X Y a a = true ↔ X a a = true ∧ Y a a = true := by
  rw [comp_iff]
  constructor
  · rintro ⟨b, _, h1, h2⟩
    have := hX _ _ h1
    have := hY _ _ h2
    obtain rfl : a = b := by omega
    exact ⟨h1, h2⟩
  · rintro ⟨h1, h2⟩
    have := hX _ _ h1
    exact ⟨a, by omega, h1, h2⟩
theorem pow_diag {n : Nat} (hn : n ≤ 32) {X : Bin2} (hX : Mono n X) {a : Nat} (ha : a ≤ n) : ∀ k, powB X n k a a = true ↔ k = 0 ∨ X a a = true
  | 0 => by simp [powB, idB_iff, ha]
  | k + 1 => by
    show comp X (powB X n k) a a = true ↔ _
    rw [comp_diag hn hX (Mono.pow hX k), pow_diag hn hX ha k]
    constructor
    · exact fun h => .inr h.1
    · rintro (h | h)
      · omega
      · exact ⟨h, .inr h⟩
theorem seq_diag (ws : Wd) (hn : ws.length ≤ 32) {a : Nat} (f : Pat → Prop) : ∀ (l : List Pat) (X : Bin2), Mono ws.length X → (∀ p ∈ l, (relP ws p a a = true ↔ f p)) → (seqB ws l X a a = true ↔ X a a = true ∧ ∀ p ∈ l, f p)
  | [], X, _, _ => by simp [seqB]
  | p :: l, X, hX, h => by
    unfold seqB
    rw [seq_diag ws hn f l _ (hX.comp (relP_mono ws p)) (fun q hq => h q (List.mem_cons_of_mem _ hq)), comp_diag hn hX (relP_mono ws p), h p (List.mem_cons_self ..)]
    simp [and_assoc]
theorem alt_diag (ws : Wd) {a : Nat} (f : Pat → Prop) : ∀ (l : List Pat), (∀ p ∈ l, (relP ws p a a = true ↔ f p)) → (altB ws l a a = true ↔ ∃ p, p ∈ l ∧ f p)
  | [], _ => by simp [altB, noB]
  | p :: l, h => by
    unfold altB
    rw [orB_iff, alt_diag ws f l (fun q hq => h q (List.mem_cons_of_mem _ hq)), h p (List.mem_cons_self ..)]
    simp
theorem nodeE_kind' {p : Pat} (h : nodeE p = 0) : 0 ≤ p.k ∧ p.k ≤ 6 ∧ (p.k ≠ 3 → p.k ≠ 4 → p.k ≠ 5 → p.l.length = 0) ∧ (p.k = 5 → p.l.length = 1 ∧ 0 ≤ p.mn ∧ p.mn ≤ 32) := by
  unfold nodeE at h
  by_cases h1 : p.k < 0 ∨ 6 < p.k
  · rw [if_pos h1] at h; exact absurd h (by decide)
  rw [if_neg h1] at h
  by_cases h2 : p.k ≠ 1 ∧ (p.pl ≠ 0 ∨ p.mi ≠ 0 ∨ p.nt = true)
  · rw [if_pos h2] at h; exact absurd h (by decide)
  rw [if_neg h2] at h
  by_cases h3 : p.k ≠ 3 ∧ p.k ≠ 4 ∧ p.k ≠ 5 ∧ p.l.length ≠ 0
  · rw [if_pos h3] at h; exact absurd h (by decide)
  rw [if_neg h3] at h
  by_cases h4 : p.k ≠ 5 ∧ (p.mn ≠ 0 ∨ p.mx ≠ 0)
  · rw [if_pos h4] at h; exact absurd h (by decide)
  rw [if_neg h4] at h
  by_cases h5 : p.k = 5 ∧ (p.l.length ≠ 1 ∨ p.mn < 0 ∨ 32 < p.mn ∨ (p.mx ≠ -1 ∧ (p.mx < p.mn ∨ 32 < p.mx)))
  · rw [if_pos h5] at h; exact absurd h (by decide)
  refine ⟨by omega, by omega, fun a b c => ?_, fun hk => ?_⟩
  · exact Decidable.byContradiction fun hh => h3 ⟨a, b, c, hh⟩
  · have h6 := fun hh => h5 ⟨hk, hh⟩
    omega
theorem nodeE_kind {k : Int} {pl mi : Nat} {nt : Bool} {mn mx : Int} {l : List Pat} (h : nodeE (.node k pl mi nt mn mx l) = 0) :
    0 ≤ k ∧ k ≤ 6 ∧ (k ≠ 3 → k ≠ 4 → k ≠ 5 → l = []) ∧ (k = 5 → (∃ q, l = [q]) ∧ 0 ≤ mn ∧ mn ≤ 32) := by
  obtain ⟨h1, h2, h3, h4⟩ := nodeE_kind' h
  refine ⟨h1, h2, fun a b c => List.eq_nil_of_length_eq_zero (h3 a b c), fun hk => ?_⟩
  obtain ⟨h5, h6, h7⟩ := h4 hk
  refine ⟨?_, h6, h7⟩
  have h5 : l.length = 1 := h5
  match l, h5 with
  | [q], _ => exact ⟨q, rfl⟩
theorem emptyP_law (ws : Wd) (hn : ws.length ≤ 32) : ∀ p : Pat, allN p → (∀ a, 0 < a → a < ws.length → (relP ws p a a = true ↔ emptyP p = true)) ∧ (∀ a, a ≤ ws.length → emptyP p = true → relP ws p a a = true)
  | .node k pl mi nt mn mx l => by
    intro h
    rw [allN_eq] at h
    obtain ⟨h1, h2⟩ := h
    rw [allNs_iff] at h2
    obtain ⟨h3, h4, h5, h6⟩ := nodeE_kind h1
    have ih : ∀ q ∈ l, (∀ a, 0 < a → a < ws.length → (relP ws q a a = true ↔ emptyP q = true)) ∧ (∀ a, a ≤ ws.length → emptyP q = true → relP ws q a a = true) := fun q hq => emptyP_law ws hn q (h2 q hq)
    have hk : k = 0 ∨ k = 1 ∨ k = 2 ∨ k = 3 ∨ k = 4 ∨ k = 5 ∨ k = 6 := by omega
    rw [emptyP_eq]
    simp only [relP_node]
    rcases hk with rfl | rfl | rfl | rfl | rfl | rfl | rfl
    · obtain rfl := h5 (by decide) (by decide) (by decide)
      simp [seqB, idB_iff]
      omega
    · simp [soundB]
    · simp [edgeB]
      omega
    · simp only [show ¬ ((3 : Int) = 1) by decide, show ¬ ((3 : Int) = 2) by decide, show ¬ ((3 : Int) = 6) by decide, show ¬ ((3 : Int) = 4) by decide, show ¬ ((3 : Int) = 5) by decide, show ¬ ((3 : Int) = 0) by decide, if_false, if_true]
      have ha : allE l = true ↔ ∀ q ∈ l, emptyP q = true := by rw [allE_eq]; simp
      constructor
      · intro a a0 a1
        rw [seq_diag ws hn (fun q => emptyP q = true) l _ (Mono.id _) (fun q hq => (ih q hq).1 a a0 a1), ha, idB_iff]
        constructor
        · exact fun h => h.2
        · exact fun h => ⟨⟨rfl, by omega⟩, h⟩
      · intro a a1 he
        rw [seq_diag ws hn (fun q => relP ws q a a = true) l _ (Mono.id _) (fun q hq => Iff.rfl), idB_iff]
        exact ⟨⟨rfl, a1⟩, fun q hq => (ih q hq).2 a a1 (ha.1 he q hq)⟩
    · simp only [show ¬ ((4 : Int) = 1) by decide, show ¬ ((4 : Int) = 2) by decide, show ¬ ((4 : Int) = 6) by decide, show ¬ ((4 : Int) = 3) by decide, show ¬ ((4 : Int) = 0) by decide, if_false, if_true]
      have ha : anyE l = true ↔ ∃ q, q ∈ l ∧ emptyP q = true := by rw [anyE_eq]; simp
      constructor
      · intro a a0 a1
        rw [alt_diag ws (fun q => emptyP q = true) l (fun q hq => (ih q hq).1 a a0 a1), ha]
      · intro a a1 he
        rw [alt_diag ws (fun q => relP ws q a a = true) l (fun q hq => Iff.rfl)]
        obtain ⟨q, hq, he⟩ := ha.1 he
        exact ⟨q, hq, (ih q hq).2 a a1 he⟩
    · simp only [show ¬ ((5 : Int) = 1) by decide, show ¬ ((5 : Int) = 2) by decide, show ¬ ((5 : Int) = 6) by decide, show ¬ ((5 : Int) = 3) by decide, show ¬ ((5 : Int) = 4) by decide, show ¬ ((5 : Int) = 0) by decide, if_false, if_true]
      obtain ⟨⟨q, rfl⟩, h7, _⟩ := h6 rfl
      have iq := ih q (by simp)
      have he : (mn == 0 || headE [q]) = true ↔ mn.toNat = 0 ∨ emptyP q = true := by
        unfold headE
        rw [Bool.or_eq_true, beq_iff_eq]
        constructor
        · rintro (h | h)
          · exact .inl (by omega)
          · exact .inr h
        · rintro (h | h)
          · exact .inl (by omega)
          · exact .inr h
      have hr : ∀ a, a ≤ ws.length → (oneB ws [q] mn mx a a = true ↔ mn.toNat = 0 ∨ relP ws q a a = true) := by
        intro a ha
        unfold oneB
        rw [repB_sum hn (relP_mono ws q), sumB_iff]
        constructor
        · rintro ⟨j, hj, h⟩
          rw [pow_diag hn (relP_mono ws q) ha] at h
          rcases h with h | h
          · exact .inl (by omega)
          · exact .inr h
        · intro h
          exact ⟨0, by omega, (pow_diag hn (relP_mono ws q) ha _).2 (h.imp (by omega) id)⟩
      rw [he]
      constructor
      · intro a a0 a1
        rw [hr a (by omega), iq.1 a a0 a1]
      · intro a a1 h
        rw [hr a a1]
        exact h.imp id (iq.2 a a1)
    · simp [edgeB]
      omega
end Go.Proofs.YtapfoaiibjdfnaaDoor

namespace Go.Proofs.YtapfoaiibjdfnaaDoor
open Go.RowKit Go.Ab

mutual
def mirP : Pat → Pat
  | .node k pl mi nt mn mx l => .node (if k = 2 then 6 else if k = 6 then 2 else k) pl mi nt mn mx (if k = 3 then (mirL l).reverse else mirL l)
def mirL : List Pat → List Pat
  | [] => []
  | p :: l => mirP p :: mirL l
end
theorem mirL_eq (l : List Pat) : mirL l = l.map mirP := by
  induction l with
  | nil => rfl
  | cons p l ih => rw [mirL, ih]; rfl
theorem mirP_eq (k : Int) (pl mi : Nat) (nt : Bool) (mn mx : Int) (l : List Pat) :
    mirP (.node k pl mi nt mn mx l) = .node (if k = 2 then 6 else if k = 6 then 2 else k) pl mi nt mn mx (if k = 3 then (l.map mirP).reverse else l.map mirP) := by rw [mirP, mirL_eq]
theorem mirP_twice : ∀ p : Pat, mirP (mirP p) = p
  | .node k pl mi nt mn mx l => by
    have ih : ∀ q ∈ l, mirP (mirP q) = q := fun q hq => mirP_twice q
    have ih2 : l.map (fun q => mirP (mirP q)) = l := by
      conv => rhs; rw [← List.map_id l]
      exact List.map_congr_left fun q hq => ih q hq
    rw [mirP_eq, mirP_eq]
    congr 1
    · by_cases h2 : k = 2
      · simp [h2]
      · by_cases h6 : k = 6
        · simp [h6]
        · simp [h2, h6]
    · by_cases h3 : k = 3
      · subst h3
        simp only [show ¬ ((3 : Int) = 2) by decide, show ¬ ((3 : Int) = 6) by decide, if_false, if_true, List.map_reverse, List.reverse_reverse, List.map_map]
        exact ih2
      · have : ¬ ((if k = 2 then (6 : Int) else if k = 6 then 2 else k) = 3) := by split; decide; split; decide; exact h3
        rw [if_neg this, if_neg h3, List.map_map]
        exact ih2
theorem totL_map {f : Pat → Pat} : ∀ {l : List Pat}, (∀ q ∈ l, totP (f q) = totP q) → totL (l.map f) = totL l
  | [], _ => rfl
  | p :: l, h => by rw [List.map_cons, totL_cons, totL_cons, h p (List.mem_cons_self ..), totL_map fun q hq => h q (List.mem_cons_of_mem _ hq)]
theorem totL_reverse (l : List Pat) : totL l.reverse = totL l := by
  induction l with
  | nil => rfl
  | cons p l ih => rw [List.reverse_cons, totL_append, ih, totL_cons, totL_cons]; simp [totL]; omega
theorem mirP_tot : ∀ p : Pat, totP (mirP p) = totP p
  | .node k pl mi nt mn mx l => by
    have ih : ∀ q ∈ l, totP (mirP q) = totP q := fun q hq => mirP_tot q
    rw [mirP_eq, totP_eq, totP_eq]
    show totL (if k = 3 then _ else _) + 1 = totL l + 1
    split
    · rw [totL_reverse, totL_map ih]
    · rw [totL_map ih]
def nodeF (k : Int) (pl mi : Nat) (nt : Bool) (mn mx : Int) (n : Nat) : Int :=
  if k < 0 ∨ 6 < k then 2
  else if k ≠ 1 ∧ (pl ≠ 0 ∨ mi ≠ 0 ∨ nt = true) then 2
  else if k ≠ 3 ∧ k ≠ 4 ∧ k ≠ 5 ∧ n ≠ 0 then 2
  else if k ≠ 5 ∧ (mn ≠ 0 ∨ mx ≠ 0) then 2
  else if k = 5 ∧ (n ≠ 1 ∨ mn < 0 ∨ 32 < mn ∨ (mx ≠ -1 ∧ (mx < mn ∨ 32 < mx))) then 2
  else if okSound pl mi = true then 0 else 14
theorem nodeE_F (k : Int) (pl mi : Nat) (nt : Bool) (mn mx : Int) (l : List Pat) : nodeE (.node k pl mi nt mn mx l) = nodeF k pl mi nt mn mx l.length := rfl
theorem nodeF_swap (pl mi : Nat) (nt : Bool) (mn mx : Int) (n : Nat) : nodeF 2 pl mi nt mn mx n = nodeF 6 pl mi nt mn mx n := by simp [nodeF]
theorem mirP_node (k : Int) (pl mi : Nat) (nt : Bool) (mn mx : Int) (l : List Pat) : nodeE (mirP (.node k pl mi nt mn mx l)) = nodeE (.node k pl mi nt mn mx l) := by
  rw [mirP_eq, nodeE_F, nodeE_F]
  have e : (if k = 3 then (l.map mirP).reverse else l.map mirP).length = l.length := by split <;> simp
  rw [e]
  by_cases h2 : k = 2
  · subst h2; rw [if_pos rfl]; exact (nodeF_swap _ _ _ _ _ _).symm
  · by_cases h6 : k = 6
    · subst h6; rw [if_neg (by decide), if_pos rfl]; exact nodeF_swap _ _ _ _ _ _
    · rw [if_neg h2, if_neg h6]
theorem mirP_allN : ∀ p : Pat, allN p → allN (mirP p)
  | .node k pl mi nt mn mx l, h => by
    have h0 := h
    rw [allN_eq] at h
    obtain ⟨h1, h2⟩ := h
    have h2 : allNs l := h2
    rw [allNs_iff] at h2
    have ih : ∀ q ∈ l, allN (mirP q) := fun q hq => mirP_allN q (h2 q hq)
    rw [allN_eq]
    refine ⟨by rw [mirP_node]; exact h1, ?_⟩
    rw [mirP_eq, allNs_iff]
    show ∀ q ∈ (if k = 3 then (l.map mirP).reverse else l.map mirP), allN q
    intro q hq
    have : q ∈ l.map mirP := by split at hq; exact List.mem_reverse.1 hq; exact hq
    obtain ⟨x, hx, rfl⟩ := List.mem_map.1 this
    exact ih x hx
theorem mirP_empty : ∀ p : Pat, emptyP (mirP p) = emptyP p
  | .node k pl mi nt mn mx l => by
    have ih : ∀ q ∈ l, emptyP (mirP q) = emptyP q := fun q hq => mirP_empty q
    have ha : (l.map mirP).any emptyP = l.any emptyP := by
      rw [List.any_map]
      apply Bool.eq_iff_iff.2
      rw [List.any_eq_true, List.any_eq_true]
      exact ⟨fun ⟨x, h1, h2⟩ => ⟨x, h1, by rw [← ih x h1]; exact h2⟩, fun ⟨x, h1, h2⟩ => ⟨x, h1, by show emptyP (mirP x) = true; rw [ih x h1]; exact h2⟩⟩
    have hb : (l.map mirP).any (fun p => !emptyP p) = l.any (fun p => !emptyP p) := by
      rw [List.any_map]
      apply Bool.eq_iff_iff.2
      rw [List.any_eq_true, List.any_eq_true]
      exact ⟨fun ⟨x, h1, h2⟩ => ⟨x, h1, by rw [← ih x h1]; exact h2⟩, fun ⟨x, h1, h2⟩ => ⟨x, h1, by show (!emptyP (mirP x)) = true; rw [ih x h1]; exact h2⟩⟩
    rw [mirP_eq, emptyP_eq, emptyP_eq]
    by_cases h3 : k = 3
    · subst h3
      simp only [show ¬ ((3 : Int) = 2) by decide, show ¬ ((3 : Int) = 6) by decide, show ¬ ((3 : Int) = 0) by decide, if_false, if_true]
      rw [allE_eq, allE_eq, List.any_reverse, hb]
    · by_cases h2 : k = 2
      · subst h2; simp
      · by_cases h6 : k = 6
        · subst h6; simp
        · rw [if_neg h2, if_neg h6, if_neg h3]
          by_cases h4 : k = 4
          · subst h4
            simp only [show ¬ ((4 : Int) = 0) by decide, show ¬ ((4 : Int) = 3) by decide, if_false, if_true]
            rw [anyE_eq, anyE_eq, ha]
          · by_cases h5 : k = 5
            · subst h5
              simp only [show ¬ ((5 : Int) = 0) by decide, show ¬ ((5 : Int) = 3) by decide, show ¬ ((5 : Int) = 4) by decide, if_false, if_true]
              cases l with
              | nil => rfl
              | cons q l => simp only [List.map_cons, headE]; rw [ih q (List.mem_cons_self ..)]
            · simp [h3, h4, h5]

/-- A relation, seen from the end. -/
def flipB (n : Nat) (X : Bin2) : Bin2 := fun a b => decide (a ≤ n) && decide (b ≤ n) && X (n - b) (n - a)
theorem flipB_iff {n : Nat} {X : Bin2} {a b : Nat} : flipB n X a b = true ↔ a ≤ n ∧ b ≤ n ∧ X (n - b) (n - a) = true := by simp [flipB, and_assoc]
theorem flip_comp {n : Nat} (hn : n ≤ 32) {X Y : Bin2} (hX : Mono n X) (hY : Mono n Y) : flipB n (comp X Y) = comp (flipB n Y) (flipB n X) := by
  apply bin_ext; intro a c
  rw [flipB_iff, comp_iff, comp_iff]
  constructor
  · rintro ⟨h1, h2, b, hb, h3, h4⟩
    have := hX _ _ h3
    have := hY _ _ h4
    refine ⟨n - b, by omega, flipB_iff.2 ⟨h1, by omega, ?_⟩, flipB_iff.2 ⟨by omega, h2, ?_⟩⟩
    · rw [show n - (n - b) = b by omega]; exact h4
    · rw [show n - (n - b) = b by omega]; exact h3
  · rintro ⟨b, hb, h3, h4⟩
    obtain ⟨h1, h2, h3⟩ := flipB_iff.1 h3
    obtain ⟨_, h5, h4⟩ := flipB_iff.1 h4
    exact ⟨h1, h5, n - b, by omega, h4, h3⟩
theorem flip_or (n : Nat) (X Y : Bin2) : flipB n (orB X Y) = orB (flipB n X) (flipB n Y) := by
  apply bin_ext; intro a c
  simp only [flipB_iff, orB_iff]
  constructor
  · rintro ⟨h1, h2, h3 | h3⟩
    · exact .inl ⟨h1, h2, h3⟩
    · exact .inr ⟨h1, h2, h3⟩
  · rintro (⟨h1, h2, h3⟩ | ⟨h1, h2, h3⟩)
    · exact ⟨h1, h2, .inl h3⟩
    · exact ⟨h1, h2, .inr h3⟩
theorem flip_id (n : Nat) : flipB n (idB n) = idB n := by
  apply bin_ext; intro a c
  rw [flipB_iff, idB_iff, idB_iff]
  omega
theorem flip_no (n : Nat) : flipB n noB = noB := by
  apply bin_ext; intro a c
  rw [flipB_iff]; simp [noB]
theorem mono_flip {n : Nat} {X : Bin2} (h : Mono n X) : Mono n (flipB n X) := fun a b hh => by
  obtain ⟨h1, h2, h3⟩ := flipB_iff.1 hh
  have := h _ _ h3
  omega
theorem flip_pow {n : Nat} (hn : n ≤ 32) {X : Bin2} (h : Mono n X) : ∀ k, flipB n (powB X n k) = powB (flipB n X) n k
  | 0 => flip_id n
  | k + 1 => by
    show flipB n (comp X (powB X n k)) = _
    rw [flip_comp hn h (Mono.pow h k), flip_pow hn h k, pow_snoc hn (mono_flip h)]
theorem flip_sum {n : Nat} (hn : n ≤ 32) {X : Bin2} (h : Mono n X) (lo e : Nat) : flipB n (sumB X n lo e) = sumB (flipB n X) n lo e := by
  apply bin_ext; intro a c
  rw [flipB_iff, sumB_iff, sumB_iff]
  constructor
  · rintro ⟨h1, h2, j, hj, h3⟩
    exact ⟨j, hj, by rw [← flip_pow hn h]; exact flipB_iff.2 ⟨h1, h2, h3⟩⟩
  · rintro ⟨j, hj, h3⟩
    rw [← flip_pow hn h] at h3
    obtain ⟨h1, h2, h4⟩ := flipB_iff.1 h3
    exact ⟨h1, h2, j, hj, h4⟩
theorem getD_reverse (w : Wd) {i : Nat} (h : i < w.length) : w.reverse.getD i (0, 0) = w.getD (w.length - 1 - i) (0, 0) := by
  rw [List.getD_eq_getElem?_getD, List.getD_eq_getElem?_getD, List.getElem?_reverse h]
theorem flip_seq (w : Wd) (hn : w.length ≤ 32) : ∀ (l : List Pat) (X : Bin2), Mono w.length X → (∀ q ∈ l, relP w.reverse (mirP q) = flipB w.length (relP w q)) →
    comp (seqB w.reverse (l.map mirP).reverse (idB w.length)) (flipB w.length X) = flipB w.length (seqB w l X)
  | [], X, hX, _ => by
    simp only [List.map_nil, List.reverse_nil, seqB]
    exact id_comp hn (mono_flip hX)
  | p :: l, X, hX, h => by
    rw [List.map_cons, List.reverse_cons, seqB_snoc, h p (List.mem_cons_self ..), comp_assoc, ← flip_comp hn hX (relP_mono w p)]
    rw [flip_seq w hn l (comp X (relP w p)) (hX.comp (relP_mono w p)) fun q hq => h q (List.mem_cons_of_mem _ hq)]
    conv => rhs; unfold seqB
theorem flip_alt (w : Wd) : ∀ (l : List Pat), (∀ q ∈ l, relP w.reverse (mirP q) = flipB w.length (relP w q)) → altB w.reverse (l.map mirP) = flipB w.length (altB w l)
  | [], _ => by simp only [List.map_nil, altB]; exact (flip_no _).symm
  | p :: l, h => by
    rw [List.map_cons]
    unfold altB
    rw [h p (List.mem_cons_self ..), flip_alt w l fun q hq => h q (List.mem_cons_of_mem _ hq), flip_or]
theorem mirror_law (w : Wd) (hn : w.length ≤ 32) : ∀ p : Pat, allN p → relP w.reverse (mirP p) = flipB w.length (relP w p)
  | .node k pl mi nt mn mx l => by
    intro h
    rw [allN_eq] at h
    obtain ⟨h1, h2⟩ := h
    have h2 : allNs l := h2
    rw [allNs_iff] at h2
    obtain ⟨h3, h4, h5, h6⟩ := nodeE_kind h1
    have ih : ∀ q ∈ l, relP w.reverse (mirP q) = flipB w.length (relP w q) := fun q hq => mirror_law w hn q (h2 q hq)
    have hk : k = 0 ∨ k = 1 ∨ k = 2 ∨ k = 3 ∨ k = 4 ∨ k = 5 ∨ k = 6 := by omega
    rw [mirP_eq]
    simp only [relP_node]
    rcases hk with rfl | rfl | rfl | rfl | rfl | rfl | rfl
    · obtain rfl := h5 (by decide) (by decide) (by decide)
      simp [seqB, flip_id]
    · simp only [show ¬ ((1 : Int) = 2) by decide, show ¬ ((1 : Int) = 6) by decide, if_false, if_true]
      apply bin_ext; intro a b
      rw [flipB_iff]
      simp only [soundB, Bool.and_eq_true, beq_iff_eq, decide_eq_true_eq, List.length_reverse]
      constructor
      · rintro ⟨⟨rfl, h7⟩, h8⟩
        rw [getD_reverse w h7] at h8
        exact ⟨by omega, by omega, ⟨by omega, by omega⟩, by rw [show w.length - (a + 1) = w.length - 1 - a by omega]; exact h8⟩
      · rintro ⟨h7, h8, ⟨h9, h10⟩, h11⟩
        obtain rfl : b = a + 1 := by omega
        exact ⟨⟨rfl, by omega⟩, by rw [getD_reverse w (by omega), show w.length - 1 - a = w.length - (a + 1) by omega]; exact h11⟩
    · simp
      apply bin_ext; intro a b
      rw [flipB_iff]
      simp [edgeB]
      omega
    · simp only [show ¬ ((3 : Int) = 1) by decide, show ¬ ((3 : Int) = 2) by decide, show ¬ ((3 : Int) = 6) by decide, show ¬ ((3 : Int) = 4) by decide, show ¬ ((3 : Int) = 5) by decide, if_false, if_true, List.length_reverse]
      have := flip_seq w hn l (idB w.length) (Mono.id _) ih
      rw [flip_id] at this
      rw [← this]
      have hm : Mono w.length (seqB w.reverse (l.map mirP).reverse (idB w.length)) := by
        have := seqB_mono w.reverse (l.map mirP).reverse (idB w.length) (by rw [List.length_reverse]; exact Mono.id _)
        rwa [List.length_reverse] at this
      exact (comp_id hn hm).symm
    · simp only [show ¬ ((4 : Int) = 1) by decide, show ¬ ((4 : Int) = 2) by decide, show ¬ ((4 : Int) = 6) by decide, show ¬ ((4 : Int) = 3) by decide, if_false, if_true]
      exact flip_alt w l ih
    · simp only [show ¬ ((5 : Int) = 1) by decide, show ¬ ((5 : Int) = 2) by decide, show ¬ ((5 : Int) = 6) by decide, show ¬ ((5 : Int) = 3) by decide, show ¬ ((5 : Int) = 4) by decide, if_false, if_true]
      obtain ⟨⟨q, rfl⟩, h7, _⟩ := h6 rfl
      simp only [List.map_cons, List.map_nil, oneB, List.length_reverse]
      have hm := relP_mono w.reverse (mirP q)
      rw [List.length_reverse] at hm
      rw [repB_sum hn hm, repB_sum hn (relP_mono w q), flip_sum hn (relP_mono w q), ih q (by simp)]
    · simp
      apply bin_ext; intro a b
      rw [flipB_iff]
      simp [edgeB]
      omega
end Go.Proofs.YtapfoaiibjdfnaaDoor
