/- pats.Size. -/
import Derived.Test.YtapfoaiibjdfnaaDoorCheckP
namespace Go.Proofs.YtapfoaiibjdfnaaDoor
open Go.RowKit Go.Ab
attribute [local go_sem] Oper.semAt_some wide_fn wide_depth

mutual
/-- How many nodes there are. -/
def totP : Pat → Nat
  | .node _ _ _ _ _ _ l => totL l + 1
def totL : List Pat → Nat
  | [] => 0
  | p :: l => totP p + totL l
end
theorem totP_eq (p : Pat) : totP p = totL p.l + 1 := by cases p; unfold totP; rfl
theorem totL_append (a b : List Pat) : totL (a ++ b) = totL a + totL b := by
  induction a with
  | nil => simp [totL]
  | cons p a ih => simp only [List.cons_append, totL, ih]; omega
theorem totL_len (l : List Pat) : l.length ≤ totL l := by
  induction l with
  | nil => simp
  | cons p l ih => simp only [totL, List.length_cons, totP_eq]; omega
theorem szW_tot : ∀ (f : Nat) (l : List Pat), szW f l = min f (totL l)
  | 0, l => by rw [szW_zero]; omega
  | f + 1, [] => by simp [szW, totL]
  | f + 1, p :: l => by
    show szW f (p.l ++ l) + 1 = _
    rw [szW_tot f, totL_append]
    simp only [totL, totP_eq]
    omega
theorem sizeP_tot (p : Pat) : sizeP p = min 41 (totP p) := by
  unfold sizeP; rw [szW_tot]; simp [totL]
theorem totL_cut (l : List Pat) (c : Nat) : min c (totL (l.take 41)) = min c (totL l) ∨ 41 < c := by
  by_cases h : l.length ≤ 41
  · rw [List.take_of_length_le h]; exact .inl rfl
  · by_cases hc : 41 < c
    · exact .inr hc
    · left
      have h1 := totL_len (l.take 41)
      have h2 := totL_len l
      rw [List.length_take] at h1
      omega

theorem Stk.append {K : Nat → Prop} {W : World} {ps qs : List Pat} {xs ys : List Value} (h : Stk K W ps xs) (k : Stk K W qs ys) : Stk K W (ps ++ qs) (xs ++ ys) := by
  refine ⟨by rw [List.length_append, h.1, k.1, List.length_append]; omega, fun i hi => ?_⟩
  by_cases hip : i < ps.length
  · obtain ⟨d, h1, h2, h3⟩ := h.2 i hip
    refine ⟨d, h1, fun j v hj => ?_, by rw [List.getElem_append_left hip]; exact h3⟩
    have := h2 j v hj
    rw [List.getElem?_append_left (List.getElem?_eq_some_iff.1 this).1]; exact this
  · obtain ⟨d, h1, h2, h3⟩ := k.2 (i - ps.length) (by simp at hi; omega)
    refine ⟨d, h1, fun j v hj => ?_, by rw [List.getElem_append_right (by omega)]; exact h3⟩
    have := h2 j v hj
    rw [List.getElem?_append_right (by rw [h.1]; omega), h.1]
    rw [show i * 7 + j - ps.length * 7 = (i - ps.length) * 7 + j by omega]; exact this

/-- The first patterns of a row, as a slice that is read. -/
theorem PatsAt.row {K : Nat → Prop} {w : World} {l : List Pat} {ao : Option Addr} (h : PatsAt K w l ao 0) (cap : Nat) : ∀ T, T ≤ l.length → T ≤ maxLen →
    ∃ news, Rd w (.slice ao T cap) T 7 news ∧ Stk K w (l.take T) news ∧ ∀ v ∈ news, v.oneCell' = true
  | 0, _, _ => ⟨[], ⟨rfl, Nat.zero_le _, ao, cap, rfl, fun h => absurd h (by decide)⟩, Stk.nil K w, fun v hv => by cases hv⟩
  | T + 1, hT, hm => by
    obtain ⟨news, hr, hs, h1⟩ := PatsAt.row h cap T (by omega) (by omega)
    obtain ⟨g, off, c, rfl, hg, hgl, hra, hp⟩ := h.get T (by omega)
    obtain ⟨qo, qcap, hc, _⟩ := patAt_cells hp
    have hc7 : c.length = 7 := by rw [hc]; rfl
    rw [Nat.zero_add] at hra
    obtain ⟨hl, _, _, _, e, h3⟩ := hr
    refine ⟨news ++ c, ⟨by rw [List.length_append, hl, hc7]; omega, hm, _, cap, rfl, fun _ => ⟨g, off, rfl, hgl, fun j hj => ?_⟩⟩, ?_, ?_⟩
    · by_cases hjT : j < T * 7
      · obtain ⟨g', off', e1, _, h4⟩ := h3 (by omega)
        simp only [Value.slice.injEq] at e
        obtain ⟨e, _⟩ := e
        rw [← e] at e1
        cases e1
        rw [h4 j hjT, List.getD_eq_getElem?_getD, List.getD_eq_getElem?_getD, List.getElem?_append_left (by omega)]
      · have hjc : j - T * 7 < c.length := by omega
        have := hra (j - T * 7) _ (List.getElem?_eq_getElem hjc)
        rw [show off + T * 7 + (j - T * 7) = off + j by omega] at this
        rw [this, List.getD_eq_getElem?_getD, List.getElem?_append_right (by omega), hl, List.getElem?_eq_getElem hjc, Option.getD_some]
    · rw [List.take_succ_eq_append_getElem (by omega)]
      exact hs.push hc7 hp
    · intro v hv
      rcases List.mem_append.1 hv with hv | hv
      · exact h1 v hv
      · rw [hc] at hv; exact patCells_one v hv

set_option maxRecDepth 100000 in
set_option maxHeartbeats 8000000 in
theorem size_any {K : Nat → Prop} {w : World} {p : Pat} {cs : List Value} (hp : PatAt K w p cs) (hK : ∀ g, K g → g < w.heap.size) :
    Calls Tryd.prog 29 #[.agg cs.toArray] w fun e w' => e = .returned (.int .i64 (sizeP p)) ∧ Ext w w' := by
  have hp0 := hp
  obtain ⟨ao, cap, rfl, hlc, hcm, _⟩ := patAt_cells hp
  obtain ⟨pk, hpk⟩ : ∃ x, p.k = x := ⟨_, rfl⟩
  obtain ⟨ppl, hppl⟩ : ∃ x, p.pl = x := ⟨_, rfl⟩
  obtain ⟨pmi, hpmi⟩ : ∃ x, p.mi = x := ⟨_, rfl⟩
  obtain ⟨pnt, hpnt⟩ : ∃ x, p.nt = x := ⟨_, rfl⟩
  obtain ⟨pmn, hpmn⟩ : ∃ x, p.mn = x := ⟨_, rfl⟩
  obtain ⟨pmx, hpmx⟩ : ∃ x, p.mx = x := ⟨_, rfl⟩
  obtain ⟨pN, hpN⟩ : ∃ x, p.l.length = x := ⟨_, rfl⟩
  rw [hpk, hppl, hpmi, hpnt, hpmn, hpmx, hpN] at hp0 ⊢
  have HP0 := Lib.hid hp0
  obtain ⟨Z, hZ⟩ : ∃ Z, sizeP p = Z := ⟨_, rfl⟩
  have HZ : Hid (Z = min 41 (totP p)) := Lib.hid (by rw [← hZ, sizeP_tot])
  rw [hZ]
  unfold patCells
  clear hp hp0 hpk hppl hpmi hpnt hpmn hpmx hpN hlc hcm hZ
  obtain ⟨B, hB⟩ : ∃ B, w.heap.size = B := ⟨_, rfl⟩
  have HB := Lib.hid hB
  clear hB
  go_enter Tryd.func29, Tryd.ntmps29
  go_wp2
  have hB := HB.out
  have hSt0 : Stk (· < B) w [p] (patCells pk ppl pmi pnt pmn pmx ao pN cap) := by
    subst hB
    have := (Stk.nil (· < w.heap.size) w).push (c := patCells pk ppl pmi pnt pmn pmx ao pN cap) rfl (HP0.out.mono (fun g h => hK g h))
    simpa using this
  have hrow0 : ((w.alloc (.cells (patCells pk ppl pmi pnt pmn pmx ao pN cap).toArray 27)).alloc (.cells (patCells pk ppl pmi pnt pmn pmx ao pN cap).toArray 27)).ownsRow B 27 7 (.slice (some ⟨B + 1, 0, none⟩) 1 1) 1 (patCells pk ppl pmi pnt pmn pmx ao pN cap) := by
    subst hB
    exact ⟨rfl, .inr ⟨_, _, _, rfl, by omega, new_at (by simp), by omega, by decide, rfl, rfl⟩⟩
  have hE0 : Ext w ((w.alloc (.cells (patCells pk ppl pmi pnt pmn pmx ao pN cap).toArray 27)).alloc (.cells (patCells pk ppl pmi pnt pmn pmx ao pN cap).toArray 27)) := ((Turn.refl _ _).alloc _).alloc _
  unfold patCells at hrow0 hE0
  generalize ((w.alloc (.cells [.int .i64 pk, .int .u32 (ppl : Int), .int .u32 (pmi : Int), .bool pnt, .int .i64 pmn, .int .i64 pmx, .slice ao pN cap].toArray 27)).alloc (.cells [.int .i64 pk, .int .u32 (ppl : Int), .int .u32 (pmi : Int), .bool pnt, .int .i64 pmn, .int .i64 pmx, .slice ao pN cap].toArray 27)) = w1 at hrow0 hE0 ⊢
  rw [hB]
  clear hB
  go_loopw [3, 4] (fun v nV wr => ∃ (n : Nat) (ps : List Pat) (ao : Option Addr) (cap : Nat) (xs : List Value), n ≤ 41 ∧ nV = .int .i64 n ∧ v = .slice ao ps.length cap ∧ wr.ownsRow B 27 7 (.slice ao ps.length cap) ps.length xs ∧ Stk (· < B) wr ps xs ∧ Hid (n + min (41 - n) (totL ps) = Z) ∧ Ext w wr ∧ ps.length ≤ 41 * n + 1)
    (fun _ nV _ => 41 - (intOf nV).toNat)
  case atStart => exact ⟨0, [p], _, _, _, by omega, rfl, rfl, hrow0, hSt0.ext hE0 (fun _ _ h => h), Lib.hid (by rw [HZ.out]; simp [totL]), hE0, by simp⟩
  case round =>
    obtain ⟨n, ps, ao2, cap2, xs, hn, rfl, rfl, hO, hS, HT, hE, hpl⟩ := hrel
    rcases List.eq_nil_or_concat ps with rfl | ⟨qs, q, hq⟩
    · have hz : Z = n := by have := HT.out; simp [totL] at this; omega
      go_wp2
      go_ret
      exact ⟨ret_int (by omega), hE⟩
    · rw [List.concat_eq_append] at hq
      subst hq
      obtain ⟨hS1, c, hc7, hcx, hqc⟩ := hS.pop
      obtain ⟨M, hMq⟩ : ∃ M, qs.length = M := ⟨_, rfl⟩
      have hlen : (qs ++ [q]).length = M + 1 := by rw [List.length_append, hMq]; rfl
      rw [hlen] at hO hpl ⊢
      rw [hMq] at hS1 hcx
      obtain ⟨g, rfl⟩ := own_addr hO
      by_cases hn41 : n = 41
      · have hz : Z = 41 := by have := HT.out; omega
        subst hn41
        clear hO hS1 hcx hc7 hqc hS
        go_wp2
        go_ret
        exact ⟨ret_int (by rw [hz]), hE⟩
      · obtain ⟨qo, qcap, hcq, hqlc, hqcm, hqs⟩ := patAt_cells hqc
        have hO1 := own_pop hO
        obtain ⟨c0, c1, c2, c3, c4, c5, c6⟩ := patCells_at (own_range hO (o := M * 7) hcx) hcq
        have HQL := Lib.hid hqlc; have HQS := Lib.hid hqs
        obtain ⟨qN, hqN⟩ : ∃ x, q.l.length = x := ⟨_, rfl⟩
        rw [hqN] at c6 HQL
        have HQN := Lib.hid hqN
        have h5 : M ≤ cap2 := by
          rcases hO.2 with ⟨e, _⟩ | ⟨_, _, _, e, _, _, hnc, _⟩
          · cases e
          · cases e; omega
        have hgW : g < wr.heap.size := (hO.lt _ rfl).2
        have hgB : B ≤ g := (hO.lt _ rfl).1
        have hk2 : qN ≤ qcap := HQL.out
        have HO1 := Lib.hid hO1
        clear hqlc hqc hcx hcq hqs hqN hc7 hO hO1 hS
        unfold maxLen at hqcm
        rcases Nat.lt_or_ge 41 qN with h41 | h41
        · have h42 : ¬ (qN : Int) ≤ 41 := by omega
          obtain ⟨news, hrd, hsn, hon⟩ := PatsAt.row HQS.out qcap 41 (by rw [HQN.out]; omega) (by unfold maxLen; omega)
          have hcut : q.l.take 41 = q.l.take 41 := rfl
          have hnz : n + 1 + min (41 - (n + 1)) (totL (qs ++ q.l.take 41)) = Z := by
            rw [hcut, totL_append, ← HT.out, totL_append]
            have h1 : totL [q] = totL q.l + 1 := by simp [totL, totP_eq]
            have h2 := totL_cut q.l 40
            have h3 := totL_cut q.l (40 - n - totL qs)
            rw [h1]
            omega
          have hlen2 : (qs ++ q.l.take 41).length = M + 41 := by rw [List.length_append, hMq, List.length_take, Nat.min_eq_left (by rw [HQN.out]; omega)]
          have HRD := Lib.hid hrd; have HSN := Lib.hid hsn; have HON := Lib.hid hon; have HNZ := Lib.hid hnz; have HL2 := Lib.hid hlen2; have HS1 := Lib.hid hS1
          clear hrd hsn hon hnz hlen2 hcut hS1
          go_wp2_with (at_builtin; refine append_rd rfl (.tmp 28) (.tmp 35) 25 rfl B 27 _ 7 64 Tryd.underlying25 Tryd.infoPat rfl (by decide) (.slice (some ⟨g, 0, none⟩) M cap2) M _ rfl (own_ext HO1.out ((Turn.refl _ wr).alloc _)) (.slice qo 41 qcap) 41 _ rfl (HRD.out.ext ((Turn.refl _ wr).alloc _)) HON.out ?c3 ?c4 ?c5 ?_)
          case c3 => unfold maxLen; omega
          case c4 => omega
          case c5 => have := hE.size; have := HB.out; simp; omega
          intro ao5 cc w5 hO5 hT5 _
          have hT6 : Turn (· = g) wr w5 := ((Turn.refl (· = g) wr).alloc _).trans (hT5.mono (fun b _ e => by cases e; rfl))
          have hS6 := (HS1.out.append HSN.out).ext hT6 (fun b hb e => by omega)
          have hE6 : Ext w w5 := hE.after hT6 (fun b h1 h2 => by have := HB.out; omega)
          rw [← HL2.out] at hO5
          have HO5 := Lib.hid hO5; have HS6 := Lib.hid hS6
          clear hO5 hS6 hT5 hT6 hE c0 c1 c2 c3 c4 c5 c6
          go_wp2
          go_roundw
          case rel => exact ⟨n + 1, qs ++ q.l.take 41, _, _, _, by omega, by go_num, by rw [HL2.out], HO5.out, HS6.out, HNZ, hE6, by rw [HL2.out]; omega⟩
          case measure => simp [intOf]; omega
        · have h42 : (qN : Int) ≤ 41 := by omega
          obtain ⟨news, hrd, hsn, hon⟩ := PatsAt.row HQS.out qcap qN (by rw [HQN.out]; omega) (by unfold maxLen; omega)
          have hcut : q.l.take qN = q.l.take 41 := by rw [List.take_of_length_le (by rw [HQN.out]; omega), List.take_of_length_le (by rw [HQN.out]; omega)]
          have hnz : n + 1 + min (41 - (n + 1)) (totL (qs ++ q.l.take qN)) = Z := by
            rw [hcut, totL_append, ← HT.out, totL_append]
            have h1 : totL [q] = totL q.l + 1 := by simp [totL, totP_eq]
            have h2 := totL_cut q.l 40
            have h3 := totL_cut q.l (40 - n - totL qs)
            rw [h1]
            omega
          have hlen2 : (qs ++ q.l.take qN).length = M + qN := by rw [List.length_append, hMq, List.length_take, Nat.min_eq_left (by rw [HQN.out]; omega)]
          have HRD := Lib.hid hrd; have HSN := Lib.hid hsn; have HON := Lib.hid hon; have HNZ := Lib.hid hnz; have HL2 := Lib.hid hlen2; have HS1 := Lib.hid hS1
          clear hrd hsn hon hnz hlen2 hcut hS1
          go_wp2_with (at_builtin; refine append_rd rfl (.tmp 28) (.tmp 35) 25 rfl B 27 _ 7 64 Tryd.underlying25 Tryd.infoPat rfl (by decide) (.slice (some ⟨g, 0, none⟩) M cap2) M _ rfl (own_ext HO1.out ((Turn.refl _ wr).alloc _)) (.slice qo qN qcap) qN _ rfl (HRD.out.ext ((Turn.refl _ wr).alloc _)) HON.out ?c3 ?c4 ?c5 ?_)
          case c3 => unfold maxLen; omega
          case c4 => omega
          case c5 => have := hE.size; have := HB.out; simp; omega
          intro ao5 cc w5 hO5 hT5 _
          have hT6 : Turn (· = g) wr w5 := ((Turn.refl (· = g) wr).alloc _).trans (hT5.mono (fun b _ e => by cases e; rfl))
          have hS6 := (HS1.out.append HSN.out).ext hT6 (fun b hb e => by omega)
          have hE6 : Ext w w5 := hE.after hT6 (fun b h1 h2 => by have := HB.out; omega)
          rw [← HL2.out] at hO5
          have HO5 := Lib.hid hO5; have HS6 := Lib.hid hS6
          clear hO5 hS6 hT5 hT6 hE c0 c1 c2 c3 c4 c5 c6
          go_wp2
          go_roundw
          case rel => exact ⟨n + 1, qs ++ q.l.take qN, _, _, _, by omega, by go_num, by rw [HL2.out], HO5.out, HS6.out, HNZ, hE6, by rw [HL2.out]; omega⟩
          case measure => simp [intOf]; omega
end Go.Proofs.YtapfoaiibjdfnaaDoor
