/- slices.EqualFunc over patterns; pats.alike, Equal. -/
import Derived.Test.YtapfoaiibjdfnaaDoorCheckP
namespace Go.Proofs.YtapfoaiibjdfnaaDoor
open Go.RowKit Go.Ab
attribute [local go_sem] Oper.semAt_some wide_fn wide_depth

mutual
/-- Are the two the same? -/
def likeP : Pat → Pat → Bool
  | .node k pl mi nt mn mx l, q => k == q.k && (pl == q.pl && mi == q.mi) && nt == q.nt && mn == q.mn && mx == q.mx && likeL l q.l
def likeL : List Pat → List Pat → Bool
  | [], r => r.isEmpty
  | p :: l, r => (match r with | [] => false | q :: r => likeP p q && likeL l r)
end
theorem likeP_eq (k : Int) (pl mi : Nat) (nt : Bool) (mn mx : Int) (l : List Pat) (q : Pat) : likeP (.node k pl mi nt mn mx l) q = (k == q.k && (pl == q.pl && mi == q.mi) && nt == q.nt && mn == q.mn && mx == q.mx && likeL l q.l) := by
  unfold likeP; rfl
theorem likeL_cons (p q : Pat) (l r : List Pat) : likeL (p :: l) (q :: r) = (likeP p q && likeL l r) := by
  rw [likeL]
theorem likeL_nil : likeL [] [] = true := by rw [likeL]; rfl
theorem likeL_len : ∀ {l r : List Pat}, likeL l r = true → l.length = r.length
  | [], [], _ => rfl
  | [], q :: r, h => by rw [likeL] at h; cases h
  | p :: l, [], h => by rw [likeL] at h; cases h
  | p :: l, q :: r, h => by
    rw [likeL_cons, Bool.and_eq_true] at h
    simp [likeL_len h.2]
theorem likeL_drop {l r : List Pat} {k : Nat} (h1 : k < l.length) (h2 : k < r.length) : likeL (l.drop k) (r.drop k) = (likeP l[k] r[k] && likeL (l.drop (k + 1)) (r.drop (k + 1))) := by
  rw [List.drop_eq_getElem_cons h1, List.drop_eq_getElem_cons h2, likeL_cons]

set_option maxRecDepth 100000 in
set_option maxHeartbeats 8000000 in
theorem equal_pat {K : Nat → Prop} {w : World} {ao bo : Option Addr} {cap bcap : Nat} {l r : List Pat} (hl : PatsAt K w l ao 0) (hr : PatsAt K w r bo 0) (hlm : l.length ≤ maxLen) (hrm : r.length ≤ maxLen)
    (hF : ∀ p ∈ l, ∀ q ∈ r, ∀ cs ds V, Ext w V → PatAt K V p cs → PatAt K V q ds → Calls Tryd.prog 60 #[.agg cs.toArray, .agg ds.toArray] V fun e w' => e = .returned (.bool (likeP p q)) ∧ Ext V w') :
    Calls Tryd.prog 84 #[.slice ao l.length cap, .slice bo r.length bcap, .func (.func 60) #[] #[]] w fun e w' => e = .returned (.bool (likeL l r)) ∧ Ext w w' := by
  unfold maxLen at hlm hrm
  have HL := Lib.hid hl; have HR := Lib.hid hr; have HF := Lib.hid hF
  clear hl hr hF
  obtain ⟨N, hN⟩ : ∃ N, l.length = N := ⟨_, rfl⟩
  obtain ⟨M, hM⟩ : ∃ M, r.length = M := ⟨_, rfl⟩
  have HN := Lib.hid hN; have HM := Lib.hid hM
  rw [hN] at hlm ⊢
  rw [hM] at hrm ⊢
  clear hN hM
  by_cases hNM : N = M
  · subst hNM
    go_enter Tryd.func84, Tryd.ntmps84
    go_wp2
    refine wp_loop (fun a W => ∃ (k : Nat), k ≤ N ∧ a.defers = [] ∧ (a.tmps.size = 32 ∧ a.tmps.getD 1 undef = .slice bo N bcap ∧ a.tmps.getD 2 undef = .func (.func 60) #[] #[] ∧ a.tmps.getD 15 undef = .slice ao N cap ∧ a.tmps.getD 16 undef = .int .i64 N ∧ a.tmps.getD 17 undef = .int .i64 k) ∧ likeL (l.drop k) (r.drop k) = likeL l r ∧ Ext w W)
      (fun a _ => N - (intOf (a.tmps.getD 17 undef)).toNat) ?_ ?_
    · exact ⟨0, by omega, rfl, ⟨rfl, rfl, rfl, rfl, rfl, rfl⟩, rfl, Turn.refl _ _⟩
    rintro ⟨t, _⟩ W ⟨k, hk, hds, ⟨hsz, f1, f2, f15, f16, f17⟩, hall, hE⟩
    subst hds
    obtain ⟨u', hu⟩ := frame_fun hsz
    obtain ⟨u, rfl⟩ : ∃ x, x = u' := ⟨_, rfl⟩
    have hu' : t = #[u 0, u 1, u 2, u 3, u 4, u 5, u 6, u 7, u 8, u 9, u 10, u 11, u 12, u 13, u 14, u 15, u 16, u 17, u 18, u 19, u 20, u 21, u 22, u 23, u 24, u 25, u 26, u 27, u 28, u 29, u 30, u 31] := hu
    clear hu
    subst hu'
    change u 1 = _ at f1
    change u 2 = _ at f2
    change u 15 = _ at f15
    change u 16 = _ at f16
    change u 17 = _ at f17
    rw [f1, f2, f15, f16, f17]
    clear f1 f2 f15 f16 f17 hsz
    have HALL := Lib.hid hall
    clear hall
    by_cases hkN : k < N
    · have h1 : (k : Int) < (N : Int) := by omega
      have hkl : k < l.length := by rw [HN.out]; exact hkN
      have hkr : k < r.length := by rw [HM.out]; exact hkN
      obtain ⟨g, off, c, rfl, hg, hgl, hra, hp⟩ := (HL.out.ext hE).get k hkl
      obtain ⟨g', off', c', rfl, hg', hgl', hra', hp'⟩ := (HR.out.ext hE).get k hkr
      rw [Nat.zero_add] at hra hra'
      obtain ⟨qo, qcap, hcq, _, _, _⟩ := patAt_cells hp
      obtain ⟨qo', qcap', hcq', _, _, _⟩ := patAt_cells hp'
      obtain ⟨c0, c1, c2, c3, c4, c5, c6⟩ := patCells_at hra hcq
      obtain ⟨d0, d1, d2, d3, d4, d5, d6⟩ := patCells_at hra' hcq'
      have hd := likeL_drop hkl hkr
      rw [HALL.out] at hd
      have hc := fun V (hE2 : Ext W V) => HF.out _ (List.getElem_mem hkl) _ (List.getElem_mem hkr) c c' V (hE.trans hE2) (hp.ext hE2) (hp'.ext hE2)
      obtain ⟨lb, hlb⟩ : ∃ b, likeP l[k] r[k] = b := ⟨_, rfl⟩
      rw [hlb] at hc hd
      rw [hcq, hcq'] at hc
      unfold patCells at hc
      have HC := Lib.hid hc; have HD := Lib.hid hd
      clear hc hra hra' hp hp' hcq hcq' hd hlb
      go_wp2_with fail
      refine (HC.out _ (((Turn.refl _ W).alloc _).alloc _)).mono ?_
      rintro e W2 ⟨rfl, hE2⟩
      have hE02 : Ext w W2 := hE.trans (Turn.trans (((Turn.refl _ W).alloc _).alloc _) hE2)
      clear hE hE2 c0 c1 c2 c3 c4 c5 c6 d0 d1 d2 d3 d4 d5 d6 HC
      cases lb
      · go_wp2
        go_ret
        exact ⟨by rw [HD.out, Bool.false_and]; rfl, hE02⟩
      · have hd : likeL (l.drop (k + 1)) (r.drop (k + 1)) = likeL l r := by rw [HD.out, Bool.true_and]
        have HD2 := Lib.hid hd
        clear hd
        go_wp2
        exact ⟨⟨k + 1, by omega, by first | rfl | trivial, ⟨rfl, rfl, rfl, rfl, rfl, rfl⟩, HD2.out, hE02⟩, by simp [intOf]; omega⟩
    · obtain rfl : k = N := by omega
      have h1 : ¬ (k : Int) < (k : Int) := by omega
      have hfin : likeL l r = true := by
        rw [← HALL.out, List.drop_of_length_le (by rw [HN.out]; exact Nat.le_refl _), List.drop_of_length_le (by rw [HM.out]; exact Nat.le_refl _)]; exact likeL_nil
      have HFI := Lib.hid hfin
      clear hfin
      go_wp2
      go_ret
      exact ⟨by rw [HFI.out]; rfl, hE⟩
  · have hfin : likeL l r = false := by
      cases h : likeL l r with
      | false => rfl
      | true => exact absurd (by rw [← HN.out, ← HM.out]; exact likeL_len h) hNM
    have HFI := Lib.hid hfin
    have h1 : ((N : Int) == (M : Int)) = false := by rw [beq_eq_false_iff_ne]; omega
    clear hfin
    go_enter Tryd.func84, Tryd.ntmps84
    go_wp2
    go_ret
    exact ⟨by rw [HFI.out]; rfl, Turn.refl _ _⟩

def LikeOk (p : Pat) : Prop := ∀ (K : Nat → Prop) (w : World) (q : Pat) (cs ds : List Value), PatAt K w p cs → PatAt K w q ds →
  Calls Tryd.prog 60 #[.agg cs.toArray, .agg ds.toArray] w fun e w' => e = .returned (.bool (likeP p q)) ∧ Ext w w'

set_option maxRecDepth 100000 in
set_option maxHeartbeats 8000000 in
theorem like_step (k : Int) (pl mi : Nat) (nt : Bool) (mn mx : Int) (l : List Pat) (ih : ∀ p ∈ l, LikeOk p) : LikeOk (.node k pl mi nt mn mx l) := by
  intro K w q cs ds hp hq
  unfold PatAt at hp
  obtain ⟨ao, cap, rfl, hpl, hmi, hlc, hcm, hl⟩ := hp
  obtain ⟨qk, qpl, qmi, qnt, qmn, qmx, r⟩ := q
  unfold PatAt at hq
  obtain ⟨bo, bcap, rfl, hql, hqi, hrc, hbm, hr⟩ := hq
  have hE1 : Ext w ((w.alloc (.cells (patCells k pl mi nt mn mx ao l.length cap).toArray 27)).alloc (.cells (patCells qk qpl qmi qnt qmn qmx bo r.length bcap).toArray 27)) := ((Turn.refl _ w).alloc _).alloc _
  have hc := equal_pat (cap := cap) (bcap := bcap) (hl.ext hE1) (hr.ext hE1) (Nat.le_trans hlc hcm) (Nat.le_trans hrc hbm) (fun p hm q _ cs ds V _ h1 h2 => ih p hm K V q cs ds h1 h2)
  have HE : Hid (likeP (.node k pl mi nt mn mx l) (.node qk qpl qmi qnt qmn qmx r) = (k == qk && (pl == qpl && mi == qmi) && nt == qnt && mn == qmn && mx == qmx && likeL l r)) := Lib.hid (likeP_eq ..)
  unfold patCells at hc hE1 ⊢
  obtain ⟨N, hN⟩ : ∃ N, l.length = N := ⟨_, rfl⟩
  obtain ⟨M, hM⟩ : ∃ M, r.length = M := ⟨_, rfl⟩
  rw [hN, hM] at hc hE1 ⊢
  obtain ⟨lb, hlb⟩ : ∃ b, likeL l r = b := ⟨_, rfl⟩
  rw [hlb] at hc HE
  have HC := Lib.hid hc
  clear hc hl hr ih hlc hcm hrc hbm hlb hN hM
  by_cases e1 : k = qk
  · by_cases e2 : (pl = qpl ∧ mi = qmi)
    · by_cases e3 : nt = qnt
      · by_cases e4 : mn = qmn
        · by_cases e5 : mx = qmx
          · obtain ⟨rfl, rfl⟩ := e2
            subst e1; subst e3; subst e4; subst e5
            go_enter Tryd.func60, Tryd.ntmps60
            go_wp2_with fail
            refine HC.out.mono ?_
            rintro e w2 ⟨rfl, hE⟩
            have hE2 : Ext w w2 := hE1.trans hE
            clear hE hE1 HC
            go_wp2
            go_ret
            exact ⟨by rw [HE.out]; simp, hE2⟩
          · obtain ⟨rfl, rfl⟩ := e2
            subst e1; subst e3; subst e4
            have q1 : (mx == qmx) = false := by rw [beq_eq_false_iff_ne]; exact e5
            rw [q1] at HE
            go_enter Tryd.func60, Tryd.ntmps60
            go_wp2_with fail
            go_ret
            exact ⟨by rw [HE.out]; simp, hE1⟩
        · obtain ⟨rfl, rfl⟩ := e2
          subst e1; subst e3
          have q1 : (mn == qmn) = false := by rw [beq_eq_false_iff_ne]; exact e4
          rw [q1] at HE
          go_enter Tryd.func60, Tryd.ntmps60
          go_wp2_with fail
          go_ret
          exact ⟨by rw [HE.out]; simp, hE1⟩
      · obtain ⟨rfl, rfl⟩ := e2
        subst e1
        have q1 : (nt == qnt) = false := by rw [beq_eq_false_iff_ne]; exact e3
        rw [q1] at HE
        go_enter Tryd.func60, Tryd.ntmps60
        go_wp2_with fail
        go_ret
        exact ⟨by rw [HE.out]; simp, hE1⟩
    · subst e1
      by_cases e6 : pl = qpl
      · subst e6
        have e7 : mi ≠ qmi := fun h => e2 ⟨rfl, h⟩
        have q1 : ((mi : Int) == (qmi : Int)) = false := by rw [beq_eq_false_iff_ne]; omega
        have q2 : (mi == qmi) = false := by rw [beq_eq_false_iff_ne]; exact e7
        rw [q2] at HE
        clear q2 e7 e2
        go_enter Tryd.func60, Tryd.ntmps60
        go_wp2_with fail
        go_ret
        exact ⟨by rw [HE.out]; simp, hE1⟩
      · have q1 : ((pl : Int) == (qpl : Int)) = false := by rw [beq_eq_false_iff_ne]; omega
        have q2 : (pl == qpl) = false := by rw [beq_eq_false_iff_ne]; exact e6
        rw [q2] at HE
        clear q2 e6 e2
        go_enter Tryd.func60, Tryd.ntmps60
        go_wp2_with fail
        go_ret
        exact ⟨by rw [HE.out]; simp, hE1⟩
  · have q1 : (k == qk) = false := by rw [beq_eq_false_iff_ne]; exact e1
    rw [q1] at HE
    go_enter Tryd.func60, Tryd.ntmps60
    go_wp2_with fail
    go_ret
    exact ⟨by rw [HE.out]; simp, hE1⟩
end Go.Proofs.YtapfoaiibjdfnaaDoor
