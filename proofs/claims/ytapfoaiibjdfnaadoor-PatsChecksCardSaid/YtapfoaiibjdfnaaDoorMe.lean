/- slices.EqualFunc over patterns; pats.alike, Equal. ablautref06.walk, Check, both; count, Size. pats.Equal. ablautref06.alike, Equal (printed by genreflike.py). ablautref06.count, Size. ablautref06: same, join, follow, equal, satisfies. -/
import Derived.Test.YtapfoaiibjdfnaaDoorCheckP
import Derived.Test.YtapfoaiibjdfnaaDoorRefNode
import Derived.Test.YtapfoaiibjdfnaaDoorMd
namespace Go.Proofs.YtapfoaiibjdfnaaDoor
open Go.RowKit Go.Ab
attribute [local go_sem] Oper.semAt_some wide_fn wide_depth

mutual
/-- Are the two the same? -/
def likeP : Pat → Pat → Bool
  | .node k pl mi nt mn mx l, q => k == q.k && (pl == q.pl && mi == q.mi) && nt == q.nt && mn == q.mn && mx == q.mx && likeL l q.l
def likeL : List Pat → List Pat → Bool
  | [], r => r.isEmpty
  | p :: l, r => (match r with | [] => false | q :: r => likeP p q && likeL l r)
end
theorem likeP_eq (k : Int) (pl mi : Nat) (nt : Bool) (mn mx : Int) (l : List Pat) (q : Pat) : likeP (.node k pl mi nt mn mx l) q = (k == q.k && (pl == q.pl && mi == q.mi) && nt == q.nt && mn == q.mn && mx == q.mx && likeL l q.l) := by
  unfold likeP; rfl
theorem likeL_cons (p q : Pat) (l r : List Pat) : likeL (p :: l) (q :: r) = (likeP p q && likeL l r) := by
  rw [likeL]
theorem likeL_nil : likeL [] [] = true := by rw [likeL]; rfl
theorem likeL_len : ∀ {l r : List Pat}, likeL l r = true → l.length = r.length
  | [], [], _ => rfl
  | [], q :: r, h => by rw [likeL] at h; cases h
  | p :: l, [], h => by rw [likeL] at h; cases h
  | p :: l, q :: r, h => by
    rw [likeL_cons, Bool.and_eq_true] at h
    simp [likeL_len h.2]
theorem likeL_drop {l r : List Pat} {k : Nat} (h1 : k < l.length) (h2 : k < r.length) : likeL (l.drop k) (r.drop k) = (likeP l[k] r[k] && likeL (l.drop (k + 1)) (r.drop (k + 1))) := by
  rw [List.drop_eq_getElem_cons h1, List.drop_eq_getElem_cons h2, likeL_cons]

set_option maxRecDepth 100000 in
set_option maxHeartbeats 8000000 in
theorem equal_pat {K : Nat → Prop} {w : World} {ao bo : Option Addr} {cap bcap : Nat} {l r : List Pat} (hl : PatsAt K w l ao 0) (hr : PatsAt K w r bo 0) (hlm : l.length ≤ maxLen) (hrm : r.length ≤ maxLen)
    (hF : ∀ p ∈ l, ∀ q ∈ r, ∀ cs ds V, Ext w V → PatAt K V p cs → PatAt K V q ds → Calls Tryd.prog 60 #[.agg cs.toArray, .agg ds.toArray] V fun e w' => e = .returned (.bool (likeP p q)) ∧ Ext V w') :
    Calls Tryd.prog 84 #[.slice ao l.length cap, .slice bo r.length bcap, .func (.func 60) #[] #[]] w fun e w' => e = .returned (.bool (likeL l r)) ∧ Ext w w' := by
  unfold maxLen at hlm hrm
  have HL := Lib.hid hl; have HR := Lib.hid hr; have HF := Lib.hid hF
  clear hl hr hF
  obtain ⟨N, hN⟩ : ∃ N, l.length = N := ⟨_, rfl⟩
  obtain ⟨M, hM⟩ : ∃ M, r.length = M := ⟨_, rfl⟩
  have HN := Lib.hid hN; have HM := Lib.hid hM
  rw [hN] at hlm ⊢
  rw [hM] at hrm ⊢
  clear hN hM
  by_cases hNM : N = M
  · subst hNM
    go_enter Tryd.func84, Tryd.ntmps84
    go_wp2
    refine wp_loop (fun a W => ∃ (k : Nat), k ≤ N ∧ a.defers = [] ∧ (a.tmps.size = 32 ∧ a.tmps.getD 1 undef = .slice bo N bcap ∧ a.tmps.getD 2 undef = .func (.func 60) #[] #[] ∧ a.tmps.getD 15 undef = .slice ao N cap ∧ a.tmps.getD 16 undef = .int .i64 N ∧ a.tmps.getD 17 undef = .int .i64 k) ∧ likeL (l.drop k) (r.drop k) = likeL l r ∧ Ext w W)
      (fun a _ => N - (intOf (a.tmps.getD 17 undef)).toNat) ?_ ?_
    · exact ⟨0, by omega, rfl, ⟨rfl, rfl, rfl, rfl, rfl, rfl⟩, rfl, Turn.refl _ _⟩
    rintro ⟨t, _⟩ W ⟨k, hk, hds, ⟨hsz, f1, f2, f15, f16, f17⟩, hall, hE⟩
    subst hds
    obtain ⟨u', hu⟩ := frame_fun hsz
    obtain ⟨u, rfl⟩ : ∃ x, x = u' := ⟨_, rfl⟩
    have hu' : t = #[u 0, u 1, u 2, u 3, u 4, u 5, u 6, u 7, u 8, u 9, u 10, u 11, u 12, u 13, u 14, u 15, u 16, u 17, u 18, u 19, u 20, u 21, u 22, u 23, u 24, u 25, u 26, u 27, u 28, u 29, u 30, u 31] := hu
    clear hu
    subst hu'
    change u 1 = _ at f1
    change u 2 = _ at f2
    change u 15 = _ at f15
    change u 16 = _ at f16
    change u 17 = _ at f17
    rw [f1, f2, f15, f16, f17]
    clear f1 f2 f15 f16 f17 hsz
    have HALL := Lib.hid hall
    clear hall
    by_cases hkN : k < N
    · have h1 : (k : Int) < (N : Int) := by omega
      have hkl : k < l.length := by rw [HN.out]; exact hkN
      have hkr : k < r.length := by rw [HM.out]; exact hkN
      obtain ⟨g, off, c, rfl, hg, hgl, hra, hp⟩ := (HL.out.ext hE).get k hkl
      obtain ⟨g', off', c', rfl, hg', hgl', hra', hp'⟩ := (HR.out.ext hE).get k hkr
      rw [Nat.zero_add] at hra hra'
      obtain ⟨qo, qcap, hcq, _, _, _⟩ := patAt_cells hp
      obtain ⟨qo', qcap', hcq', _, _, _⟩ := patAt_cells hp'
      obtain ⟨c0, c1, c2, c3, c4, c5, c6⟩ := patCells_at hra hcq
      obtain ⟨d0, d1, d2, d3, d4, d5, d6⟩ := patCells_at hra' hcq'
      have hd := likeL_drop hkl hkr
      rw [HALL.out] at hd
      have hc := fun V (hE2 : Ext W V) => HF.out _ (List.getElem_mem hkl) _ (List.getElem_mem hkr) c c' V (hE.trans hE2) (hp.ext hE2) (hp'.ext hE2)
      obtain ⟨lb, hlb⟩ : ∃ b, likeP l[k] r[k] = b := ⟨_, rfl⟩
      rw [hlb] at hc hd
      rw [hcq, hcq'] at hc
      unfold patCells at hc
      have HC := Lib.hid hc; have HD := Lib.hid hd
      clear hc hra hra' hp hp' hcq hcq' hd hlb
      go_wp2_with fail
      refine (HC.out _ (((Turn.refl _ W).alloc _).alloc _)).mono ?_
      rintro e W2 ⟨rfl, hE2⟩
      have hE02 : Ext w W2 := hE.trans (Turn.trans (((Turn.refl _ W).alloc _).alloc _) hE2)
      clear hE hE2 c0 c1 c2 c3 c4 c5 c6 d0 d1 d2 d3 d4 d5 d6 HC
      cases lb
      · go_wp2
        go_ret
        exact ⟨by rw [HD.out, Bool.false_and]; rfl, hE02⟩
      · have hd : likeL (l.drop (k + 1)) (r.drop (k + 1)) = likeL l r := by rw [HD.out, Bool.true_and]
        have HD2 := Lib.hid hd
        clear hd
        go_wp2
        exact ⟨⟨k + 1, by omega, by first | rfl | trivial, ⟨rfl, rfl, rfl, rfl, rfl, rfl⟩, HD2.out, hE02⟩, by simp [intOf]; omega⟩
    · obtain rfl : k = N := by omega
      have h1 : ¬ (k : Int) < (k : Int) := by omega
      have hfin : likeL l r = true := by
        rw [← HALL.out, List.drop_of_length_le (by rw [HN.out]; exact Nat.le_refl _), List.drop_of_length_le (by rw [HM.out]; exact Nat.le_refl _)]; exact likeL_nil
      have HFI := Lib.hid hfin
      clear hfin
      go_wp2
      go_ret
      exact ⟨by rw [HFI.out]; rfl, hE⟩
  · have hfin : likeL l r = false := by
      cases h : likeL l r with
      | false => rfl
      | true => exact absurd (by rw [← HN.out, ← HM.out]; exact likeL_len h) hNM
    have HFI := Lib.hid hfin
    have h1 : ((N : Int) == (M : Int)) = false := by rw [beq_eq_false_iff_ne]; omega
    clear hfin
    go_enter Tryd.func84, Tryd.ntmps84
    go_wp2
    go_ret
    exact ⟨by rw [HFI.out]; rfl, Turn.refl _ _⟩

def LikeOk (p : Pat) : Prop := ∀ (K : Nat → Prop) (w : World) (q : Pat) (cs ds : List Value), PatAt K w p cs → PatAt K w q ds →
  Calls Tryd.prog 60 #[.agg cs.toArray, .agg ds.toArray] w fun e w' => e = .returned (.bool (likeP p q)) ∧ Ext w w'

set_option maxRecDepth 100000 in
set_option maxHeartbeats 8000000 in
theorem like_step (k : Int) (pl mi : Nat) (nt : Bool) (mn mx : Int) (l : List Pat) (ih : ∀ p ∈ l, LikeOk p) : LikeOk (.node k pl mi nt mn mx l) := by
  intro K w q cs ds hp hq
  unfold PatAt at hp
  obtain ⟨ao, cap, rfl, hpl, hmi, hlc, hcm, hl⟩ := hp
  obtain ⟨qk, qpl, qmi, qnt, qmn, qmx, r⟩ := q
  unfold PatAt at hq
  obtain ⟨bo, bcap, rfl, hql, hqi, hrc, hbm, hr⟩ := hq
  have hE1 : Ext w ((w.alloc (.cells (patCells k pl mi nt mn mx ao l.length cap).toArray 27)).alloc (.cells (patCells qk qpl qmi qnt qmn qmx bo r.length bcap).toArray 27)) := ((Turn.refl _ w).alloc _).alloc _
  have hc := equal_pat (cap := cap) (bcap := bcap) (hl.ext hE1) (hr.ext hE1) (Nat.le_trans hlc hcm) (Nat.le_trans hrc hbm) (fun p hm q _ cs ds V _ h1 h2 => ih p hm K V q cs ds h1 h2)
  have HE : Hid (likeP (.node k pl mi nt mn mx l) (.node qk qpl qmi qnt qmn qmx r) = (k == qk && (pl == qpl && mi == qmi) && nt == qnt && mn == qmn && mx == qmx && likeL l r)) := Lib.hid (likeP_eq ..)
  unfold patCells at hc hE1 ⊢
  obtain ⟨N, hN⟩ : ∃ N, l.length = N := ⟨_, rfl⟩
  obtain ⟨M, hM⟩ : ∃ M, r.length = M := ⟨_, rfl⟩
  rw [hN, hM] at hc hE1 ⊢
  obtain ⟨lb, hlb⟩ : ∃ b, likeL l r = b := ⟨_, rfl⟩
  rw [hlb] at hc HE
  have HC := Lib.hid hc
  clear hc hl hr ih hlc hcm hrc hbm hlb hN hM
  by_cases e1 : k = qk
  · by_cases e2 : (pl = qpl ∧ mi = qmi)
    · by_cases e3 : nt = qnt
      · by_cases e4 : mn = qmn
        · by_cases e5 : mx = qmx
          · obtain ⟨rfl, rfl⟩ := e2
            subst e1; subst e3; subst e4; subst e5
            go_enter Tryd.func60, Tryd.ntmps60
            go_wp2_with fail
            refine HC.out.mono ?_
            rintro e w2 ⟨rfl, hE⟩
            have hE2 : Ext w w2 := hE1.trans hE
            clear hE hE1 HC
            go_wp2
            go_ret
            exact ⟨by rw [HE.out]; simp, hE2⟩
          · obtain ⟨rfl, rfl⟩ := e2
            subst e1; subst e3; subst e4
            have q1 : (mx == qmx) = false := by rw [beq_eq_false_iff_ne]; exact e5
            rw [q1] at HE
            go_enter Tryd.func60, Tryd.ntmps60
            go_wp2_with fail
            go_ret
            exact ⟨by rw [HE.out]; simp, hE1⟩
        · obtain ⟨rfl, rfl⟩ := e2
          subst e1; subst e3
          have q1 : (mn == qmn) = false := by rw [beq_eq_false_iff_ne]; exact e4
          rw [q1] at HE
          go_enter Tryd.func60, Tryd.ntmps60
          go_wp2_with fail
          go_ret
          exact ⟨by rw [HE.out]; simp, hE1⟩
      · obtain ⟨rfl, rfl⟩ := e2
        subst e1
        have q1 : (nt == qnt) = false := by rw [beq_eq_false_iff_ne]; exact e3
        rw [q1] at HE
        go_enter Tryd.func60, Tryd.ntmps60
        go_wp2_with fail
        go_ret
        exact ⟨by rw [HE.out]; simp, hE1⟩
    · subst e1
      by_cases e6 : pl = qpl
      · subst e6
        have e7 : mi ≠ qmi := fun h => e2 ⟨rfl, h⟩
        have q1 : ((mi : Int) == (qmi : Int)) = false := by rw [beq_eq_false_iff_ne]; omega
        have q2 : (mi == qmi) = false := by rw [beq_eq_false_iff_ne]; exact e7
        rw [q2] at HE
        clear q2 e7 e2
        go_enter Tryd.func60, Tryd.ntmps60
        go_wp2_with fail
        go_ret
        exact ⟨by rw [HE.out]; simp, hE1⟩
      · have q1 : ((pl : Int) == (qpl : Int)) = false := by rw [beq_eq_false_iff_ne]; omega
        have q2 : (pl == qpl) = false := by rw [beq_eq_false_iff_ne]; exact e6
        rw [q2] at HE
        clear q2 e6 e2
        go_enter Tryd.func60, Tryd.ntmps60
        go_wp2_with fail
        go_ret
        exact ⟨by rw [HE.out]; simp, hE1⟩
  · have q1 : (k == qk) = false := by rw [beq_eq_false_iff_ne]; exact e1
    rw [q1] at HE
    go_enter Tryd.func60, Tryd.ntmps60
    go_wp2_with fail
    go_ret
    exact ⟨by rw [HE.out]; simp, hE1⟩
end Go.Proofs.YtapfoaiibjdfnaaDoor

namespace Go.Proofs.YtapfoaiibjdfnaaDoor
open Go.RowKit Go.Ab
attribute [local go_sem] Oper.semAt_some wide_fn wide_depth

theorem walkL_cons (p : Pat) (l : List Pat) (n : Nat) : walkL (p :: l) n = bindE (walkP p n) (walkL l) := by rw [walkL]
theorem walkP_eq (p : Pat) (n : Nat) : walkP p n = if n = 40 then (n, 12) else if nodeE p = 0 then walkL p.l (n + 1) else (n, nodeE p) := by cases p; rw [walkP]; rfl
theorem walkP_le {p : Pat} {n : Nat} (h : n ≤ 40) : (walkP p n).1 ≤ 40 := (walkP_chk p n [] h).1.1

def WalkOk (p : Pat) : Prop := ∀ (K : Nat → Prop) (w : World) (cs : List Value) (n : Nat), PatAt K w p cs → n ≤ 40 →
  Calls Tryd.prog 58 #[.agg cs.toArray, .int .i64 n] w fun e w' => e = .returned (.tuple #[.int .i64 ((walkP p n).1 : Int), .int .i64 (walkP p n).2]) ∧ Ext w w'

set_option maxRecDepth 100000 in
set_option maxHeartbeats 8000000 in
theorem walk_step (k : Int) (pl mi : Nat) (nt : Bool) (mn mx : Int) (l : List Pat) (ih : ∀ p ∈ l, WalkOk p) : WalkOk (.node k pl mi nt mn mx l) := by
  intro K w cs n hp hn
  unfold PatAt at hp
  obtain ⟨ao, cap, rfl, hpl, hmi, hlc, hcm, hl⟩ := hp
  have hnd := fun (V : World) => node_cells k pl mi nt mn mx ao l.length cap hpl hmi (Nat.le_trans hlc hcm) V
  have hlm : l.length ≤ maxLen := Nat.le_trans hlc hcm
  unfold maxLen at hlm
  rw [← nodeE_F] at hnd
  have HW := Lib.hid (walkP_eq (.node k pl mi nt mn mx l) n)
  obtain ⟨z, hz⟩ : ∃ z, nodeE (.node k pl mi nt mn mx l) = z := ⟨_, rfl⟩
  rw [hz] at HW hnd
  obtain ⟨N, hN⟩ : ∃ N, l.length = N := ⟨_, rfl⟩
  have HN := Lib.hid hN
  have HL := Lib.hid hl; have HND := Lib.hid hnd; have IH := Lib.hid ih
  unfold patCells
  rw [hN] at HND hlm ⊢
  clear hl hnd ih hz hN hlc hcm hpl hmi
  obtain ⟨Z1, Z2, hZ⟩ : ∃ a b, walkP (.node k pl mi nt mn mx l) n = (a, b) := ⟨_, _, rfl⟩
  rw [hZ] at HW ⊢
  clear hZ
  change Hid ((Z1, Z2) = if n = 40 then (n, 12) else if z = 0 then walkL l (n + 1) else (n, z)) at HW
  show Calls Tryd.prog 58 _ w fun e w' => e = .returned (.tuple #[.int .i64 (Z1 : Int), .int .i64 Z2]) ∧ Ext w w'
  by_cases h40 : n = 40
  · subst h40
    have hw : Z1 = 40 ∧ Z2 = 12 := by have := HW.out; rw [if_pos rfl] at this; exact ⟨congrArg Prod.fst this, congrArg Prod.snd this⟩
    obtain ⟨rfl, rfl⟩ := hw
    clear HW
    go_enter Tryd.func58, Tryd.ntmps58
    go_wp2
    exact bodyPost_ret (results_two rfl _ _ _) rfl ⟨rfl, (Turn.refl _ w).alloc _⟩
  have g40 : ((n : Int) == 40) = false := by rw [beq_eq_false_iff_ne]; omega
  have hn39 : n < 40 := by omega
  rw [if_neg h40] at HW
  clear h40
  go_enter Tryd.func58, Tryd.ntmps58
  go_wp2_with fail
  refine (HND.out _).mono ?_
  rintro e w2 ⟨rfl, hE2⟩
  have hE02 : Ext w w2 := Turn.trans ((Turn.refl _ w).alloc _) hE2
  have hx : w2.heap[w.heap.size]? = some (.cells #[.int .i64 k, .int .u32 (pl : Int), .int .u32 (mi : Int), .bool nt, .int .i64 mn, .int .i64 mx, .slice ao N cap] 27 (0, 0)) := hE2.keep (new_at rfl)
  clear hE2
  by_cases hz0 : z = 0
  case neg =>
    have gz : (z == 0) = false := by rw [beq_eq_false_iff_ne]; exact hz0
    rw [if_neg hz0] at HW
    have hw : Z1 = n ∧ Z2 = z := ⟨congrArg Prod.fst HW.out, congrArg Prod.snd HW.out⟩
    obtain ⟨rfl, rfl⟩ := hw
    clear HW hz0 hx
    go_wp2
    exact bodyPost_ret (results_two rfl _ _ _) rfl ⟨rfl, hE02⟩
  rw [if_pos hz0] at HW
  subst hz0
  generalize w.heap.size = B at hx ⊢
  have HX := Lib.hid hx
  clear hx
  go_wp2
  refine wp_loop (fun a W => ∃ (i m : Nat), i ≤ N ∧ m ≤ 40 ∧ walkL (l.drop i) m = (Z1, Z2) ∧ a.defers = [] ∧ (a.tmps.size = 42 ∧ a.tmps.getD 2 undef = .pointer (some ⟨B, 0, none⟩) ∧ a.tmps.getD 7 undef = .int .i64 m ∧ a.tmps.getD 8 undef = .int .i64 i) ∧ Ext w2 W)
    (fun a _ => N - (intOf (a.tmps.getD 8 undef)).toNat) ?_ ?_
  · exact ⟨0, n + 1, by omega, by omega, HW.out.symm, rfl, ⟨rfl, rfl, by go_num, rfl⟩, Turn.refl _ _⟩
  clear HW
  rintro ⟨t, _⟩ W ⟨i, m, hi, hm, hw, hds, ⟨hsz, f2, f7, f8⟩, hE⟩
  subst hds
  obtain ⟨u', hu⟩ := frame_fun hsz
  obtain ⟨u, rfl⟩ : ∃ x, x = u' := ⟨_, rfl⟩
  have hu' : t = #[u 0, u 1, u 2, u 3, u 4, u 5, u 6, u 7, u 8, u 9, u 10, u 11, u 12, u 13, u 14, u 15, u 16, u 17, u 18, u 19, u 20, u 21, u 22, u 23, u 24, u 25, u 26, u 27, u 28, u 29, u 30, u 31, u 32, u 33, u 34, u 35, u 36, u 37, u 38, u 39, u 40, u 41] := hu
  clear hu
  subst hu'
  change u 2 = _ at f2
  change u 7 = _ at f7
  change u 8 = _ at f8
  rw [f2, f7, f8]
  clear f2 f7 f8 hsz
  have HW := Lib.hid hw
  clear hw
  have hx := hE.keep HX.out
  have cX := fun j => cell_of_row _ _ j _ _ _ hx
  by_cases hiN : i < N
  · have h1 : (i : Int) < (N : Int) := by omega
    have hil : i < l.length := by rw [HN.out]; exact hiN
    obtain ⟨g, off, c, rfl, hg, hgl, hra, hq⟩ := (HL.out.ext (hE02.trans hE)).get i hil
    rw [Nat.zero_add] at hra
    obtain ⟨qo, qcap, hcq, _, _, _⟩ := patAt_cells hq
    obtain ⟨c0, c1, c2, c3, c4, c5, c6⟩ := patCells_at hra hcq
    have hc := IH.out _ (List.getElem_mem hil) K W c m hq hm
    have hd : l.drop i = l[i] :: l.drop (i + 1) := List.drop_eq_getElem_cons hil
    have hnext : bindE (walkP l[i] m) (walkL (l.drop (i + 1))) = (Z1, Z2) := by rw [← walkL_cons, ← hd]; exact HW.out
    have hle := walkP_le (p := l[i]) hm
    obtain ⟨y1, y2, hy⟩ : ∃ a b, walkP l[i] m = (a, b) := ⟨_, _, rfl⟩
    rw [hy] at hc hnext hle
    change y1 ≤ 40 at hle
    change (if y2 = 0 then walkL (l.drop (i + 1)) y1 else (y1, y2)) = (Z1, Z2) at hnext
    rw [hcq] at hc
    unfold patCells at hc
    have HC := Lib.hid hc; have HNX := Lib.hid hnext
    clear hc hra hq hcq hd hnext hy hx
    go_wp2_with fail
    refine HC.out.mono ?_
    rintro e W2 ⟨rfl, hE2⟩
    have hE22 := hE.trans hE2
    clear hE hE2 c0 c1 c2 c3 c4 c5 c6 HC cX
    by_cases hy0 : y2 = 0
    · rw [if_pos hy0] at HNX
      subst hy0
      go_wp2
      exact ⟨⟨i + 1, y1, by omega, hle, HNX.out, by first | rfl | trivial, ⟨rfl, rfl, rfl, rfl⟩, hE22⟩, by simp [intOf]; omega⟩
    · have gy : (y2 == 0) = false := by rw [beq_eq_false_iff_ne]; exact hy0
      rw [if_neg hy0] at HNX
      have hw : Z1 = y1 ∧ Z2 = y2 := ⟨(congrArg Prod.fst HNX.out).symm, (congrArg Prod.snd HNX.out).symm⟩
      obtain ⟨rfl, rfl⟩ := hw
      clear hy0 HNX
      go_wp2
      exact bodyPost_ret (results_two rfl _ _ _) rfl ⟨rfl, hE02.trans hE22⟩
  · obtain rfl : i = N := by omega
    have h1 : ¬ (i : Int) < (i : Int) := by omega
    have hw : Z1 = m ∧ Z2 = 0 := by
      have := HW.out
      rw [List.drop_of_length_le (by rw [HN.out]; exact Nat.le_refl _), walkL] at this
      exact ⟨(congrArg Prod.fst this).symm, (congrArg Prod.snd this).symm⟩
    obtain ⟨rfl, rfl⟩ := hw
    clear HW
    go_wp2
    exact bodyPost_ret (results_two rfl _ _ _) rfl ⟨rfl, hE02.trans hE⟩
mutual
theorem walk_all : ∀ p : Pat, WalkOk p
  | .node k pl mi nt mn mx l => walk_step k pl mi nt mn mx l (walk_alls l)
theorem walk_alls : ∀ l : List Pat, ∀ p ∈ l, WalkOk p
  | [], _, h => by cases h
  | q :: l, p, h => (List.mem_cons.1 h).elim (fun e => e ▸ walk_all q) (fun h => walk_alls l p h)
end

theorem refcheck_any {K : Nat → Prop} {w : World} {p : Pat} {cs : List Value} (hp : PatAt K w p cs) :
    Calls Tryd.prog 33 #[.agg cs.toArray] w fun e w' => e = .returned (.int .i64 (chkP p)) ∧ Ext w w' := by
  have hE1 : Ext w (w.alloc (.cells cs.toArray 27)) := (Turn.refl _ w).alloc _
  have hc := walk_all p K _ cs 0 (hp.ext hE1) (by omega)
  rw [walkP_zero] at hc
  obtain ⟨qo, qcap, hcq, _, _, _⟩ := patAt_cells hp
  rw [hcq] at hc ⊢
  unfold patCells at hc ⊢
  obtain ⟨a, ha⟩ : ∃ b, (walkP p 0).1 = b := ⟨_, rfl⟩
  obtain ⟨z, hz⟩ : ∃ b, chkP p = b := ⟨_, rfl⟩
  rw [ha, hz] at hc
  rw [hz]
  have HC := Lib.hid hc
  clear hc hcq hE1 ha hz
  go_enter Tryd.func33, Tryd.ntmps33
  go_wp2_with fail
  refine HC.out.mono ?_
  rintro e w2 ⟨rfl, hE⟩
  have hE2 : Ext w w2 := Turn.trans ((Turn.refl _ w).alloc _) hE
  clear hE
  go_wp2
  go_ret
  exact ⟨rfl, hE2⟩

theorem refboth_any {K : Nat → Prop} {w : World} {p : Pat} {cs : List Value} {v : Value} {ws : Wd} (hp : PatAt K w p cs) (hv : WordAt w v ws) :
    Calls Tryd.prog 51 #[.agg cs.toArray, v] w fun e w' => e = .returned (.int .i64 (relE p ws)) ∧ Ext w w' := by
  have hE1 : Ext w (w.alloc (.cells cs.toArray 27)) := (Turn.refl _ w).alloc _
  have hc := refcheck_any (hp.ext hE1)
  have hw := fun (V : World) (hE : Ext w V) => rcheck_any (hv.ext hE)
  have HR : Hid (relE p ws = if chkP p = 0 then wE ws else chkP p) := Lib.hid (by unfold relE wE; rfl)
  obtain ⟨qo, qcap, hcq, _, _, _⟩ := patAt_cells hp
  obtain ⟨bo, bcap, rfl, _⟩ := hv.slice
  rw [hcq] at hc ⊢
  unfold patCells at hc ⊢
  obtain ⟨a, ha⟩ : ∃ b, wE ws = b := ⟨_, rfl⟩
  obtain ⟨z, hz⟩ : ∃ b, chkP p = b := ⟨_, rfl⟩
  obtain ⟨n, hn⟩ : ∃ n, ws.length = n := ⟨_, rfl⟩
  rw [hz] at hc HR
  rw [ha] at hw HR
  rw [hn] at hw ⊢
  have HC := Lib.hid hc; have HW := Lib.hid hw
  clear hc hcq hE1 ha hz hw hn hv
  go_enter Tryd.func51, Tryd.ntmps51
  go_wp2_with fail
  refine HC.out.mono ?_
  rintro e w2 ⟨rfl, hE⟩
  have hE2 : Ext w w2 := Turn.trans ((Turn.refl _ w).alloc _) hE
  clear hE HC
  by_cases hz0 : z = 0
  · rw [if_pos hz0] at HR
    subst hz0
    go_wp2_with fail
    refine (HW.out _ hE2).mono ?_
    rintro e w3 ⟨rfl, hE⟩
    have hE3 := hE2.trans hE
    clear hE
    go_wp2
    go_ret
    exact ⟨by rw [HR.out]; rfl, hE3⟩
  · rw [if_neg hz0] at HR
    have gz : (z == 0) = false := by rw [beq_eq_false_iff_ne]; exact hz0
    clear hz0
    go_wp2
    go_ret
    exact ⟨by rw [HR.out]; rfl, hE2⟩
end Go.Proofs.YtapfoaiibjdfnaaDoor

namespace Go.Proofs.YtapfoaiibjdfnaaDoor
open Go.RowKit Go.Ab
attribute [local go_sem] Oper.semAt_some wide_fn wide_depth

mutual
theorem like_all : ∀ p : Pat, LikeOk p
  | .node k pl mi nt mn mx l => like_step k pl mi nt mn mx l (like_alls l)
theorem like_alls : ∀ l : List Pat, ∀ p ∈ l, LikeOk p
  | [], _, h => by cases h
  | q :: l, p, h => (List.mem_cons.1 h).elim (fun e => e ▸ like_all q) (fun h => like_alls l p h)
end

def equalV (p q : Pat) : Bool := decide (chkP p = 0) && decide (chkP q = 0) && likeP p q

set_option maxRecDepth 100000 in
set_option maxHeartbeats 8000000 in
theorem equal_any {K : Nat → Prop} {w : World} {p q : Pat} {cs ds : List Value} (hp : PatAt K w p cs) (hq : PatAt K w q ds) (hK : ∀ g, K g → g < w.heap.size) (hT : Tab w) :
    Calls Tryd.prog 36 #[.agg cs.toArray, .agg ds.toArray] w fun e w' => e = .returned (.bool (equalV p q)) ∧ Ext w w' := by
  have hck := fun (V : World) (hE : Ext w V) => check_any (K := K) (hp.ext hE) (fun g hg => Nat.lt_of_lt_of_le (hK g hg) hE.size) (hT.keep hE id)
  have hcq := fun (V : World) (hE : Ext w V) => check_any (K := K) (hq.ext hE) (fun g hg => Nat.lt_of_lt_of_le (hK g hg) hE.size) (hT.keep hE id)
  have hlk := fun (V : World) (hE : Ext w V) => like_all p K V q cs ds (hp.ext hE) (hq.ext hE)
  obtain ⟨ao, cap, rfl, hlc, hcm, _⟩ := patAt_cells hp
  obtain ⟨bo, bcap, rfl, hlc', hcm', _⟩ := patAt_cells hq
  clear hp hq hlc hcm hlc' hcm' hT hK
  obtain ⟨z, hz⟩ : ∃ z, chkP p = z := ⟨_, rfl⟩
  obtain ⟨y, hy⟩ : ∃ z, chkP q = z := ⟨_, rfl⟩
  obtain ⟨lb, hlb⟩ : ∃ b, likeP p q = b := ⟨_, rfl⟩
  have HE : Hid (equalV p q = (decide (z = 0) && decide (y = 0) && lb)) := Lib.hid (by unfold equalV; rw [hz, hy, hlb])
  have HCK := Lib.hid hck; have HCQ := Lib.hid hcq; have HLK := Lib.hid hlk
  rw [hz] at HCK
  rw [hy] at HCQ
  rw [hlb] at HLK
  clear hck hcq hlk hz hy hlb
  unfold patCells at HCK HCQ HLK ⊢
  go_enter Tryd.func36, Tryd.ntmps36
  go_wp2_with fail
  refine (HCK.out _ (((Turn.refl _ w).alloc _).alloc _)).mono ?_
  rintro e w2 ⟨rfl, hE2⟩
  have hE02 : Ext w w2 := Turn.trans (((Turn.refl _ w).alloc _).alloc _) hE2
  have hx : w2.heap[w.heap.size]? = some (.cells #[.int .i64 p.k, .int .u32 (p.pl : Int), .int .u32 (p.mi : Int), .bool p.nt, .int .i64 p.mn, .int .i64 p.mx, .slice ao p.l.length cap] 27 (0, 0)) := hE2.keep (new_keep (new_at rfl))
  have hx' : w2.heap[w.heap.size + 1]? = some (.cells #[.int .i64 q.k, .int .u32 (q.pl : Int), .int .u32 (q.mi : Int), .bool q.nt, .int .i64 q.mn, .int .i64 q.mx, .slice bo q.l.length bcap] 27 (0, 0)) := hE2.keep (new_at (by simp))
  have cX := fun j => cell_of_row _ _ j _ _ _ hx
  have cY := fun j => cell_of_row _ _ j _ _ _ hx'
  clear hE2
  by_cases hz0 : z = 0
  · have hz1 : (z == 0) = true := by rw [beq_iff_eq]; exact hz0
    go_wp2_with fail
    refine (HCQ.out _ hE02).mono ?_
    rintro e w3 ⟨rfl, hE3⟩
    have hE03 := hE02.trans hE3
    have hx3 := hE3.keep hx
    have hx3' := hE3.keep hx'
    clear hE3 cX cY hx hx'
    have cX := fun j => cell_of_row _ _ j _ _ _ hx3
    have cY := fun j => cell_of_row _ _ j _ _ _ hx3'
    by_cases hy0 : y = 0
    · have hy1 : (y == 0) = true := by rw [beq_iff_eq]; exact hy0
      go_wp2_with fail
      refine (HLK.out _ hE03).mono ?_
      rintro e w4 ⟨rfl, hE4⟩
      have hE04 := hE03.trans hE4
      clear hE4 cX cY hx3 hx3'
      go_wp2
      go_ret
      exact ⟨by rw [HE.out, decide_eq_true hz0, decide_eq_true hy0, Bool.true_and, Bool.true_and]; rfl, hE04⟩
    · have hy1 : (y == 0) = false := by rw [beq_eq_false_iff_ne]; exact hy0
      go_wp2
      go_ret
      exact ⟨by rw [HE.out, decide_eq_false hy0, Bool.and_false, Bool.false_and]; rfl, hE03⟩
  · have hz1 : (z == 0) = false := by rw [beq_eq_false_iff_ne]; exact hz0
    go_wp2
    go_ret
    exact ⟨by rw [HE.out, decide_eq_false hz0, Bool.false_and, Bool.false_and]; rfl, hE02⟩
end Go.Proofs.YtapfoaiibjdfnaaDoor

namespace Go.Proofs.YtapfoaiibjdfnaaDoor
open Go.RowKit Go.Ab
attribute [local go_sem] Oper.semAt_some wide_fn wide_depth

def RLikeOk (p : Pat) : Prop := ∀ (K : Nat → Prop) (w : World) (q : Pat) (cs ds : List Value), PatAt K w p cs → PatAt K w q ds →
  Calls Tryd.prog 61 #[.agg cs.toArray, .agg ds.toArray] w fun e w' => e = .returned (.bool (likeP p q)) ∧ Ext w w'

set_option maxRecDepth 100000 in
set_option maxHeartbeats 16000000 in
theorem rlike_step (k : Int) (pl mi : Nat) (nt : Bool) (mn mx : Int) (l : List Pat) (ih : ∀ p ∈ l, RLikeOk p) : RLikeOk (.node k pl mi nt mn mx l) := by
  intro K w q cs ds hp hq
  unfold PatAt at hp
  obtain ⟨ao, cap, rfl, hpl, hmi, hlc, hcm, hl⟩ := hp
  obtain ⟨qk, qpl, qmi, qnt, qmn, qmx, r⟩ := q
  unfold PatAt at hq
  obtain ⟨bo, bcap, rfl, hql, hqi, hrc, hbm, hr⟩ := hq
  have hlm : l.length ≤ maxLen := Nat.le_trans hlc hcm
  have hrm : r.length ≤ maxLen := Nat.le_trans hrc hbm
  have HE : Hid (likeP (.node k pl mi nt mn mx l) (.node qk qpl qmi qnt qmn qmx r) = (k == qk && (pl == qpl && mi == qmi) && nt == qnt && mn == qmn && mx == qmx && likeL l r)) := Lib.hid (likeP_eq ..)
  have hE1 : Ext w ((w.alloc (.cells (patCells k pl mi nt mn mx ao l.length cap).toArray 27)).alloc (.cells (patCells qk qpl qmi qnt qmn qmx bo r.length bcap).toArray 27)) := ((Turn.refl _ w).alloc _).alloc _
  have hlen : l.length ≠ r.length → likeL l r = false := fun h => by
    cases hh : likeL l r with
    | false => rfl
    | true => exact absurd (likeL_len hh) h
  unfold patCells at hE1 ⊢
  obtain ⟨N, hN⟩ : ∃ N, l.length = N := ⟨_, rfl⟩
  obtain ⟨M, hM⟩ : ∃ M, r.length = M := ⟨_, rfl⟩
  rw [hN] at hlm hlen hE1 ⊢
  rw [hM] at hrm hlen hE1 ⊢
  unfold maxLen at hlm hrm
  have HN := Lib.hid hN; have HM := Lib.hid hM; have HL := Lib.hid hl; have HR := Lib.hid hr; have IH := Lib.hid ih; have HLEN := Lib.hid hlen
  clear hN hM hl hr ih hlc hcm hrc hbm hlen
  obtain ⟨Z, hZ⟩ : ∃ b, likeP (.node k pl mi nt mn mx l) (.node qk qpl qmi qnt qmn qmx r) = b := ⟨_, rfl⟩
  rw [hZ] at HE ⊢
  clear hZ
  by_cases e1 : k = qk
  case neg =>
    have q1 : (k == qk) = false := by rw [beq_eq_false_iff_ne]; exact e1
    rw [q1] at HE
    go_enter Tryd.func61, Tryd.ntmps61
    go_wp2_with fail
    go_ret
    exact ⟨by rw [HE.out]; simp, hE1⟩
  by_cases e6 : pl = qpl
  case neg =>
    subst e1
    have q1 : ((pl : Int) == (qpl : Int)) = false := by rw [beq_eq_false_iff_ne]; omega
    have q2 : (pl == qpl) = false := by rw [beq_eq_false_iff_ne]; exact e6
    rw [q2] at HE
    clear q2 e6
    go_enter Tryd.func61, Tryd.ntmps61
    go_wp2_with fail
    go_ret
    exact ⟨by rw [HE.out]; simp, hE1⟩
  by_cases e7 : mi = qmi
  case neg =>
    subst e1; subst e6
    have q1 : ((mi : Int) == (qmi : Int)) = false := by rw [beq_eq_false_iff_ne]; omega
    have q2 : (mi == qmi) = false := by rw [beq_eq_false_iff_ne]; exact e7
    rw [q2] at HE
    clear q2 e7
    go_enter Tryd.func61, Tryd.ntmps61
    go_wp2_with fail
    go_ret
    exact ⟨by rw [HE.out]; simp, hE1⟩
  by_cases e3 : nt = qnt
  case neg =>
    subst e1; subst e6; subst e7
    have q1 : (nt == qnt) = false := by rw [beq_eq_false_iff_ne]; exact e3
    rw [q1] at HE
    go_enter Tryd.func61, Tryd.ntmps61
    go_wp2_with fail
    go_ret
    exact ⟨by rw [HE.out]; simp, hE1⟩
  by_cases e4 : mn = qmn
  case neg =>
    subst e1; subst e6; subst e7; subst e3
    have q1 : (mn == qmn) = false := by rw [beq_eq_false_iff_ne]; exact e4
    rw [q1] at HE
    go_enter Tryd.func61, Tryd.ntmps61
    go_wp2_with fail
    go_ret
    exact ⟨by rw [HE.out]; simp, hE1⟩
  by_cases e5 : mx = qmx
  case neg =>
    subst e1; subst e6; subst e7; subst e3; subst e4
    have q1 : (mx == qmx) = false := by rw [beq_eq_false_iff_ne]; exact e5
    rw [q1] at HE
    go_enter Tryd.func61, Tryd.ntmps61
    go_wp2_with fail
    go_ret
    exact ⟨by rw [HE.out]; simp, hE1⟩
  subst e1; subst e6; subst e7; subst e3; subst e4; subst e5
  by_cases e8 : N = M
  case neg =>
    have q1 : ((N : Int) == (M : Int)) = false := by rw [beq_eq_false_iff_ne]; omega
    have q2 := HLEN.out e8
    rw [q2] at HE
    clear q2 e8
    go_enter Tryd.func61, Tryd.ntmps61
    go_wp2_with fail
    go_ret
    exact ⟨by rw [HE.out]; simp, hE1⟩
  subst e8
  have hz : Z = likeL l r := by rw [HE.out]; simp
  have HZ := Lib.hid hz
  clear HE HLEN hz hrm
  go_enter Tryd.func61, Tryd.ntmps61
  go_wp2_with fail
  have hx : ((w.alloc (.cells #[.int .i64 k, .int .u32 (pl : Int), .int .u32 (mi : Int), .bool nt, .int .i64 mn, .int .i64 mx, .slice ao N cap] 27)).alloc (.cells #[.int .i64 k, .int .u32 (pl : Int), .int .u32 (mi : Int), .bool nt, .int .i64 mn, .int .i64 mx, .slice bo N bcap] 27)).heap[w.heap.size]? = some (.cells #[.int .i64 k, .int .u32 (pl : Int), .int .u32 (mi : Int), .bool nt, .int .i64 mn, .int .i64 mx, .slice ao N cap] 27 (0, 0)) := new_keep (new_at rfl)
  have hy : ((w.alloc (.cells #[.int .i64 k, .int .u32 (pl : Int), .int .u32 (mi : Int), .bool nt, .int .i64 mn, .int .i64 mx, .slice ao N cap] 27)).alloc (.cells #[.int .i64 k, .int .u32 (pl : Int), .int .u32 (mi : Int), .bool nt, .int .i64 mn, .int .i64 mx, .slice bo N bcap] 27)).heap[w.heap.size + 1]? = some (.cells #[.int .i64 k, .int .u32 (pl : Int), .int .u32 (mi : Int), .bool nt, .int .i64 mn, .int .i64 mx, .slice bo N bcap] 27 (0, 0)) := new_at (by simp)
  clear hE1
  have hE1 : Ext w ((w.alloc (.cells #[.int .i64 k, .int .u32 (pl : Int), .int .u32 (mi : Int), .bool nt, .int .i64 mn, .int .i64 mx, .slice ao N cap] 27)).alloc (.cells #[.int .i64 k, .int .u32 (pl : Int), .int .u32 (mi : Int), .bool nt, .int .i64 mn, .int .i64 mx, .slice bo N bcap] 27)) := ((Turn.refl _ w).alloc _).alloc _
  generalize ((w.alloc (.cells #[.int .i64 k, .int .u32 (pl : Int), .int .u32 (mi : Int), .bool nt, .int .i64 mn, .int .i64 mx, .slice ao N cap] 27)).alloc (.cells #[.int .i64 k, .int .u32 (pl : Int), .int .u32 (mi : Int), .bool nt, .int .i64 mn, .int .i64 mx, .slice bo N bcap] 27)) = w1 at hx hy hE1 ⊢
  generalize w.heap.size = B at hx hy ⊢
  have HX := Lib.hid hx; have HY := Lib.hid hy
  clear hx hy
  refine wp_loop (fun a W => ∃ (i : Nat), i ≤ N ∧ a.defers = [] ∧ (a.tmps.size = 67 ∧ a.tmps.getD 2 undef = .pointer (some ⟨B, 0, none⟩) ∧ a.tmps.getD 3 undef = .pointer (some ⟨B + 1, 0, none⟩) ∧ a.tmps.getD 5 undef = .int .i64 i) ∧ likeL (l.drop i) (r.drop i) = Z ∧ Ext w1 W)
    (fun a _ => N - (intOf (a.tmps.getD 5 undef)).toNat) ?_ ?_
  · exact ⟨0, by omega, rfl, ⟨rfl, rfl, rfl, rfl⟩, HZ.out.symm, Turn.refl _ _⟩
  clear HZ
  rintro ⟨t, _⟩ W ⟨i, hi, hds, ⟨hsz, f2, f3, f5⟩, hall, hE⟩
  subst hds
  obtain ⟨u', hu⟩ := frame_fun hsz
  obtain ⟨u, rfl⟩ : ∃ x, x = u' := ⟨_, rfl⟩
  have hu' : t = #[u 0, u 1, u 2, u 3, u 4, u 5, u 6, u 7, u 8, u 9, u 10, u 11, u 12, u 13, u 14, u 15, u 16, u 17, u 18, u 19, u 20, u 21, u 22, u 23, u 24, u 25, u 26, u 27, u 28, u 29, u 30, u 31, u 32, u 33, u 34, u 35, u 36, u 37, u 38, u 39, u 40, u 41, u 42, u 43, u 44, u 45, u 46, u 47, u 48, u 49, u 50, u 51, u 52, u 53, u 54, u 55, u 56, u 57, u 58, u 59, u 60, u 61, u 62, u 63, u 64, u 65, u 66] := hu
  clear hu
  subst hu'
  change u 2 = _ at f2
  change u 3 = _ at f3
  change u 5 = _ at f5
  rw [f2, f3, f5]
  clear f2 f3 f5 hsz
  have HALL := Lib.hid hall
  clear hall
  have hxW := hE.keep HX.out
  have hyW := hE.keep HY.out
  have cX := fun j => cell_of_row _ _ j _ _ _ hxW
  have cY := fun j => cell_of_row _ _ j _ _ _ hyW
  by_cases hiN : i < N
  · have h1 : (i : Int) < (N : Int) := by omega
    have hil : i < l.length := by rw [HN.out]; exact hiN
    have hir : i < r.length := by rw [HM.out]; exact hiN
    obtain ⟨g, off, c, rfl, hg, hgl, hra, hp⟩ := (HL.out.ext (hE1.trans hE)).get i hil
    obtain ⟨g', off', c', rfl, hg', hgl', hra', hp'⟩ := (HR.out.ext (hE1.trans hE)).get i hir
    rw [Nat.zero_add] at hra hra'
    obtain ⟨qo, qcap, hcq, _, _, _⟩ := patAt_cells hp
    obtain ⟨qo', qcap', hcq', _, _, _⟩ := patAt_cells hp'
    have hcs : ∀ (D : World), Ext W D → D.cell? ⟨B, 6, none⟩ = some (.slice (some ⟨g, off, none⟩) N cap) ∧ D.cell? ⟨B + 1, 6, none⟩ = some (.slice (some ⟨g', off', none⟩) N bcap) ∧ D.cell? ⟨g, off + i * 7, none⟩ = some (.int .i64 l[i].k) ∧ D.cell? ⟨g, off + i * 7 + 1, none⟩ = some (.int .u32 (l[i].pl : Int)) ∧ D.cell? ⟨g, off + i * 7 + 2, none⟩ = some (.int .u32 (l[i].mi : Int)) ∧ D.cell? ⟨g, off + i * 7 + 3, none⟩ = some (.bool l[i].nt) ∧ D.cell? ⟨g, off + i * 7 + 4, none⟩ = some (.int .i64 l[i].mn) ∧ D.cell? ⟨g, off + i * 7 + 5, none⟩ = some (.int .i64 l[i].mx) ∧ D.cell? ⟨g, off + i * 7 + 6, none⟩ = some (.slice qo l[i].l.length qcap) ∧ D.cell? ⟨g', off' + i * 7, none⟩ = some (.int .i64 r[i].k) ∧ D.cell? ⟨g', off' + i * 7 + 1, none⟩ = some (.int .u32 (r[i].pl : Int)) ∧ D.cell? ⟨g', off' + i * 7 + 2, none⟩ = some (.int .u32 (r[i].mi : Int)) ∧ D.cell? ⟨g', off' + i * 7 + 3, none⟩ = some (.bool r[i].nt) ∧ D.cell? ⟨g', off' + i * 7 + 4, none⟩ = some (.int .i64 r[i].mn) ∧ D.cell? ⟨g', off' + i * 7 + 5, none⟩ = some (.int .i64 r[i].mx) ∧ D.cell? ⟨g', off' + i * 7 + 6, none⟩ = some (.slice qo' r[i].l.length qcap') := by
      intro D hD
      obtain ⟨c0, c1, c2, c3, c4, c5, c6⟩ := patCells_at (rangeAt_turn hD hra id) hcq
      obtain ⟨d0, d1, d2, d3, d4, d5, d6⟩ := patCells_at (rangeAt_turn hD hra' id) hcq'
      exact ⟨by simp [World.cell?, hD.keep hxW], by simp [World.cell?, hD.keep hyW], c0, c1, c2, c3, c4, c5, c6, d0, d1, d2, d3, d4, d5, d6⟩
    have hd := likeL_drop hil hir
    rw [HALL.out] at hd
    have hc := fun V (hE2 : Ext W V) => IH.out _ (List.getElem_mem hil) K V r[i] c c' (hp.ext hE2) (hp'.ext hE2)
    obtain ⟨lb, hlb⟩ : ∃ b, likeP l[i] r[i] = b := ⟨_, rfl⟩
    rw [hlb] at hc hd
    rw [hcq, hcq'] at hc
    unfold patCells at hc
    have HC := Lib.hid hc; have HD := Lib.hid hd; have HS := Lib.hid hcs
    clear hc hra hra' hp hp' hcq hcq' hd hlb hcs cX cY hxW hyW
    have cX := (HS.out W (Turn.refl _ W)).1
    have b1 : (0 : Int) ≤ (i : Int) := by omega
    go_wp2_with fail
    refine wp_region_held_drew (S := fun D => D.cell? ⟨B, 6, none⟩ = some (.slice (some ⟨g, off, none⟩) N cap) ∧ D.cell? ⟨B + 1, 6, none⟩ = some (.slice (some ⟨g', off', none⟩) N bcap) ∧ D.cell? ⟨g, off + i * 7, none⟩ = some (.int .i64 l[i].k) ∧ D.cell? ⟨g, off + i * 7 + 1, none⟩ = some (.int .u32 (l[i].pl : Int)) ∧ D.cell? ⟨g, off + i * 7 + 2, none⟩ = some (.int .u32 (l[i].mi : Int)) ∧ D.cell? ⟨g, off + i * 7 + 3, none⟩ = some (.bool l[i].nt) ∧ D.cell? ⟨g, off + i * 7 + 4, none⟩ = some (.int .i64 l[i].mn) ∧ D.cell? ⟨g, off + i * 7 + 5, none⟩ = some (.int .i64 l[i].mx) ∧ D.cell? ⟨g, off + i * 7 + 6, none⟩ = some (.slice qo l[i].l.length qcap) ∧ D.cell? ⟨g', off' + i * 7, none⟩ = some (.int .i64 r[i].k) ∧ D.cell? ⟨g', off' + i * 7 + 1, none⟩ = some (.int .u32 (r[i].pl : Int)) ∧ D.cell? ⟨g', off' + i * 7 + 2, none⟩ = some (.int .u32 (r[i].mi : Int)) ∧ D.cell? ⟨g', off' + i * 7 + 3, none⟩ = some (.bool r[i].nt) ∧ D.cell? ⟨g', off' + i * 7 + 4, none⟩ = some (.int .i64 r[i].mn) ∧ D.cell? ⟨g', off' + i * 7 + 5, none⟩ = some (.int .i64 r[i].mx) ∧ D.cell? ⟨g', off' + i * 7 + 6, none⟩ = some (.slice qo' r[i].l.length qcap')) (by kernel_rfl) (HS.out _ (Turn.drew (Turn.refl _ W))) ?_
    intro hS0
    refine wpAnyH_take (i := 0) (v := ?_) rfl (by kernel_rfl) (by kernel_rfl) (by kernel_rfl) (fun _ _ _ h => h) (Or.inl ⟨by rfl, ?_⟩) (hS0) ?_
    rotate_left
    · intro w hSw; (try dsimp only at hSw); go_simp; try with_reducible rfl
    change wpAnyH _ _ _ _ _ _ _ (Act.put _ (some 55) _) _
    try simp only [Act.put, List.setIfInBounds_toArray, List.set_cons_zero, List.set_cons_succ]
    refine wpAnyH_take (i := 1) (v := ?_) rfl (by kernel_rfl) (by kernel_rfl) (by kernel_rfl) (fun _ _ _ h => h) (Or.inl ⟨by rfl, ?_⟩) (hS0) ?_
    rotate_left
    · intro w hSw; (try dsimp only at hSw); go_simp; try with_reducible rfl
    change wpAnyH _ _ _ _ _ _ _ (Act.put _ (some 56) _) _
    try simp only [Act.put, List.setIfInBounds_toArray, List.set_cons_zero, List.set_cons_succ]
    refine wpAnyH_take (i := 2) (v := ?_) rfl (by kernel_rfl) (by kernel_rfl) (by kernel_rfl) (fun _ _ _ h => h) (Or.inl ⟨by rfl, ?_⟩) (hS0) ?_
    rotate_left
    · intro w hSw; (try dsimp only at hSw); go_simp; try with_reducible rfl
    change wpAnyH _ _ _ _ _ _ _ (Act.put _ (some 57) _) _
    try simp only [Act.put, List.setIfInBounds_toArray, List.set_cons_zero, List.set_cons_succ]
    refine wpAnyH_take (i := 3) (v := ?_) rfl (by kernel_rfl) (by kernel_rfl) (by kernel_rfl) (fun _ _ _ h => h) (Or.inl ⟨by rfl, ?_⟩) (hS0) ?_
    rotate_left
    · intro w hSw; (try dsimp only at hSw); go_simp; try with_reducible rfl
    change wpAnyH _ _ _ _ _ _ _ (Act.put _ (some 58) _) _
    try simp only [Act.put, List.setIfInBounds_toArray, List.set_cons_zero, List.set_cons_succ]
    refine wpAnyH_take (i := 4) (v := ?_) rfl (by kernel_rfl) (by kernel_rfl) (by kernel_rfl) (fun _ _ _ h => h) (Or.inl ⟨by rfl, ?_⟩) (hS0) ?_
    rotate_left
    · intro w hSw; (try dsimp only at hSw); go_simp; try with_reducible rfl
    change wpAnyH _ _ _ _ _ _ _ (Act.put _ (some 59) _) _
    try simp only [Act.put, List.setIfInBounds_toArray, List.set_cons_zero, List.set_cons_succ]
    refine wpAnyH_take (i := 5) (v := ?_) rfl (by kernel_rfl) (by kernel_rfl) (by kernel_rfl) (fun _ _ _ h => h) (Or.inl ⟨by rfl, ?_⟩) (hS0) ?_
    rotate_left
    · intro w hSw; (try dsimp only at hSw); go_simp; try with_reducible rfl
    change wpAnyH _ _ _ _ _ _ _ (Act.put _ (some 60) _) _
    try simp only [Act.put, List.setIfInBounds_toArray, List.set_cons_zero, List.set_cons_succ]
    refine wpAnyH_take (i := 6) (v := ?_) rfl (by kernel_rfl) (by kernel_rfl) (by kernel_rfl) (fun _ _ _ h => h) (Or.inl ⟨by rfl, ?_⟩) (hS0) ?_
    rotate_left
    · intro w hSw; (try dsimp only at hSw); go_simp; try with_reducible rfl
    change wpAnyH _ _ _ _ _ _ _ (Act.put _ (some 61) _) _
    try simp only [Act.put, List.setIfInBounds_toArray, List.set_cons_zero, List.set_cons_succ]
    refine wpAnyH_take (i := 7) (v := ?_) rfl (by kernel_rfl) (by kernel_rfl) (by kernel_rfl) (fun _ _ _ h => h) (Or.inl ⟨by rfl, ?_⟩) (hS0) ?_
    rotate_left
    · intro w hSw; (try dsimp only at hSw); go_simp; try with_reducible rfl
    change wpAnyH _ _ _ _ _ _ _ (Act.put _ (some 62) _) _
    try simp only [Act.put, List.setIfInBounds_toArray, List.set_cons_zero, List.set_cons_succ]
    refine wpAnyH_take (i := 8) (v := ?_) rfl (by kernel_rfl) (by kernel_rfl) (by kernel_rfl) (fun _ _ _ h => h) (Or.inl ⟨by rfl, ?_⟩) (hS0) ?_
    rotate_left
    · intro w hSw; (try dsimp only at hSw); go_simp; try with_reducible rfl
    change wpAnyH _ _ _ _ _ _ _ (Act.put _ (some 63) _) _
    try simp only [Act.put, List.setIfInBounds_toArray, List.set_cons_zero, List.set_cons_succ]
    refine wpAnyH_take (i := 9) (v := ?_) rfl (by kernel_rfl) (by kernel_rfl) (by kernel_rfl) (fun _ _ _ h => h) (Or.inl ⟨by rfl, ?_⟩) (hS0) ?_
    rotate_left
    · intro w hSw; (try dsimp only at hSw); go_simp; try with_reducible rfl
    change wpAnyH _ _ _ _ _ _ _ (Act.put _ (some 64) _) _
    try simp only [Act.put, List.setIfInBounds_toArray, List.set_cons_zero, List.set_cons_succ]
    refine wpAnyH_ready (rs := [10]) (by kernel_rfl) (by simp) ?_
    refine AllReadyH.cons rfl (fun K hK => ?_) AllReadyH.nil
    (try rw [if_pos (show Region.wanted _ _ = true from rfl)])
    go_simp
    refine (HC.out _ (Turn.drew (Turn.refl _ W))).mono ?_
    rintro e W2 ⟨rfl, hE2⟩
    have hW2 : Ext W W2 := Turn.trans (Turn.drew (Turn.refl _ W)) hE2
    refine hK.out _ _ (HS.out _ hW2) (fun hS2 => ?_)
    clear hK K hE2
    refine wpAnyH_take (i := 11) (v := ?_) rfl (by kernel_rfl) (by kernel_rfl) (by kernel_rfl) (fun _ _ _ h => h) (Or.inl ⟨by rfl, ?_⟩) (hS2) ?_
    rotate_left
    · intro w hSw; (try dsimp only at hSw); go_simp; try with_reducible rfl
    change wpAnyH _ _ _ _ _ _ _ (Act.put _ (some 66) _) _
    try simp only [Act.put, List.setIfInBounds_toArray, List.set_cons_zero, List.set_cons_succ]
    refine wpAnyH_done (by kernel_rfl) ?_ _
    clear hS0 HC cX
    cases lb
    · go_wp2
      go_ret
      exact ⟨by rw [HD.out, Bool.false_and]; rfl, hE1.trans (hE.trans hW2)⟩
    · have hd : likeL (l.drop (i + 1)) (r.drop (i + 1)) = Z := by rw [HD.out, Bool.true_and]
      have HD2 := Lib.hid hd
      clear hd
      go_wp2
      exact ⟨⟨i + 1, by omega, by first | rfl | trivial, ⟨rfl, rfl, rfl, rfl⟩, HD2.out, hE.trans hW2⟩, by simp [intOf]; omega⟩
  · obtain rfl : i = N := by omega
    have h1 : ¬ (i : Int) < (i : Int) := by omega
    have hfin : Z = true := by
      rw [← HALL.out, List.drop_of_length_le (by rw [HN.out]; exact Nat.le_refl _), List.drop_of_length_le (by rw [HM.out]; exact Nat.le_refl _)]; exact likeL_nil
    have HFI := Lib.hid hfin
    clear hfin hxW hyW
    go_wp2
    go_ret
    exact ⟨by rw [HFI.out]; rfl, hE1.trans hE⟩

mutual
theorem rlike_all : ∀ p : Pat, RLikeOk p
  | .node k pl mi nt mn mx l => rlike_step k pl mi nt mn mx l (rlike_alls l)
theorem rlike_alls : ∀ l : List Pat, ∀ p ∈ l, RLikeOk p
  | [], _, h => by cases h
  | q :: l, p, h => (List.mem_cons.1 h).elim (fun e => e ▸ rlike_all q) (fun h => rlike_alls l p h)
end

mutual
theorem likeP_refl : ∀ p : Pat, likeP p p = true
  | .node k pl mi nt mn mx l => by
    rw [likeP_eq]
    simp only [Pat.k, Pat.pl, Pat.mi, Pat.nt, Pat.mn, Pat.mx, Pat.l, beq_self_eq_true, Bool.and_self, Bool.true_and]
    exact likeL_refl l
theorem likeL_refl : ∀ l : List Pat, likeL l l = true
  | [] => likeL_nil
  | p :: l => by rw [likeL_cons, likeP_refl p, likeL_refl l]; rfl
end
theorem equalV_refl (p : Pat) : equalV p p = decide (chkP p = 0) := by unfold equalV; rw [likeP_refl, Bool.and_true, Bool.and_self]

set_option maxRecDepth 100000 in
set_option maxHeartbeats 8000000 in
theorem refequal_any {K : Nat → Prop} {w : World} {p q : Pat} {cs ds : List Value} (hp : PatAt K w p cs) (hq : PatAt K w q ds) :
    Calls Tryd.prog 37 #[.agg cs.toArray, .agg ds.toArray] w fun e w' => e = .returned (.bool (equalV p q)) ∧ Ext w w' := by
  have hck := fun (V : World) (hE : Ext w V) => refcheck_any (hp.ext hE)
  have hcq := fun (V : World) (hE : Ext w V) => refcheck_any (hq.ext hE)
  have hlk := fun (V : World) (hE : Ext w V) => rlike_all p K V q cs ds (hp.ext hE) (hq.ext hE)
  obtain ⟨ao, cap, rfl, hlc, hcm, _⟩ := patAt_cells hp
  obtain ⟨bo, bcap, rfl, hlc', hcm', _⟩ := patAt_cells hq
  clear hp hq hlc hcm hlc' hcm'
  obtain ⟨z, hz⟩ : ∃ z, chkP p = z := ⟨_, rfl⟩
  obtain ⟨y, hy⟩ : ∃ z, chkP q = z := ⟨_, rfl⟩
  obtain ⟨lb, hlb⟩ : ∃ b, likeP p q = b := ⟨_, rfl⟩
  have HE : Hid (equalV p q = (decide (z = 0) && decide (y = 0) && lb)) := Lib.hid (by unfold equalV; rw [hz, hy, hlb])
  have HCK := Lib.hid hck; have HCQ := Lib.hid hcq; have HLK := Lib.hid hlk
  rw [hz] at HCK
  rw [hy] at HCQ
  rw [hlb] at HLK
  clear hck hcq hlk hz hy hlb
  unfold patCells at HCK HCQ HLK ⊢
  go_enter Tryd.func37, Tryd.ntmps37
  go_wp2_with fail
  refine (HCK.out _ (((Turn.refl _ w).alloc _).alloc _)).mono ?_
  rintro e w2 ⟨rfl, hE2⟩
  have hE02 : Ext w w2 := Turn.trans (((Turn.refl _ w).alloc _).alloc _) hE2
  have hx : w2.heap[w.heap.size]? = some (.cells #[.int .i64 p.k, .int .u32 (p.pl : Int), .int .u32 (p.mi : Int), .bool p.nt, .int .i64 p.mn, .int .i64 p.mx, .slice ao p.l.length cap] 27 (0, 0)) := hE2.keep (new_keep (new_at rfl))
  have hx' : w2.heap[w.heap.size + 1]? = some (.cells #[.int .i64 q.k, .int .u32 (q.pl : Int), .int .u32 (q.mi : Int), .bool q.nt, .int .i64 q.mn, .int .i64 q.mx, .slice bo q.l.length bcap] 27 (0, 0)) := hE2.keep (new_at (by simp))
  have cX := fun j => cell_of_row _ _ j _ _ _ hx
  have cY := fun j => cell_of_row _ _ j _ _ _ hx'
  clear hE2
  by_cases hz0 : z = 0
  · have hz1 : (z == 0) = true := by rw [beq_iff_eq]; exact hz0
    go_wp2_with fail
    refine (HCQ.out _ hE02).mono ?_
    rintro e w3 ⟨rfl, hE3⟩
    have hE03 := hE02.trans hE3
    have hx3 := hE3.keep hx
    have hx3' := hE3.keep hx'
    clear hE3 cX cY hx hx'
    have cX := fun j => cell_of_row _ _ j _ _ _ hx3
    have cY := fun j => cell_of_row _ _ j _ _ _ hx3'
    by_cases hy0 : y = 0
    · have hy1 : (y == 0) = true := by rw [beq_iff_eq]; exact hy0
      go_wp2_with fail
      refine (HLK.out _ hE03).mono ?_
      rintro e w4 ⟨rfl, hE4⟩
      have hE04 := hE03.trans hE4
      clear hE4 cX cY hx3 hx3'
      go_wp2
      go_ret
      exact ⟨by rw [HE.out, decide_eq_true hz0, decide_eq_true hy0, Bool.true_and, Bool.true_and]; rfl, hE04⟩
    · have hy1 : (y == 0) = false := by rw [beq_eq_false_iff_ne]; exact hy0
      go_wp2
      go_ret
      exact ⟨by rw [HE.out, decide_eq_false hy0, Bool.and_false, Bool.false_and]; rfl, hE03⟩
  · have hz1 : (z == 0) = false := by rw [beq_eq_false_iff_ne]; exact hz0
    go_wp2
    go_ret
    exact ⟨by rw [HE.out, decide_eq_false hz0, Bool.false_and, Bool.false_and]; rfl, hE02⟩
end Go.Proofs.YtapfoaiibjdfnaaDoor

namespace Go.Proofs.YtapfoaiibjdfnaaDoor
open Go.RowKit Go.Ab
attribute [local go_sem] Oper.semAt_some wide_fn wide_depth

theorem cntL_cons (p : Pat) (l : List Pat) (n : Nat) : cntL (p :: l) n = if n ≤ 40 then cntL l (cntP p n) else n := by rw [cntL]
theorem cntP_eq (p : Pat) (n : Nat) : cntP p n = cntL p.l (n + 1) := by cases p; rw [cntP]; rfl
theorem cntP_le {p : Pat} {n : Nat} (h : n ≤ 40) : cntP p n ≤ 41 := (cntP_sz p n [] h).1.1

def CountOk (p : Pat) : Prop := ∀ (K : Nat → Prop) (w : World) (cs : List Value) (n : Nat), PatAt K w p cs → n ≤ 40 →
  Calls Tryd.prog 59 #[.agg cs.toArray, .int .i64 n] w fun e w' => e = .returned (.int .i64 (cntP p n : Int)) ∧ Ext w w'

set_option maxRecDepth 100000 in
set_option maxHeartbeats 8000000 in
theorem count_step (k : Int) (pl mi : Nat) (nt : Bool) (mn mx : Int) (l : List Pat) (ih : ∀ p ∈ l, CountOk p) : CountOk (.node k pl mi nt mn mx l) := by
  intro K w cs n hp hn
  unfold PatAt at hp
  obtain ⟨ao, cap, rfl, hpl, hmi, hlc, hcm, hl⟩ := hp
  have hlm : l.length ≤ maxLen := Nat.le_trans hlc hcm
  unfold maxLen at hlm
  have hz0 := cntP_eq (.node k pl mi nt mn mx l) n
  change cntP (.node k pl mi nt mn mx l) n = cntL l (n + 1) at hz0
  obtain ⟨Z, hZ⟩ : ∃ z, cntP (.node k pl mi nt mn mx l) n = z := ⟨_, rfl⟩
  rw [hZ] at hz0 ⊢
  obtain ⟨N, hN⟩ : ∃ N, l.length = N := ⟨_, rfl⟩
  have HN := Lib.hid hN; have HL := Lib.hid hl; have IH := Lib.hid ih; have HZ0 := Lib.hid hz0
  unfold patCells
  rw [hN] at hlm ⊢
  clear hl ih hN hlc hcm hpl hmi hZ hz0
  go_enter Tryd.func59, Tryd.ntmps59
  go_wp2
  have hx : (w.alloc (.cells #[.int .i64 k, .int .u32 (pl : Int), .int .u32 (mi : Int), .bool nt, .int .i64 mn, .int .i64 mx, .slice ao N cap] 27)).heap[w.heap.size]? = some (.cells #[.int .i64 k, .int .u32 (pl : Int), .int .u32 (mi : Int), .bool nt, .int .i64 mn, .int .i64 mx, .slice ao N cap] 27 (0, 0)) := new_at rfl
  have hE0 : Ext w (w.alloc (.cells #[.int .i64 k, .int .u32 (pl : Int), .int .u32 (mi : Int), .bool nt, .int .i64 mn, .int .i64 mx, .slice ao N cap] 27)) := (Turn.refl _ w).alloc _
  generalize (w.alloc (.cells #[.int .i64 k, .int .u32 (pl : Int), .int .u32 (mi : Int), .bool nt, .int .i64 mn, .int .i64 mx, .slice ao N cap] 27)) = w1 at hx hE0 ⊢
  generalize w.heap.size = B at hx ⊢
  have HX := Lib.hid hx
  clear hx
  refine wp_loop (fun a W => ∃ (i m : Nat), i ≤ N ∧ m ≤ 41 ∧ cntL (l.drop i) m = Z ∧ a.defers = [] ∧ (a.tmps.size = 28 ∧ a.tmps.getD 2 undef = .pointer (some ⟨B, 0, none⟩) ∧ a.tmps.getD 5 undef = .int .i64 m ∧ a.tmps.getD 6 undef = .int .i64 i) ∧ Ext w1 W)
    (fun a _ => N - (intOf (a.tmps.getD 6 undef)).toNat) ?_ ?_
  · exact ⟨0, n + 1, by omega, by omega, HZ0.out.symm, rfl, ⟨rfl, rfl, by go_num, rfl⟩, Turn.refl _ _⟩
  clear HZ0
  rintro ⟨t, _⟩ W ⟨i, m, hi, hm, hw, hds, ⟨hsz, f2, f5, f6⟩, hE⟩
  subst hds
  obtain ⟨u', hu⟩ := frame_fun hsz
  obtain ⟨u, rfl⟩ : ∃ x, x = u' := ⟨_, rfl⟩
  have hu' : t = #[u 0, u 1, u 2, u 3, u 4, u 5, u 6, u 7, u 8, u 9, u 10, u 11, u 12, u 13, u 14, u 15, u 16, u 17, u 18, u 19, u 20, u 21, u 22, u 23, u 24, u 25, u 26, u 27] := hu
  clear hu
  subst hu'
  change u 2 = _ at f2
  change u 5 = _ at f5
  change u 6 = _ at f6
  rw [f2, f5, f6]
  clear f2 f5 f6 hsz
  have HW := Lib.hid hw
  clear hw
  have hx := hE.keep HX.out
  have cX := fun j => cell_of_row _ _ j _ _ _ hx
  by_cases hiN : i < N
  · have h1 : (i : Int) < (N : Int) := by omega
    have hil : i < l.length := by rw [HN.out]; exact hiN
    have hd : l.drop i = l[i] :: l.drop (i + 1) := List.drop_eq_getElem_cons hil
    by_cases hm40 : m ≤ 40
    · have h2 : (m : Int) ≤ 40 := by omega
      obtain ⟨g, off, c, rfl, hg, hgl, hra, hq⟩ := (HL.out.ext (hE0.trans hE)).get i hil
      rw [Nat.zero_add] at hra
      obtain ⟨qo, qcap, hcq, _, _, _⟩ := patAt_cells hq
      obtain ⟨c0, c1, c2, c3, c4, c5, c6⟩ := patCells_at hra hcq
      have hc := IH.out _ (List.getElem_mem hil) K W c m hq hm40
      have hnext : cntL (l.drop (i + 1)) (cntP l[i] m) = Z := by
        have := HW.out
        rw [hd, cntL_cons, if_pos hm40] at this
        exact this
      have hle := cntP_le (p := l[i]) hm40
      obtain ⟨y, hy⟩ : ∃ a, cntP l[i] m = a := ⟨_, rfl⟩
      rw [hy] at hc hnext hle
      rw [hcq] at hc
      unfold patCells at hc
      have HC := Lib.hid hc; have HNX := Lib.hid hnext
      clear hc hra hq hcq hd hnext hy hx
      go_wp2_with fail
      refine HC.out.mono ?_
      rintro e W2 ⟨rfl, hE2⟩
      have hE22 := hE.trans hE2
      clear hE hE2 c0 c1 c2 c3 c4 c5 c6 HC cX
      go_wp2
      exact ⟨⟨i + 1, y, by omega, hle, HNX.out, by first | rfl | trivial, ⟨rfl, rfl, rfl, rfl⟩, hE22⟩, by simp [intOf]; omega⟩
    · have h2 : ¬ (m : Int) ≤ 40 := by omega
      have hz : m = Z := by
        have := HW.out
        rw [hd, cntL_cons, if_neg hm40] at this
        exact this
      subst hz
      clear HW hd
      go_wp2
      go_ret
      exact ⟨rfl, hE0.trans hE⟩
  · obtain rfl : i = N := by omega
    have h1 : ¬ (i : Int) < (i : Int) := by omega
    have hz : m = Z := by
      have := HW.out
      rw [List.drop_of_length_le (by rw [HN.out]; exact Nat.le_refl _), cntL] at this
      exact this
    subst hz
    clear HW
    go_wp2
    go_ret
    exact ⟨rfl, hE0.trans hE⟩
mutual
theorem count_all : ∀ p : Pat, CountOk p
  | .node k pl mi nt mn mx l => count_step k pl mi nt mn mx l (count_alls l)
theorem count_alls : ∀ l : List Pat, ∀ p ∈ l, CountOk p
  | [], _, h => by cases h
  | q :: l, p, h => (List.mem_cons.1 h).elim (fun e => e ▸ count_all q) (fun h => count_alls l p h)
end

theorem refsize_any {K : Nat → Prop} {w : World} {p : Pat} {cs : List Value} (hp : PatAt K w p cs) :
    Calls Tryd.prog 34 #[.agg cs.toArray] w fun e w' => e = .returned (.int .i64 (sizeP p : Int)) ∧ Ext w w' := by
  have hE1 : Ext w (w.alloc (.cells cs.toArray 27)) := (Turn.refl _ w).alloc _
  have hc := count_all p K _ cs 0 (hp.ext hE1) (by omega)
  rw [cntP_zero] at hc
  obtain ⟨qo, qcap, hcq, _, _, _⟩ := patAt_cells hp
  rw [hcq] at hc ⊢
  unfold patCells at hc ⊢
  obtain ⟨z, hz⟩ : ∃ b, sizeP p = b := ⟨_, rfl⟩
  rw [hz] at hc ⊢
  have HC := Lib.hid hc
  clear hc hcq hE1 hz
  go_enter Tryd.func34, Tryd.ntmps34
  go_wp2_with fail
  refine HC.out.mono ?_
  rintro e w2 ⟨rfl, hE⟩
  have hE2 : Ext w w2 := Turn.trans ((Turn.refl _ w).alloc _) hE
  clear hE
  go_wp2
  go_ret
  exact ⟨rfl, hE2⟩
end Go.Proofs.YtapfoaiibjdfnaaDoor

namespace Go.Proofs.YtapfoaiibjdfnaaDoor
open Go.RowKit Go.Ab
attribute [local go_sem] Oper.semAt_some wide_fn wide_depth

theorem Tryd.infoU : (Tryd.prog.info? 65).map (fun i => (i.zero, i.size, i.bytes)) = some (some (.int .u64 0), 1, 8) := by kernel_rfl

/-- n rows of bits. -/
def u64V (n : Nat) (f : Nat → Nat) : List Value := (List.range n).map fun a => Value.int .u64 (f a : Int)
theorem u64V_length (n : Nat) (f : Nat → Nat) : (u64V n f).length = n := by simp [u64V]
theorem u64V_get {n a : Nat} (f : Nat → Nat) (h : a < n) : (u64V n f)[a]? = some (.int .u64 (f a : Int)) := by simp [u64V, h]
theorem u64V_congr {n : Nat} {f g : Nat → Nat} (h : ∀ a, a < n → f a = g a) : u64V n f = u64V n g := List.map_congr_left fun a ha => by rw [h a (List.mem_range.1 ha)]
def updN (f : Nat → Nat) (k v : Nat) : Nat → Nat := fun i => if i = k then v else f i
theorem u64V_set (n : Nat) (f : Nat → Nat) (k v : Nat) : (u64V n f).set k (.int .u64 (v : Int)) = u64V n (updN f k v) := by
  apply List.ext_getElem?
  intro j
  rw [List.getElem?_set]
  by_cases hj : j < n
  · rw [u64V_get _ hj, u64V_get _ hj]
    unfold updN
    by_cases e : k = j
    · subst e; rw [if_pos rfl, if_pos (by rw [u64V_length]; exact hj), if_pos rfl]
    · rw [if_neg e, if_neg (fun h => e h.symm)]
  · have h1 : ∀ f : Nat → Nat, (u64V n f)[j]? = none := fun f => List.getElem?_eq_none (by rw [u64V_length]; omega)
    rw [h1, h1]
    split
    · rename_i e; subst e; rw [if_neg (by rw [u64V_length]; exact hj)]
    · rfl
theorem u64V_zero (n : Nat) : List.replicate n (Value.int .u64 0) = u64V n (fun _ => 0) := by
  apply List.ext_getElem?
  intro j
  by_cases hj : j < n
  · rw [u64V_get _ hj]; simp [hj]
  · rw [List.getElem?_eq_none (by simpa using Nat.le_of_not_lt hj), List.getElem?_eq_none (by rw [u64V_length]; omega)]

/-- Rows that may be read. -/
def RowsR (w : World) (u : Value) (n : Nat) (f : Nat → Nat) : Prop := ∃ g cap, u = .slice (some ⟨g, 0, none⟩) n cap ∧ g < w.heap.size ∧ ∀ a, a < n → w.cell? ⟨g, a, none⟩ = some (.int .u64 (f a : Int))
theorem RowsR.keep {S : Nat → Prop} {A B : World} {u : Value} {n : Nat} {f : Nat → Nat} (h : RowsR A u n f) (ht : Turn S A B) (hS : ∀ g, u.ownBlock = some g → ¬ S g) : RowsR B u n f := by
  obtain ⟨g, cap, rfl, hg, hc⟩ := h
  exact ⟨g, cap, rfl, Nat.lt_of_lt_of_le hg ht.size, fun a ha => ht.cell_some (hc a ha) (hS g rfl)⟩
theorem RowsR.ext {A B : World} {u : Value} {n : Nat} {f : Nat → Nat} (h : RowsR A u n f) (ht : Ext A B) : RowsR B u n f := h.keep ht fun _ _ h => h
theorem RowsR.own {w : World} {base : Nat} {t : TypeId} {u : Value} {n : Nat} {f : Nat → Nat} (h : w.ownsRow base t 1 u (n + 1) (u64V (n + 1) f)) : RowsR w u (n + 1) f := by
  rcases h.2 with ⟨_, q⟩ | ⟨g, cap, cur, rfl, _, hg, _⟩
  · simp at q
  · exact ⟨g, cap, rfl, (Array.getElem?_eq_some_iff.1 hg).1, fun a ha => by rw [h.cellAt a (by omega), u64V_get _ ha]⟩

set_option maxRecDepth 100000 in
set_option maxHeartbeats 4000000 in
theorem same_tab (n : Nat) (hn : n ≤ 32) (w : World) :
    Calls Tryd.prog 75 #[.int .i64 n] w fun e w' => ∃ u, e = .returned u ∧ w'.ownsRow w.heap.size 65 1 u (n + 1) (u64V (n + 1) (rowM (idB n))) ∧ Ext w w' := by
  go_enter Tryd.func75, Tryd.ntmps75
  go_wp2_with (at_make; refine make_row1 rfl (.tmp 6) (.tmp 6) 77 rfl w.heap.size 65 _ 8 Tryd.underlying77 Tryd.infoU rfl .i64 .i64 ((n : Int) + 1) ((n : Int) + 1) (n + 1) rfl rfl (by omega) (by omega) ?c1 ?c2 (Nat.le_refl _) ?_)
  case c1 => omega
  case c2 => unfold maxLen; omega
  intro w1 hO hE1
  obtain ⟨r, hr⟩ : ∃ r, w.heap.size = r := ⟨_, rfl⟩
  rw [hr] at hO ⊢
  rw [u64V_zero, show u64V (n + 1) (fun _ => 0) = u64V (n + 1) (fun a => if a < 0 then 2 ^ a else 0) from u64V_congr fun a _ => by simp] at hO
  have HR := Lib.hid hr
  clear hr
  go_wp2
  refine wp_loop (fun a W => ∃ (k : Nat), k ≤ n + 1 ∧ a.defers = [] ∧ (a.tmps.size = 19 ∧ a.tmps.getD 0 undef = .int .i64 n ∧ a.tmps.getD 3 undef = .slice (some ⟨r, 0, none⟩) (n + 1) (n + 1) ∧ a.tmps.getD 4 undef = .int .i64 k) ∧ W.ownsRow r 65 1 (.slice (some ⟨r, 0, none⟩) (n + 1) (n + 1)) (n + 1) (u64V (n + 1) (fun a => if a < k then 2 ^ a else 0)) ∧ Ext w W)
    (fun a _ => n + 1 - (intOf (a.tmps.getD 4 undef)).toNat) ?_ ?_
  · exact ⟨0, by omega, rfl, ⟨rfl, rfl, rfl, rfl⟩, hO, hE1⟩
  clear hO hE1
  rintro ⟨t, _⟩ W ⟨k, hk, hds, ⟨hsz, f0, f3, f4⟩, hO, hE⟩
  subst hds
  obtain ⟨u', hu⟩ := frame_fun hsz
  obtain ⟨u, rfl⟩ : ∃ x, x = u' := ⟨_, rfl⟩
  have hu' : t = #[u 0, u 1, u 2, u 3, u 4, u 5, u 6, u 7, u 8, u 9, u 10, u 11, u 12, u 13, u 14, u 15, u 16, u 17, u 18] := hu
  clear hu
  subst hu'
  change u 0 = _ at f0
  change u 3 = _ at f3
  change u 4 = _ at f4
  rw [f0, f3, f4]
  clear f0 f3 f4 hsz
  by_cases hkn : k < n + 1
  · have h1 : (k : Int) ≤ (n : Int) := by omega
    have h2 : (k : Int) < (n : Int) + 1 := by omega
    have h3 : (k : Int) < 64 := by omega
    have hw := pow_u64 (k := k) (by omega)
    have c1 : W.cell? ⟨r, k, none⟩ = some (.int .u64 ((if k < k then 2 ^ k else 0 : Nat) : Int)) := by rw [hO.cellAt k (by omega), u64V_get _ hkn]
    rw [if_neg (Nat.lt_irrefl k)] at c1
    have c2 : W.frozen? ⟨r, k, none⟩ = false := hO.frozenAt k
    have hs := own_store hO k (.int .u64 ((2 ^ k : Nat) : Int))
    rw [u64V_set, u64V_congr (g := fun a => if a < k + 1 then 2 ^ a else 0) (fun i _ => by
      unfold updN
      by_cases e : i = k
      · subst e; simp
      · rw [if_neg e]
        show (if i < k then 2 ^ i else 0) = _
        by_cases h : i < k
        · rw [if_pos h, if_pos (by omega)]
        · rw [if_neg h, if_neg (by omega)])] at hs
    have hE2 : Ext w (W.setCell ⟨r, k, none⟩ (.int .u64 ((2 ^ k : Nat) : Int))) := hE.setCell (p := ⟨r, k, none⟩) (.inl (by rw [HR.out]; exact Nat.le_refl r)) _
    have HS := Lib.hid hs; have HE := Lib.hid hE2
    clear hs hE2 hO hE
    go_wp2
    exact ⟨⟨k + 1, by omega, by first | rfl | trivial, ⟨rfl, rfl, rfl, rfl⟩, HS.out, HE.out⟩, by simp [intOf]; omega⟩
  · obtain rfl : k = n + 1 := by omega
    have h1 : ¬ (((n + 1 : Nat) : Int) ≤ (n : Int)) := by omega
    rw [u64V_congr (g := rowM (idB n)) (fun a ha => by rw [if_pos ha, rowM_id hn (by omega)])] at hO
    rw [← HR.out] at hO
    have HO := Lib.hid hO
    clear hO
    go_wp2
    go_ret
    rw [HR.out] at HO
    exact ⟨_, rfl, by rw [HR.out]; exact HO.out, hE⟩

set_option maxRecDepth 100000 in
set_option maxHeartbeats 4000000 in
theorem join_tab {n : Nat} {w : World} {x y : Value} {f g : Nat → Nat} (hn : n ≤ 32) (hx : RowsR w x (n + 1) f) (hy : RowsR w y (n + 1) g) (hf : ∀ a, f a < 8589934592) (hg : ∀ a, g a < 8589934592) :
    Calls Tryd.prog 77 #[x, y] w fun e w' => ∃ u, e = .returned u ∧ w'.ownsRow w.heap.size 65 1 u (n + 1) (u64V (n + 1) (fun a => f a ||| g a)) ∧ Ext w w' := by
  obtain ⟨gx, cx, rfl, _, hcx⟩ := hx
  obtain ⟨gy, cy, rfl, _, hcy⟩ := hy
  have HX := Lib.hid hcx; have HY := Lib.hid hcy; have HF := Lib.hid hf; have HG := Lib.hid hg
  clear hcx hcy hf hg
  go_enter Tryd.func77, Tryd.ntmps77
  go_wp2_with (at_make; refine make_row1 rfl (.tmp 8) (.tmp 8) 77 rfl w.heap.size 65 _ 8 Tryd.underlying77 Tryd.infoU rfl .i64 .i64 _ _ (n + 1) rfl rfl (by first | rfl | omega | simp) (by first | rfl | omega | simp) ?c1 ?c2 (Nat.le_refl _) ?_)
  case c1 => omega
  case c2 => unfold maxLen; omega
  intro w1 hO hE1
  obtain ⟨r, hr⟩ : ∃ r, w.heap.size = r := ⟨_, rfl⟩
  rw [hr] at hO ⊢
  rw [u64V_zero, show u64V (n + 1) (fun _ => 0) = u64V (n + 1) (fun a => if a < 0 then f a ||| g a else 0) from u64V_congr fun a _ => by simp] at hO
  have HR := Lib.hid hr
  clear hr
  go_wp2
  refine wp_loop (fun a W => ∃ (k : Nat), k ≤ n + 1 ∧ a.defers = [] ∧ (a.tmps.size = 29 ∧ a.tmps.getD 0 undef = .slice (some ⟨gx, 0, none⟩) (n + 1) cx ∧ a.tmps.getD 1 undef = .slice (some ⟨gy, 0, none⟩) (n + 1) cy ∧ a.tmps.getD 5 undef = .slice (some ⟨r, 0, none⟩) (n + 1) (n + 1) ∧ a.tmps.getD 6 undef = .int .i64 k) ∧ W.ownsRow r 65 1 (.slice (some ⟨r, 0, none⟩) (n + 1) (n + 1)) (n + 1) (u64V (n + 1) (fun a => if a < k then f a ||| g a else 0)) ∧ Ext w W)
    (fun a _ => n + 1 - (intOf (a.tmps.getD 6 undef)).toNat) ?_ ?_
  · exact ⟨0, by omega, rfl, ⟨rfl, rfl, rfl, rfl, rfl⟩, hO, hE1⟩
  clear hO hE1
  rintro ⟨t, _⟩ W ⟨k, hk, hds, ⟨hsz, f0, f1, f5, f6⟩, hO, hE⟩
  subst hds
  obtain ⟨u', hu⟩ := frame_fun hsz
  obtain ⟨u, rfl⟩ : ∃ x, x = u' := ⟨_, rfl⟩
  have hu' : t = #[u 0, u 1, u 2, u 3, u 4, u 5, u 6, u 7, u 8, u 9, u 10, u 11, u 12, u 13, u 14, u 15, u 16, u 17, u 18, u 19, u 20, u 21, u 22, u 23, u 24, u 25, u 26, u 27, u 28] := hu
  clear hu
  subst hu'
  change u 0 = _ at f0
  change u 1 = _ at f1
  change u 5 = _ at f5
  change u 6 = _ at f6
  rw [f0, f1, f5, f6]
  clear f0 f1 f5 f6 hsz
  by_cases hkn : k < n + 1
  · have h1 : (k : Int) < (n : Int) + 1 := by omega
    have d1 := hE.cell_some (HX.out k hkn) id
    have d2 := hE.cell_some (HY.out k hkn) id
    have e1 := HF.out k
    have e2 := HG.out k
    have c1 : W.cell? ⟨r, k, none⟩ = some (.int .u64 ((if k < k then f k ||| g k else 0 : Nat) : Int)) := by rw [hO.cellAt k (by omega), u64V_get _ hkn]
    rw [if_neg (Nat.lt_irrefl k)] at c1
    have c2 : W.frozen? ⟨r, k, none⟩ = false := hO.frozenAt k
    have oA := u64_or_nat (f k) (g k) (by omega) (by omega)
    have hs : ∀ m, ((W.drewN m).setCell ⟨r, k, none⟩ (.int .u64 ((f k ||| g k : Nat) : Int))).ownsRow r 65 1 (.slice (some ⟨r, 0, none⟩) (n + 1) (n + 1)) (n + 1) (u64V (n + 1) (fun a => if a < k + 1 then f a ||| g a else 0)) ∧ Ext w ((W.drewN m).setCell ⟨r, k, none⟩ (.int .u64 ((f k ||| g k : Nat) : Int))) := by
      intro m
      have hs := own_store (own_ext hO ((Turn.refl _ W).drewN m)) k (.int .u64 ((f k ||| g k : Nat) : Int))
      rw [u64V_set, u64V_congr (g := fun a => if a < k + 1 then f a ||| g a else 0) (fun i _ => by
        unfold updN
        by_cases e : i = k
        · subst e; simp
        · rw [if_neg e]
          show (if i < k then f i ||| g i else 0) = _
          by_cases h : i < k
          · rw [if_pos h, if_pos (by omega)]
          · rw [if_neg h, if_neg (by omega)])] at hs
      exact ⟨hs, (hE.drewN m).setCell (p := ⟨r, k, none⟩) (.inl (by rw [HR.out]; exact Nat.le_refl r)) _⟩
    have HS := Lib.hid hs
    obtain ⟨fk, hfk⟩ : ∃ v, f k = v := ⟨_, rfl⟩
    obtain ⟨gk, hgk⟩ : ∃ v, g k = v := ⟨_, rfl⟩
    rw [hfk] at d1 e1 oA HS
    rw [hgk] at d2 e2 oA HS
    clear hs hO hE hfk hgk
    go_wp2
    refine region_still 11 (by kernel_rfl) (by kernel_rfl) ?_
    simp only [List.take_succ_cons, List.take_zero, List.drop_succ_cons, List.drop_zero]
    repeat still_step
    refine wpStill_nil ?_
    go_wp2
    exact ⟨⟨k + 1, by omega, by first | rfl | trivial, ⟨rfl, rfl, rfl, rfl, rfl⟩, (HS.out _).1, (HS.out _).2⟩, by simp [intOf]; omega⟩
  · obtain rfl : k = n + 1 := by omega
    have h1 : ¬ (((n + 1 : Nat) : Int) < (n : Int) + 1) := by omega
    rw [u64V_congr (g := fun a => f a ||| g a) (fun a ha => by rw [if_pos ha])] at hO
    rw [← HR.out] at hO
    have HO := Lib.hid hO
    clear hO
    go_wp2
    go_ret
    rw [HR.out] at HO
    exact ⟨_, rfl, by rw [HR.out]; exact HO.out, hE⟩

set_option maxRecDepth 100000 in
set_option maxHeartbeats 8000000 in
theorem follow_tab {n : Nat} {w : World} {x y : Value} {X Y : Bin2} (hn : n ≤ 32) (hx : RowsR w x (n + 1) (rowM X)) (hy : RowsR w y (n + 1) (rowM Y)) (hX : Mono n X) :
    Calls Tryd.prog 76 #[x, y] w fun e w' => ∃ u, e = .returned u ∧ w'.ownsRow w.heap.size 65 1 u (n + 1) (u64V (n + 1) (rowM (comp X Y))) ∧ Ext w w' := by
  obtain ⟨gx, cx, rfl, _, hcx⟩ := hx
  obtain ⟨gy, cy, rfl, _, hcy⟩ := hy
  have HX := Lib.hid hcx; have HY := Lib.hid hcy; have HM := Lib.hid hX
  clear hcx hcy hX
  go_enter Tryd.func76, Tryd.ntmps76
  go_wp2_with (at_make; refine make_row1 rfl (.tmp 9) (.tmp 9) 77 rfl w.heap.size 65 _ 8 Tryd.underlying77 Tryd.infoU rfl .i64 .i64 _ _ (n + 1) rfl rfl (by first | rfl | omega | simp) (by first | rfl | omega | simp) ?c1 ?c2 (Nat.le_refl _) ?_)
  case c1 => omega
  case c2 => unfold maxLen; omega
  intro w1 hO hE1
  obtain ⟨r, hr⟩ : ∃ r, w.heap.size = r := ⟨_, rfl⟩
  rw [hr] at hO ⊢
  rw [u64V_zero, show u64V (n + 1) (fun _ => 0) = u64V (n + 1) (fun a => if a < 0 then rowM (comp X Y) a else 0) from u64V_congr fun a _ => by simp] at hO
  have HR := Lib.hid hr
  clear hr
  go_wp2
  refine wp_loop (fun a W => ∃ (k : Nat), k ≤ n + 1 ∧ a.defers = [] ∧ (a.tmps.size = 44 ∧ a.tmps.getD 0 undef = .slice (some ⟨gx, 0, none⟩) (n + 1) cx ∧ a.tmps.getD 1 undef = .slice (some ⟨gy, 0, none⟩) (n + 1) cy ∧ a.tmps.getD 5 undef = .slice (some ⟨r, 0, none⟩) (n + 1) (n + 1) ∧ a.tmps.getD 6 undef = .int .i64 k) ∧ W.ownsRow r 65 1 (.slice (some ⟨r, 0, none⟩) (n + 1) (n + 1)) (n + 1) (u64V (n + 1) (fun a => if a < k then rowM (comp X Y) a else 0)) ∧ Ext w W)
    (fun a _ => n + 1 - (intOf (a.tmps.getD 6 undef)).toNat) ?_ ?_
  · exact ⟨0, by omega, rfl, ⟨rfl, rfl, rfl, rfl, rfl⟩, hO, hE1⟩
  clear hO hE1
  rintro ⟨t, _⟩ W ⟨k, hk, hds, ⟨hsz, f0, f1, f5, f6⟩, hO, hE⟩
  subst hds
  obtain ⟨u', hu⟩ := frame_fun hsz
  obtain ⟨u, rfl⟩ : ∃ x, x = u' := ⟨_, rfl⟩
  have hu' : t = #[u 0, u 1, u 2, u 3, u 4, u 5, u 6, u 7, u 8, u 9, u 10, u 11, u 12, u 13, u 14, u 15, u 16, u 17, u 18, u 19, u 20, u 21, u 22, u 23, u 24, u 25, u 26, u 27, u 28, u 29, u 30, u 31, u 32, u 33, u 34, u 35, u 36, u 37, u 38, u 39, u 40, u 41, u 42, u 43] := hu
  clear hu
  subst hu'
  change u 0 = _ at f0
  change u 1 = _ at f1
  change u 5 = _ at f5
  change u 6 = _ at f6
  rw [f0, f1, f5, f6]
  clear f0 f1 f5 f6 hsz
  by_cases hkn : k < n + 1
  · have h1 : (k : Int) < (n : Int) + 1 := by omega
    rw [u64V_congr (g := updN (fun a => if a < k then rowM (comp X Y) a else 0) k (partB Y ((List.range 0).filter (X k)))) (fun i _ => by
      unfold updN
      by_cases e : i = k
      · subst e; rw [if_pos rfl, if_neg (Nat.lt_irrefl i)]; exact (partB_nil Y).symm
      · rw [if_neg e])] at hO
    have HO := Lib.hid hO
    clear hO
    go_wp2
    refine wp_loop (fun a V => ∃ (b : Nat), b ≤ n + 1 ∧ a.defers = [] ∧ (a.tmps.size = 44 ∧ a.tmps.getD 0 undef = .slice (some ⟨gx, 0, none⟩) (n + 1) cx ∧ a.tmps.getD 1 undef = .slice (some ⟨gy, 0, none⟩) (n + 1) cy ∧ a.tmps.getD 5 undef = .slice (some ⟨r, 0, none⟩) (n + 1) (n + 1) ∧ a.tmps.getD 6 undef = .int .i64 k ∧ a.tmps.getD 7 undef = .int .i64 b) ∧ V.ownsRow r 65 1 (.slice (some ⟨r, 0, none⟩) (n + 1) (n + 1)) (n + 1) (u64V (n + 1) (updN (fun a => if a < k then rowM (comp X Y) a else 0) k (partB Y ((List.range b).filter (X k))))) ∧ Ext w V)
      (fun a _ => n + 1 - (intOf (a.tmps.getD 7 undef)).toNat) ?_ ?_
    · exact ⟨0, by omega, rfl, ⟨rfl, rfl, rfl, rfl, rfl, rfl⟩, HO.out, hE⟩
    clear HO hE
    rintro ⟨t, _⟩ V ⟨b, hb, hds, ⟨hsz, f0, f1, f5, f6, f7⟩, hO, hE⟩
    subst hds
    obtain ⟨u', hu⟩ := frame_fun hsz
    obtain ⟨u, rfl⟩ : ∃ x, x = u' := ⟨_, rfl⟩
    have hu' : t = #[u 0, u 1, u 2, u 3, u 4, u 5, u 6, u 7, u 8, u 9, u 10, u 11, u 12, u 13, u 14, u 15, u 16, u 17, u 18, u 19, u 20, u 21, u 22, u 23, u 24, u 25, u 26, u 27, u 28, u 29, u 30, u 31, u 32, u 33, u 34, u 35, u 36, u 37, u 38, u 39, u 40, u 41, u 42, u 43] := hu
    clear hu
    subst hu'
    change u 0 = _ at f0
    change u 1 = _ at f1
    change u 5 = _ at f5
    change u 6 = _ at f6
    change u 7 = _ at f7
    rw [f0, f1, f5, f6, f7]
    clear f0 f1 f5 f6 f7 hsz
    by_cases hbn : b < n + 1
    · have h2 : (b : Int) < (n : Int) + 1 := by omega
      have h3 : (b : Int) < 64 := by omega
      have d1 := hE.cell_some (HX.out k hkn) id
      have d2 := hE.cell_some (HY.out b hbn) id
      have e1 := rowM_lt X k
      have hbit := bitR X k b (by omega)
      have hfil := filter_snoc (X k) b
      obtain ⟨q, hq⟩ : ∃ q, X k b = q := ⟨_, rfl⟩
      rw [hq] at hbit hfil
      have HFIL := Lib.hid hfil
      clear hfil hq
      cases q
      · have hfin := HFIL.out
        rw [if_neg (by decide), List.append_nil] at hfin
        rw [← hfin] at hO
        have HO := Lib.hid hO
        clear hfin hO d2
        go_wp2
        exact ⟨⟨b + 1, by omega, by first | rfl | trivial, ⟨rfl, rfl, rfl, rfl, rfl, rfl⟩, HO.out, hE⟩, by simp [intOf]; omega⟩
      · have hfin := HFIL.out
        rw [if_pos rfl] at hfin
        have e2 := rowM_lt Y b
        have e3 := partB_lt Y ((List.range b).filter (X k))
        have c1 : V.cell? ⟨r, k, none⟩ = some (.int .u64 (partB Y ((List.range b).filter (X k)) : Int)) := by
          rw [hO.cellAt k (by omega), u64V_get _ hkn]; unfold updN; rw [if_pos rfl]
        have c2 : V.frozen? ⟨r, k, none⟩ = false := hO.frozenAt k
        have oA := u64_or_nat (partB Y ((List.range b).filter (X k))) (rowM Y b) (by omega) (by omega)
        have hs : ∀ m, ((V.drewN m).setCell ⟨r, k, none⟩ (.int .u64 ((partB Y ((List.range b).filter (X k)) ||| rowM Y b : Nat) : Int))).ownsRow r 65 1 (.slice (some ⟨r, 0, none⟩) (n + 1) (n + 1)) (n + 1) (u64V (n + 1) (updN (fun a => if a < k then rowM (comp X Y) a else 0) k (partB Y ((List.range (b + 1)).filter (X k))))) ∧ Ext w ((V.drewN m).setCell ⟨r, k, none⟩ (.int .u64 ((partB Y ((List.range b).filter (X k)) ||| rowM Y b : Nat) : Int))) := by
          intro m
          have hs := own_store (own_ext hO ((Turn.refl _ V).drewN m)) k (.int .u64 ((partB Y ((List.range b).filter (X k)) ||| rowM Y b : Nat) : Int))
          rw [u64V_set, ← partB_snoc, ← hfin, u64V_congr (g := updN (fun a => if a < k then rowM (comp X Y) a else 0) k (partB Y ((List.range (b + 1)).filter (X k)))) (fun i _ => by
            unfold updN
            by_cases e : i = k
            · rw [if_pos e, if_pos e]
            · rw [if_neg e, if_neg e, if_neg e])] at hs
          rw [← partB_snoc, ← hfin]
          exact ⟨hs, (hE.drewN m).setCell (p := ⟨r, k, none⟩) (.inl (by rw [HR.out]; exact Nat.le_refl r)) _⟩
        have HS := Lib.hid hs
        obtain ⟨pk, hpk⟩ : ∃ v, partB Y ((List.range b).filter (X k)) = v := ⟨_, rfl⟩
        obtain ⟨yk, hyk⟩ : ∃ v, rowM Y b = v := ⟨_, rfl⟩
        rw [hpk] at e3 c1 oA HS
        rw [hyk] at d2 e2 oA HS
        clear hs hO hE hpk hyk hfin HFIL
        go_wp2
        refine region_still 11 (by kernel_rfl) (by kernel_rfl) ?_
        simp only [List.take_succ_cons, List.take_zero, List.drop_succ_cons, List.drop_zero]
        repeat still_step
        refine wpStill_nil ?_
        go_wp2
        exact ⟨⟨b + 1, by omega, by first | rfl | trivial, ⟨rfl, rfl, rfl, rfl, rfl, rfl⟩, (HS.out _).1, (HS.out _).2⟩, by simp [intOf]; omega⟩
    · obtain rfl : b = n + 1 := by omega
      have h2 : ¬ (((n + 1 : Nat) : Int) < (n : Int) + 1) := by omega
      rw [u64V_congr (g := fun a => if a < k + 1 then rowM (comp X Y) a else 0) (fun i _ => by
        unfold updN
        by_cases e : i = k
        · subst e
          rw [if_pos rfl, if_pos (by omega)]
          exact partB_upto hn HM.out Y i
        · rw [if_neg e]
          show (if i < k then rowM (comp X Y) i else 0) = _
          by_cases h : i < k
          · rw [if_pos h, if_pos (by omega)]
          · rw [if_neg h, if_neg (by omega)])] at hO
      have HO := Lib.hid hO
      clear hO
      go_wp2
      first | exact ⟨⟨k + 1, by omega, by first | rfl | trivial, ⟨rfl, rfl, rfl, rfl, rfl⟩, HO.out, hE⟩, by simp [intOf]; omega⟩ | exact ⟨⟨k + 1, by omega, by simp, HO.out, hE⟩, by simp [intOf]; omega⟩ | exact ⟨⟨k + 1, by omega, by simp, HO.out⟩, by simp [intOf]; omega⟩
  · obtain rfl : k = n + 1 := by omega
    have h1 : ¬ (((n + 1 : Nat) : Int) < (n : Int) + 1) := by omega
    rw [u64V_congr (g := rowM (comp X Y)) (fun a ha => by rw [if_pos ha])] at hO
    rw [← HR.out] at hO
    have HO := Lib.hid hO
    clear hO
    go_wp2
    go_ret
    rw [HR.out] at HO
    exact ⟨_, rfl, by rw [HR.out]; exact HO.out, hE⟩

/-- Whether all rows are the same. -/
def EqPost (n : Nat) (f g : Nat → Nat) (e : Ending) : Prop := ∃ b, e = .returned (.bool b) ∧ (b = true ↔ ∀ a, a < n + 1 → f a = g a)
set_option maxRecDepth 100000 in
set_option maxHeartbeats 4000000 in
theorem equal_tab {n : Nat} {w : World} {x y : Value} {f g : Nat → Nat} (hn : n ≤ 32) (hx : RowsR w x (n + 1) f) (hy : RowsR w y (n + 1) g) (hf : ∀ a, f a < 8589934592) (hg : ∀ a, g a < 8589934592) :
    Calls Tryd.prog 78 #[x, y] w fun e w' => EqPost n f g e ∧ Ext w w' := by
  obtain ⟨gx, cx, rfl, _, hcx⟩ := hx
  obtain ⟨gy, cy, rfl, _, hcy⟩ := hy
  have HX := Lib.hid hcx; have HY := Lib.hid hcy; have HF := Lib.hid hf; have HG := Lib.hid hg
  clear hcx hcy hf hg
  go_enter Tryd.func78, Tryd.ntmps78
  go_wp2
  refine wp_loop (fun a W => ∃ (k : Nat), k ≤ n + 1 ∧ a.defers = [] ∧ (a.tmps.size = 21 ∧ a.tmps.getD 0 undef = .slice (some ⟨gx, 0, none⟩) (n + 1) cx ∧ a.tmps.getD 1 undef = .slice (some ⟨gy, 0, none⟩) (n + 1) cy ∧ a.tmps.getD 5 undef = .int .i64 k) ∧ (∀ a, a < k → f a = g a) ∧ Ext w W)
    (fun a _ => n + 1 - (intOf (a.tmps.getD 5 undef)).toNat) ?_ ?_
  · exact ⟨0, by omega, rfl, ⟨rfl, rfl, rfl, rfl⟩, fun a ha => by omega, Turn.refl _ _⟩
  rintro ⟨t, _⟩ W ⟨k, hk, hds, ⟨hsz, f0, f1, f5⟩, hall, hE⟩
  subst hds
  obtain ⟨u', hu⟩ := frame_fun hsz
  obtain ⟨u, rfl⟩ : ∃ x, x = u' := ⟨_, rfl⟩
  have hu' : t = #[u 0, u 1, u 2, u 3, u 4, u 5, u 6, u 7, u 8, u 9, u 10, u 11, u 12, u 13, u 14, u 15, u 16, u 17, u 18, u 19, u 20] := hu
  clear hu
  subst hu'
  change u 0 = _ at f0
  change u 1 = _ at f1
  change u 5 = _ at f5
  rw [f0, f1, f5]
  clear f0 f1 f5 hsz
  have HALL := Lib.hid hall
  clear hall
  by_cases hkn : k < n + 1
  · have h1 : (k : Int) < (n : Int) + 1 := by omega
    have d1 := hE.cell_some (HX.out k hkn) id
    have d2 := hE.cell_some (HY.out k hkn) id
    have e1 := HF.out k
    have e2 := HG.out k
    by_cases hfg : f k = g k
    · have hnew : ∀ a, a < k + 1 → f a = g a := fun a ha => by
        by_cases e : a = k
        · rw [e]; exact hfg
        · exact HALL.out a (by omega)
      have HN := Lib.hid hnew
      rw [← hfg] at d2
      obtain ⟨fk, hfk⟩ : ∃ v, f k = v := ⟨_, rfl⟩
      rw [hfk] at d1 d2 e1
      clear hnew hfg hfk e2
      go_wp2
      go_quiet (fail)
      go_wp2
      exact ⟨⟨k + 1, by omega, by first | rfl | trivial, ⟨rfl, rfl, rfl, rfl⟩, HN.out, hE.drewN _⟩, by simp [intOf]; omega⟩
    · have hno : ¬ ∀ a, a < n + 1 → f a = g a := fun h => hfg (h k hkn)
      have HN := Lib.hid hno
      have q1 : ((f k : Int) == (g k : Int)) = false := by rw [beq_eq_false_iff_ne]; omega
      have q2 : ((f k : Int) != (g k : Int)) = true := by rw [bne_iff_ne]; omega
      obtain ⟨fk, hfk⟩ : ∃ v, f k = v := ⟨_, rfl⟩
      obtain ⟨gk, hgk⟩ : ∃ v, g k = v := ⟨_, rfl⟩
      rw [hfk] at d1 e1 q1 q2
      rw [hgk] at d2 e2 q1 q2
      clear hno hfg hfk hgk
      go_wp2
      go_quiet (fail)
      go_wp2
      go_ret
      exact ⟨⟨false, rfl, ⟨(fun h => by cases h), fun h => absurd h HN.out⟩⟩, hE.drewN _⟩
  · obtain rfl : k = n + 1 := by omega
    have h1 : ¬ (((n + 1 : Nat) : Int) < (n : Int) + 1) := by omega
    go_wp2
    go_ret
    exact ⟨⟨true, rfl, ⟨fun _ => HALL.out, fun _ => rfl⟩⟩, hE⟩

theorem sat_any {s c : Nat × Nat} (h1 : s.1 < 4294967296) (h2 : s.2 < 4294967296) (h3 : c.1 < 4294967296) (h4 : c.2 < 4294967296) (w : World) :
    Calls Tryd.prog 74 #[.agg #[.int .u32 (s.1 : Int), .int .u32 (s.2 : Int)], .agg #[.int .u32 (c.1 : Int), .int .u32 (c.2 : Int)]] w fun e w' => e = .returned (.bool (sat s c)) ∧ Ext w w' := by
  have a1 : bits .and .u32 (s.1 : Int) (c.1 : Int) = ((s.1 &&& c.1 : Nat) : Int) := u32_and_nat _ _ h1 h3
  have a2 : bits .and .u32 (s.2 : Int) (c.2 : Int) = ((s.2 &&& c.2 : Nat) : Int) := u32_and_nat _ _ h2 h4
  have HS : Hid (sat s c = ((s.1 &&& c.1 == c.1) && (s.2 &&& c.2 == c.2))) := Lib.hid (by unfold sat; rw [Nat.and_comm c.1, Nat.and_comm c.2])
  have b1 : (((s.1 &&& c.1 : Nat) : Int) == (c.1 : Int)) = (s.1 &&& c.1 == c.1) := by apply Bool.eq_iff_iff.2; rw [beq_iff_eq, beq_iff_eq]; omega
  have b2 : (((s.2 &&& c.2 : Nat) : Int) == (c.2 : Int)) = (s.2 &&& c.2 == c.2) := by apply Bool.eq_iff_iff.2; rw [beq_iff_eq, beq_iff_eq]; omega
  obtain ⟨s1, s2⟩ := s
  obtain ⟨c1, c2⟩ := c
  simp only at *
  obtain ⟨u, hu⟩ : ∃ u, s1 &&& c1 = u := ⟨_, rfl⟩
  obtain ⟨v, hv⟩ : ∃ u, s2 &&& c2 = u := ⟨_, rfl⟩
  rw [hu] at a1 b1 HS
  rw [hv] at a2 b2 HS
  obtain ⟨x, hx⟩ : ∃ x, (u == c1) = x := ⟨_, rfl⟩
  obtain ⟨y, hy⟩ : ∃ x, (v == c2) = x := ⟨_, rfl⟩
  rw [hx] at b1 HS
  rw [hy] at b2 HS
  clear hu hv hx hy
  go_enter Tryd.func74, Tryd.ntmps74
  cases x
  · go_wp2
    go_ret
    exact ⟨by rw [HS.out]; rfl, ((Turn.refl _ _).alloc _).alloc _⟩
  · cases y
    all_goals
      go_wp2
      go_ret
      exact ⟨by rw [HS.out]; rfl, ((Turn.refl _ _).alloc _).alloc _⟩
end Go.Proofs.YtapfoaiibjdfnaaDoor
