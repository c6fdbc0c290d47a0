/- slices.EqualFunc over patterns; pats.alike, Equal. ablautref06.walk, Check, both; count, Size. -/
import Derived.Test.YtedhogbocifipaaGreatDoorCheckP
import Derived.Test.YtedhogbocifipaaGreatDoorRefNode
set_option maxRecDepth 100000
set_option maxHeartbeats 8000000
namespace Go.Proofs.YtedhogbocifipaaGreatDoor
open Go.RowKit Go.Ab
attribute [local go_sem] Oper.semAt_some wide_fn wide_depth

mutual
/-- Are the two the same? -/
def likeP : Pat → Pat → Bool
 | .node k pl mi nt mn mx l, q => k == q.k && (pl == q.pl && mi == q.mi) && nt == q.nt && mn == q.mn && mx == q.mx && likeL l q.l
def likeL : List Pat → List Pat → Bool
 | [], r => r.isEmpty
 | p :: l, r => (match r with | [] => false | q :: r => likeP p q && likeL l r)
end
theorem likeP_eq (k : Int) (pl mi : Nat) (nt : Bool) (mn mx : Int) (l : List Pat) (q : Pat) : likeP (.node k pl mi nt mn mx l) q = (k == q.k && (pl == q.pl && mi == q.mi) && nt == q.nt && mn == q.mn && mx == q.mx && likeL l q.l) := by
 unfold likeP; rfl
theorem likeL_cons (p q : Pat) (l r : List Pat) : likeL (p :: l) (q :: r) = (likeP p q && likeL l r) := by
 rw [likeL]
theorem likeL_nil : likeL [] [] = true := by rw [likeL]; rfl
theorem likeL_len : ∀ {l r : List Pat}, likeL l r = true → l.length = r.length
 | [], [], _ => rfl
 | [], q :: r, h => by rw [likeL] at h; cases h
 | p :: l, [], h => by rw [likeL] at h; cases h
 | p :: l, q :: r, h => by
  rw [likeL_cons, Bool.and_eq_true] at h
  simp [likeL_len h.2]
theorem likeL_drop {l r : List Pat} {k : Nat} (h1 : k < l.length) (h2 : k < r.length) : likeL (l.drop k) (r.drop k) = (likeP l[k] r[k] && likeL (l.drop (k + 1)) (r.drop (k + 1))) := by
 rw [List.drop_eq_getElem_cons h1, List.drop_eq_getElem_cons h2, likeL_cons]

theorem equal_pat {K : Nat → Prop} {w : World} {ao bo : Option Addr} {cap bcap : Nat} {l r : List Pat} (hl : PatsAt K w l ao 0) (hr : PatsAt K w r bo 0) (hlm : l.length ≤ maxLen) (hrm : r.length ≤ maxLen)
  (hF : ∀ p ∈ l, ∀ q ∈ r, ∀ cs ds V, Ext w V → PatAt K V p cs → PatAt K V q ds → Calls Tryz.prog 99 #[.agg cs.toArray, .agg ds.toArray] V fun e w' => e = .returned (.bool (likeP p q)) ∧ Ext V w') :
  Calls Tryz.prog 136 #[.slice ao l.length cap, .slice bo r.length bcap, .func (.func 99) #[] #[]] w fun e w' => e = .returned (.bool (likeL l r)) ∧ Ext w w' := by
 unfold maxLen at hlm hrm
 have HL := Lib.hid hl; have HR := Lib.hid hr; have HF := Lib.hid hF
 clear hl hr hF
 obtain ⟨N, hN⟩ : ∃ N, l.length = N := ⟨_, rfl⟩
 obtain ⟨M, hM⟩ : ∃ M, r.length = M := ⟨_, rfl⟩
 have HN := Lib.hid hN; have HM := Lib.hid hM
 rw [hN] at hlm ⊢
 rw [hM] at hrm ⊢
 clear hN hM
 by_cases hNM : N = M
 ·subst hNM
  go_enter Tryz.func136, Tryz.ntmps136
  go_wp2
  refine wp_loop (fun a W => ∃ (k : Nat), k ≤ N ∧ a.defers = [] ∧ (a.tmps.size = 32 ∧ a.tmps.getD 1 undef = .slice bo N bcap ∧ a.tmps.getD 2 undef = .func (.func 99) #[] #[] ∧ a.tmps.getD 15 undef = .slice ao N cap ∧ a.tmps.getD 16 undef = .int .i64 N ∧ a.tmps.getD 17 undef = .int .i64 k) ∧ likeL (l.drop k) (r.drop k) = likeL l r ∧ Ext w W)
   (fun a _ => N - (intOf (a.tmps.getD 17 undef)).toNat) ?_ ?_
  ·exact ⟨0, by omega, rfl, ⟨rfl, rfl, rfl, rfl, rfl, rfl⟩, rfl, Turn.refl _ _⟩
  rintro ⟨t, _⟩ W ⟨k, hk, hds, ⟨hsz, f1, f2, f15, f16, f17⟩, hall, hE⟩
  subst hds
  obtain ⟨u', hu⟩ := frame_fun hsz
  obtain ⟨u, rfl⟩ : ∃ x, x = u' := ⟨_, rfl⟩
  have hu' : t = #[u 0, u 1, u 2, u 3, u 4, u 5, u 6, u 7, u 8, u 9, u 10, u 11, u 12, u 13, u 14, u 15, u 16, u 17, u 18, u 19, u 20, u 21, u 22, u 23, u 24, u 25, u 26, u 27, u 28, u 29, u 30, u 31] := hu
  clear hu
  subst hu'
  change u 1 = _ at f1
  change u 2 = _ at f2
  change u 15 = _ at f15
  change u 16 = _ at f16
  change u 17 = _ at f17
  rw [f1, f2, f15, f16, f17]
  clear f1 f2 f15 f16 f17 hsz
  have HALL := Lib.hid hall
  clear hall
  by_cases hkN : k < N
  ·have h1 : (k : Int) < (N : Int) := by omega
   have hkl : k < l.length := by rw [HN.out]; exact hkN
   have hkr : k < r.length := by rw [HM.out]; exact hkN
   obtain ⟨g, off, c, rfl, hg, hgl, hra, hp⟩ := (HL.out.ext hE).get k hkl
   obtain ⟨g', off', c', rfl, hg', hgl', hra', hp'⟩ := (HR.out.ext hE).get k hkr
   rw [Nat.zero_add] at hra hra'
   obtain ⟨qo, qcap, hcq, _, _, _⟩ := patAt_cells hp
   obtain ⟨qo', qcap', hcq', _, _, _⟩ := patAt_cells hp'
   obtain ⟨c0, c1, c2, c3, c4, c5, c6⟩ := patCells_at hra hcq
   obtain ⟨d0, d1, d2, d3, d4, d5, d6⟩ := patCells_at hra' hcq'
   have hd := likeL_drop hkl hkr
   rw [HALL.out] at hd
   have hc := fun V (hE2 : Ext W V) => HF.out _ (List.getElem_mem hkl) _ (List.getElem_mem hkr) c c' V (hE.trans hE2) (hp.ext hE2) (hp'.ext hE2)
   obtain ⟨lb, hlb⟩ : ∃ b, likeP l[k] r[k] = b := ⟨_, rfl⟩
   rw [hlb] at hc hd
   rw [hcq, hcq'] at hc
   unfold patCells at hc
   have HC := Lib.hid hc; have HD := Lib.hid hd
   clear hc hra hra' hp hp' hcq hcq' hd hlb
   go_wp2_with fail
   refine (HC.out _ (((Turn.refl _ W).alloc _).alloc _)).mono ?_
   rintro e W2 ⟨rfl, hE2⟩
   have hE02 : Ext w W2 := hE.trans (Turn.trans (((Turn.refl _ W).alloc _).alloc _) hE2)
   clear hE hE2 c0 c1 c2 c3 c4 c5 c6 d0 d1 d2 d3 d4 d5 d6 HC
   cases lb
   ·go_wp2
    go_ret
    exact ⟨by rw [HD.out, Bool.false_and]; rfl, hE02⟩
   ·have hd : likeL (l.drop (k + 1)) (r.drop (k + 1)) = likeL l r := by rw [HD.out, Bool.true_and]
    have HD2 := Lib.hid hd
    clear hd
    go_wp2
    exact ⟨⟨k + 1, by omega, by first | rfl | trivial, ⟨rfl, rfl, rfl, rfl, rfl, rfl⟩, HD2.out, hE02⟩, by simp [intOf]; omega⟩
  ·obtain rfl : k = N := by omega
   have h1 : ¬ (k : Int) < (k : Int) := by omega
   have hfin : likeL l r = true := by
    rw [← HALL.out, List.drop_of_length_le (by rw [HN.out]; exact Nat.le_refl _), List.drop_of_length_le (by rw [HM.out]; exact Nat.le_refl _)]; exact likeL_nil
   have HFI := Lib.hid hfin
   clear hfin
   go_wp2
   go_ret
   exact ⟨by rw [HFI.out]; rfl, hE⟩
 ·have hfin : likeL l r = false := by
   cases h : likeL l r with
   | false => rfl
   | true => exact absurd (by rw [← HN.out, ← HM.out]; exact likeL_len h) hNM
  have HFI := Lib.hid hfin
  have h1 : ((N : Int) == (M : Int)) = false := by rw [beq_eq_false_iff_ne]; omega
  clear hfin
  go_enter Tryz.func136, Tryz.ntmps136
  go_wp2
  go_ret
  exact ⟨by rw [HFI.out]; rfl, Turn.refl _ _⟩

def LikeOk (p : Pat) : Prop := ∀ (K : Nat → Prop) (w : World) (q : Pat) (cs ds : List Value), PatAt K w p cs → PatAt K w q ds →
 Calls Tryz.prog 99 #[.agg cs.toArray, .agg ds.toArray] w fun e w' => e = .returned (.bool (likeP p q)) ∧ Ext w w'

theorem like_step (k : Int) (pl mi : Nat) (nt : Bool) (mn mx : Int) (l : List Pat) (ih : ∀ p ∈ l, LikeOk p) : LikeOk (.node k pl mi nt mn mx l) := by
 intro K w q cs ds hp hq
 unfold PatAt at hp
 obtain ⟨ao, cap, rfl, hpl, hmi, hlc, hcm, hl⟩ := hp
 obtain ⟨qk, qpl, qmi, qnt, qmn, qmx, r⟩ := q
 unfold PatAt at hq
 obtain ⟨bo, bcap, rfl, hql, hqi, hrc, hbm, hr⟩ := hq
 have hE1 : Ext w ((w.alloc (.cells (patCells k pl mi nt mn mx ao l.length cap).toArray 27)).alloc (.cells (patCells qk qpl qmi qnt qmn qmx bo r.length bcap).toArray 27)) := ((Turn.refl _ w).alloc _).alloc _
 have hc := equal_pat (cap := cap) (bcap := bcap) (hl.ext hE1) (hr.ext hE1) (Nat.le_trans hlc hcm) (Nat.le_trans hrc hbm) (fun p hm q _ cs ds V _ h1 h2 => ih p hm K V q cs ds h1 h2)
 have HE : Hid (likeP (.node k pl mi nt mn mx l) (.node qk qpl qmi qnt qmn qmx r) = (k == qk && (pl == qpl && mi == qmi) && nt == qnt && mn == qmn && mx == qmx && likeL l r)) := Lib.hid (likeP_eq ..)
 unfold patCells at hc hE1 ⊢
 obtain ⟨N, hN⟩ : ∃ N, l.length = N := ⟨_, rfl⟩
 obtain ⟨M, hM⟩ : ∃ M, r.length = M := ⟨_, rfl⟩
 rw [hN, hM] at hc hE1 ⊢
 obtain ⟨lb, hlb⟩ : ∃ b, likeL l r = b := ⟨_, rfl⟩
 rw [hlb] at hc HE
 have HC := Lib.hid hc
 clear hc hl hr ih hlc hcm hrc hbm hlb hN hM
 by_cases e1 : k = qk
 ·by_cases e2 : (pl = qpl ∧ mi = qmi)
  ·by_cases e3 : nt = qnt
   ·by_cases e4 : mn = qmn
    ·by_cases e5 : mx = qmx
     ·obtain ⟨rfl, rfl⟩ := e2
      subst e1; subst e3; subst e4; subst e5
      go_enter Tryz.func99, Tryz.ntmps99
      go_wp2_with fail
      refine HC.out.mono ?_
      rintro e w2 ⟨rfl, hE⟩
      have hE2 : Ext w w2 := hE1.trans hE
      clear hE hE1 HC
      go_wp2
      go_ret
      exact ⟨by rw [HE.out]; simp, hE2⟩
     ·obtain ⟨rfl, rfl⟩ := e2
      subst e1; subst e3; subst e4
      have q1 : (mx == qmx) = false := by rw [beq_eq_false_iff_ne]; exact e5
      rw [q1] at HE
      go_enter Tryz.func99, Tryz.ntmps99
      go_wp2_with fail
      go_ret
      exact ⟨by rw [HE.out]; simp, hE1⟩
    ·obtain ⟨rfl, rfl⟩ := e2
     subst e1; subst e3
     have q1 : (mn == qmn) = false := by rw [beq_eq_false_iff_ne]; exact e4
     rw [q1] at HE
     go_enter Tryz.func99, Tryz.ntmps99
     go_wp2_with fail
     go_ret
     exact ⟨by rw [HE.out]; simp, hE1⟩
   ·obtain ⟨rfl, rfl⟩ := e2
    subst e1
    have q1 : (nt == qnt) = false := by rw [beq_eq_false_iff_ne]; exact e3
    rw [q1] at HE
    go_enter Tryz.func99, Tryz.ntmps99
    go_wp2_with fail
    go_ret
    exact ⟨by rw [HE.out]; simp, hE1⟩
  ·subst e1
   by_cases e6 : pl = qpl
   ·subst e6
    have e7 : mi ≠ qmi := fun h => e2 ⟨rfl, h⟩
    have q1 : ((mi : Int) == (qmi : Int)) = false := by rw [beq_eq_false_iff_ne]; omega
    have q2 : (mi == qmi) = false := by rw [beq_eq_false_iff_ne]; exact e7
    rw [q2] at HE
    clear q2 e7 e2
    go_enter Tryz.func99, Tryz.ntmps99
    go_wp2_with fail
    go_ret
    exact ⟨by rw [HE.out]; simp, hE1⟩
   ·have q1 : ((pl : Int) == (qpl : Int)) = false := by rw [beq_eq_false_iff_ne]; omega
    have q2 : (pl == qpl) = false := by rw [beq_eq_false_iff_ne]; exact e6
    rw [q2] at HE
    clear q2 e6 e2
    go_enter Tryz.func99, Tryz.ntmps99
    go_wp2_with fail
    go_ret
    exact ⟨by rw [HE.out]; simp, hE1⟩
 ·have q1 : (k == qk) = false := by rw [beq_eq_false_iff_ne]; exact e1
  rw [q1] at HE
  go_enter Tryz.func99, Tryz.ntmps99
  go_wp2_with fail
  go_ret
  exact ⟨by rw [HE.out]; simp, hE1⟩


theorem walkL_cons (p : Pat) (l : List Pat) (n : Nat) : walkL (p :: l) n = bindE (walkP p n) (walkL l) := by rw [walkL]
theorem walkP_eq (p : Pat) (n : Nat) : walkP p n = if n = 40 then (n, 12) else if nodeE p = 0 then walkL p.l (n + 1) else (n, nodeE p) := by cases p; rw [walkP]; rfl
theorem walkP_le {p : Pat} {n : Nat} (h : n ≤ 40) : (walkP p n).1 ≤ 40 := (walkP_chk p n [] h).1.1

def WalkOk (p : Pat) : Prop := ∀ (K : Nat → Prop) (w : World) (cs : List Value) (n : Nat), PatAt K w p cs → n ≤ 40 →
 Calls Tryz.prog 76 #[.agg cs.toArray, .int .i64 n] w fun e w' => e = .returned (.tuple #[.int .i64 ((walkP p n).1 : Int), .int .i64 (walkP p n).2]) ∧ Ext w w'

theorem walk_step (k : Int) (pl mi : Nat) (nt : Bool) (mn mx : Int) (l : List Pat) (ih : ∀ p ∈ l, WalkOk p) : WalkOk (.node k pl mi nt mn mx l) := by
 intro K w cs n hp hn
 unfold PatAt at hp
 obtain ⟨ao, cap, rfl, hpl, hmi, hlc, hcm, hl⟩ := hp
 have hnd := fun (V : World) => node_cells k pl mi nt mn mx ao l.length cap hpl hmi (Nat.le_trans hlc hcm) V
 have hlm : l.length ≤ maxLen := Nat.le_trans hlc hcm
 unfold maxLen at hlm
 rw [← nodeE_F] at hnd
 have HW := Lib.hid (walkP_eq (.node k pl mi nt mn mx l) n)
 obtain ⟨z, hz⟩ : ∃ z, nodeE (.node k pl mi nt mn mx l) = z := ⟨_, rfl⟩
 rw [hz] at HW hnd
 obtain ⟨N, hN⟩ : ∃ N, l.length = N := ⟨_, rfl⟩
 have HN := Lib.hid hN
 have HL := Lib.hid hl; have HND := Lib.hid hnd; have IH := Lib.hid ih
 unfold patCells
 rw [hN] at HND hlm ⊢
 clear hl hnd ih hz hN hlc hcm hpl hmi
 obtain ⟨Z1, Z2, hZ⟩ : ∃ a b, walkP (.node k pl mi nt mn mx l) n = (a, b) := ⟨_, _, rfl⟩
 rw [hZ] at HW ⊢
 clear hZ
 change Hid ((Z1, Z2) = if n = 40 then (n, 12) else if z = 0 then walkL l (n + 1) else (n, z)) at HW
 show Calls Tryz.prog 76 _ w fun e w' => e = .returned (.tuple #[.int .i64 (Z1 : Int), .int .i64 Z2]) ∧ Ext w w'
 by_cases h40 : n = 40
 ·subst h40
  have hw : Z1 = 40 ∧ Z2 = 12 := by have := HW.out; rw [if_pos rfl] at this; exact ⟨congrArg Prod.fst this, congrArg Prod.snd this⟩
  obtain ⟨rfl, rfl⟩ := hw
  clear HW
  go_enter Tryz.func76, Tryz.ntmps76
  go_wp2
  exact bodyPost_ret (results_two rfl _ _ _) rfl ⟨rfl, (Turn.refl _ w).alloc _⟩
 have g40 : ((n : Int) == 40) = false := by rw [beq_eq_false_iff_ne]; omega
 have hn39 : n < 40 := by omega
 rw [if_neg h40] at HW
 clear h40
 go_enter Tryz.func76, Tryz.ntmps76
 go_wp2_with fail
 refine (HND.out _).mono ?_
 rintro e w2 ⟨rfl, hE2⟩
 have hE02 : Ext w w2 := Turn.trans ((Turn.refl _ w).alloc _) hE2
 have hx : w2.heap[w.heap.size]? = some (.cells #[.int .i64 k, .int .u32 (pl : Int), .int .u32 (mi : Int), .bool nt, .int .i64 mn, .int .i64 mx, .slice ao N cap] 27 (0, 0)) := hE2.keep (new_at rfl)
 clear hE2
 by_cases hz0 : z = 0
 case neg =>
  have gz : (z == 0) = false := by rw [beq_eq_false_iff_ne]; exact hz0
  rw [if_neg hz0] at HW
  have hw : Z1 = n ∧ Z2 = z := ⟨congrArg Prod.fst HW.out, congrArg Prod.snd HW.out⟩
  obtain ⟨rfl, rfl⟩ := hw
  clear HW hz0 hx
  go_wp2
  exact bodyPost_ret (results_two rfl _ _ _) rfl ⟨rfl, hE02⟩
 rw [if_pos hz0] at HW
 subst hz0
 generalize w.heap.size = B at hx ⊢
 have HX := Lib.hid hx
 clear hx
 go_wp2
 refine wp_loop (fun a W => ∃ (i m : Nat), i ≤ N ∧ m ≤ 40 ∧ walkL (l.drop i) m = (Z1, Z2) ∧ a.defers = [] ∧ (a.tmps.size = 42 ∧ a.tmps.getD 2 undef = .pointer (some ⟨B, 0, none⟩) ∧ a.tmps.getD 7 undef = .int .i64 m ∧ a.tmps.getD 8 undef = .int .i64 i) ∧ Ext w2 W)
  (fun a _ => N - (intOf (a.tmps.getD 8 undef)).toNat) ?_ ?_
 ·exact ⟨0, n + 1, by omega, by omega, HW.out.symm, rfl, ⟨rfl, rfl, by go_num, rfl⟩, Turn.refl _ _⟩
 clear HW
 rintro ⟨t, _⟩ W ⟨i, m, hi, hm, hw, hds, ⟨hsz, f2, f7, f8⟩, hE⟩
 subst hds
 obtain ⟨u', hu⟩ := frame_fun hsz
 obtain ⟨u, rfl⟩ : ∃ x, x = u' := ⟨_, rfl⟩
 have hu' : t = #[u 0, u 1, u 2, u 3, u 4, u 5, u 6, u 7, u 8, u 9, u 10, u 11, u 12, u 13, u 14, u 15, u 16, u 17, u 18, u 19, u 20, u 21, u 22, u 23, u 24, u 25, u 26, u 27, u 28, u 29, u 30, u 31, u 32, u 33, u 34, u 35, u 36, u 37, u 38, u 39, u 40, u 41] := hu
 clear hu
 subst hu'
 change u 2 = _ at f2
 change u 7 = _ at f7
 change u 8 = _ at f8
 rw [f2, f7, f8]
 clear f2 f7 f8 hsz
 have HW := Lib.hid hw
 clear hw
 have hx := hE.keep HX.out
 have cX := fun j => cell_of_row _ _ j _ _ _ hx
 by_cases hiN : i < N
 ·have h1 : (i : Int) < (N : Int) := by omega
  have hil : i < l.length := by rw [HN.out]; exact hiN
  obtain ⟨g, off, c, rfl, hg, hgl, hra, hq⟩ := (HL.out.ext (hE02.trans hE)).get i hil
  rw [Nat.zero_add] at hra
  obtain ⟨qo, qcap, hcq, _, _, _⟩ := patAt_cells hq
  obtain ⟨c0, c1, c2, c3, c4, c5, c6⟩ := patCells_at hra hcq
  have hc := IH.out _ (List.getElem_mem hil) K W c m hq hm
  have hd : l.drop i = l[i] :: l.drop (i + 1) := List.drop_eq_getElem_cons hil
  have hnext : bindE (walkP l[i] m) (walkL (l.drop (i + 1))) = (Z1, Z2) := by rw [← walkL_cons, ← hd]; exact HW.out
  have hle := walkP_le (p := l[i]) hm
  obtain ⟨y1, y2, hy⟩ : ∃ a b, walkP l[i] m = (a, b) := ⟨_, _, rfl⟩
  rw [hy] at hc hnext hle
  change y1 ≤ 40 at hle
  change (if y2 = 0 then walkL (l.drop (i + 1)) y1 else (y1, y2)) = (Z1, Z2) at hnext
  rw [hcq] at hc
  unfold patCells at hc
  have HC := Lib.hid hc; have HNX := Lib.hid hnext
  clear hc hra hq hcq hd hnext hy hx
  go_wp2_with fail
  refine HC.out.mono ?_
  rintro e W2 ⟨rfl, hE2⟩
  have hE22 := hE.trans hE2
  clear hE hE2 c0 c1 c2 c3 c4 c5 c6 HC cX
  by_cases hy0 : y2 = 0
  ·rw [if_pos hy0] at HNX
   subst hy0
   go_wp2
   exact ⟨⟨i + 1, y1, by omega, hle, HNX.out, by first | rfl | trivial, ⟨rfl, rfl, rfl, rfl⟩, hE22⟩, by simp [intOf]; omega⟩
  ·have gy : (y2 == 0) = false := by rw [beq_eq_false_iff_ne]; exact hy0
   rw [if_neg hy0] at HNX
   have hw : Z1 = y1 ∧ Z2 = y2 := ⟨(congrArg Prod.fst HNX.out).symm, (congrArg Prod.snd HNX.out).symm⟩
   obtain ⟨rfl, rfl⟩ := hw
   clear hy0 HNX
   go_wp2
   exact bodyPost_ret (results_two rfl _ _ _) rfl ⟨rfl, hE02.trans hE22⟩
 ·obtain rfl : i = N := by omega
  have h1 : ¬ (i : Int) < (i : Int) := by omega
  have hw : Z1 = m ∧ Z2 = 0 := by
   have := HW.out
   rw [List.drop_of_length_le (by rw [HN.out]; exact Nat.le_refl _), walkL] at this
   exact ⟨(congrArg Prod.fst this).symm, (congrArg Prod.snd this).symm⟩
  obtain ⟨rfl, rfl⟩ := hw
  clear HW
  go_wp2
  exact bodyPost_ret (results_two rfl _ _ _) rfl ⟨rfl, hE02.trans hE⟩
mutual
theorem walk_all : ∀ p : Pat, WalkOk p
 | .node k pl mi nt mn mx l => walk_step k pl mi nt mn mx l (walk_alls l)
theorem walk_alls : ∀ l : List Pat, ∀ p ∈ l, WalkOk p
 | [], _, h => by cases h
 | q :: l, p, h => (List.mem_cons.1 h).elim (fun e => e ▸ walk_all q) (fun h => walk_alls l p h)
end

theorem refcheck_any {K : Nat → Prop} {w : World} {p : Pat} {cs : List Value} (hp : PatAt K w p cs) :
  Calls Tryz.prog 36 #[.agg cs.toArray] w fun e w' => e = .returned (.int .i64 (chkP p)) ∧ Ext w w' := by
 have hE1 : Ext w (w.alloc (.cells cs.toArray 27)) := (Turn.refl _ w).alloc _
 have hc := walk_all p K _ cs 0 (hp.ext hE1) (by omega)
 rw [walkP_zero] at hc
 obtain ⟨qo, qcap, hcq, _, _, _⟩ := patAt_cells hp
 rw [hcq] at hc ⊢
 unfold patCells at hc ⊢
 obtain ⟨a, ha⟩ : ∃ b, (walkP p 0).1 = b := ⟨_, rfl⟩
 obtain ⟨z, hz⟩ : ∃ b, chkP p = b := ⟨_, rfl⟩
 rw [ha, hz] at hc
 rw [hz]
 have HC := Lib.hid hc
 clear hc hcq hE1 ha hz
 go_enter Tryz.func36, Tryz.ntmps36
 go_wp2_with fail
 refine HC.out.mono ?_
 rintro e w2 ⟨rfl, hE⟩
 have hE2 : Ext w w2 := Turn.trans ((Turn.refl _ w).alloc _) hE
 clear hE
 go_wp2
 go_ret
 exact ⟨rfl, hE2⟩

theorem refboth_any {K : Nat → Prop} {w : World} {p : Pat} {cs : List Value} {v : Value} {ws : Wd} (hp : PatAt K w p cs) (hv : WordAt w v ws) :
  Calls Tryz.prog 128 #[.agg cs.toArray, v] w fun e w' => e = .returned (.int .i64 (relE p ws)) ∧ Ext w w' := by
 have hE1 : Ext w (w.alloc (.cells cs.toArray 27)) := (Turn.refl _ w).alloc _
 have hc := refcheck_any (hp.ext hE1)
 have hw := fun (V : World) (hE : Ext w V) => rcheck_any (hv.ext hE)
 have HR : Hid (relE p ws = if chkP p = 0 then wE ws else chkP p) := Lib.hid (by unfold relE wE; rfl)
 obtain ⟨qo, qcap, hcq, _, _, _⟩ := patAt_cells hp
 obtain ⟨bo, bcap, rfl, _⟩ := hv.slice
 rw [hcq] at hc ⊢
 unfold patCells at hc ⊢
 obtain ⟨a, ha⟩ : ∃ b, wE ws = b := ⟨_, rfl⟩
 obtain ⟨z, hz⟩ : ∃ b, chkP p = b := ⟨_, rfl⟩
 obtain ⟨n, hn⟩ : ∃ n, ws.length = n := ⟨_, rfl⟩
 rw [hz] at hc HR
 rw [ha] at hw HR
 rw [hn] at hw ⊢
 have HC := Lib.hid hc; have HW := Lib.hid hw
 clear hc hcq hE1 ha hz hw hn hv
 go_enter Tryz.func128, Tryz.ntmps128
 go_wp2_with fail
 refine HC.out.mono ?_
 rintro e w2 ⟨rfl, hE⟩
 have hE2 : Ext w w2 := Turn.trans ((Turn.refl _ w).alloc _) hE
 clear hE HC
 by_cases hz0 : z = 0
 ·rw [if_pos hz0] at HR
  subst hz0
  go_wp2_with fail
  refine (HW.out _ hE2).mono ?_
  rintro e w3 ⟨rfl, hE⟩
  have hE3 := hE2.trans hE
  clear hE
  go_wp2
  go_ret
  exact ⟨by rw [HR.out]; rfl, hE3⟩
 ·rw [if_neg hz0] at HR
  have gz : (z == 0) = false := by rw [beq_eq_false_iff_ne]; exact hz0
  clear hz0
  go_wp2
  go_ret
  exact ⟨by rw [HR.out]; rfl, hE2⟩
end Go.Proofs.YtedhogbocifipaaGreatDoor
