/- ablautlaw13.ChronTurns: the walk. -/
import Derived.Test.YtnnnbmkhgcpjoaaDoorSaid
import Derived.Test.YtnnnbmkhgcpjoaaDoorClose
import Derived.Test.YtnnnbmkhgcpjoaaDoorArgs
namespace Go.Proofs.YtnnnbmkhgcpjoaaDoor
open Go.RowKit Go.Ab

/-- What one pair of bytes says. -/
def turnP (p : Nat × Nat) : List (Nat × Nat) := if p.1 % 12 = p.2 % 12 then [] else [(min (p.1 % 12) (p.2 % 12), max (p.1 % 12) (p.2 % 12))]
def turnR (m : List (Nat × Nat)) : Bin := addL noR (m.flatMap turnP)
theorem turnP_lt {p q : Nat × Nat} (h : q ∈ turnP p) : ltR 12 q.1 q.2 = true := by
  unfold turnP at h
  split at h
  · cases h
  · obtain rfl := List.mem_singleton.1 h
    have := Nat.mod_lt p.1 (show 0 < 12 by decide)
    have := Nat.mod_lt p.2 (show 0 < 12 by decide)
    simp [ltR]; omega
theorem turn_lt (m : List (Nat × Nat)) : ∀ q ∈ m.flatMap turnP, ltR 12 q.1 q.2 = true := by
  intro q hq
  obtain ⟨p, _, h⟩ := List.mem_flatMap.1 hq
  exact turnP_lt h
theorem turn_rel (m : List (Nat × Nat)) : Rel 12 (turnR m) ∧ Sub (turnR m) (ltR 12) := addL_rel (ltR_rel 12) _ (turn_lt m)
theorem turn_same {m : List (Nat × Nat)} {p : Nat × Nat} (h : p.1 % 12 = p.2 % 12) : turnR (m ++ [p]) = turnR m := by simp [turnR, turnP, h]
theorem turn_bef {m : List (Nat × Nat)} {a b : Nat} (h : a < b) (hb : b < 12) : befC 12 (turnR m) a b = 0 := by
  rw [befC_zero]
  have e1 : isEv 12 (a : Int) = true := isEv_true (by omega) (by omega)
  have e2 : isEv 12 (b : Int) = true := isEv_true (by omega) (by omega)
  refine ⟨e1, e2, by omega, ?_⟩
  have : turnR m b a = false := by
    cases hh : turnR m b a with
    | false => rfl
    | true => have := (turn_rel m).2 _ _ hh; simp [ltR] at this; omega
  simp [isR, this]
theorem turn_step {m : List (Nat × Nat)} {p : Nat × Nat} {a b : Nat} (h : a < b) (hb : b < 12) (hp : (p.1 % 12 = a ∧ p.2 % 12 = b) ∨ (p.1 % 12 = b ∧ p.2 % 12 = a)) : befN 12 (turnR m) a b = turnR (m ++ [p]) := by
  rw [befN, if_pos (turn_bef h hb)]
  have : turnP p = [(a, b)] := by
    unfold turnP
    rcases hp with ⟨h1, h2⟩ | ⟨h1, h2⟩
    · rw [h1, h2, if_neg (by omega), Nat.min_eq_left (by omega), Nat.max_eq_right (by omega)]
    · rw [h1, h2, if_neg (by omega), Nat.min_eq_right (by omega), Nat.max_eq_left (by omega)]
  rw [turnR, turnR, List.flatMap_append, List.flatMap_cons, this]
  simp only [List.flatMap_nil, List.append_nil, addL_snoc]
  rfl
theorem turn_rev (l : List (Nat × Nat)) : turnR l = turnR l.reverse := addL_perm (ltR_rel 12) _ _ (turn_lt l) fun p => by simp [List.mem_flatMap]

set_option maxRecDepth 100000 in
set_option maxHeartbeats 8000000 in
theorem turns_any (w : World) (hT : Tab w) (v : Value) (l : List (Nat × Nat)) (hv : Rd w v l.length 2 (b8s l)) (hl : ∀ p ∈ l, p.1 < 256 ∧ p.2 < 256) :
    Calls Tryd.prog 7 #[v] w fun e w' => e = .returned (.bool true) ∧ Ext w w' := by
  have hw0 : 0 < w.heap.size := by
    have := hT 0 (by decide)
    apply Nat.lt_of_not_le; intro h
    simp [World.cell?, Array.getElem?_eq_none h] at this
  have n64 : 12 ≤ 64 := by decide
  obtain ⟨hl1, hm1, ap, cp, rfl, hR⟩ := hv
  unfold maxLen at hm1
  by_cases h40 : (40 : Int) < l.length
  · go_enter Tryd.func7, Tryd.ntmps7
    go_wp2_with fail
    refine (works_any w hT).mono ?_
    rintro e wh ⟨rfl, hEh⟩
    go_wp2
    go_ret
    exact ⟨rfl, hEh⟩
  have HR := Lib.hid hR
  clear hR
  go_enter Tryd.func7, Tryd.ntmps7
  go_wp2_with fail
  refine (new_R 12 n64 w).mono ?_
  rintro e w1 ⟨rfl, hE1, oA1⟩
  go_wp2_with fail
  refine (new_R 12 n64 w1).mono ?_
  rintro e w2 ⟨rfl, hE2, oB2⟩
  have oA2 := oA1.keep hE2 id
  have l1 := oA1.lt
  have l2 := oB2.lt
  obtain ⟨pB, hpB⟩ : ∃ pB, w1.heap.size = pB := ⟨_, rfl⟩
  rw [hpB] at oB2 l1 l2 ⊢
  have hE02 := hE1.trans hE2
  clear hE1 hE2 oA1 hpB
  go_wp2
  refine wp_loop (fun a W => ∃ (k : Nat), k ≤ l.length ∧ a.defers = [] ∧ (a.tmps.size = 125 ∧ a.tmps.getD 0 undef = .slice ap l.length cp ∧ a.tmps.getD 3 undef = .pointer (some ⟨w.heap.size, 0, none⟩) ∧ a.tmps.getD 5 undef = .pointer (some ⟨pB, 0, none⟩) ∧ a.tmps.getD 7 undef = .int .i64 k) ∧
      OrdR W w.heap.size 12 (turnR (l.take k)) ∧ OrdR W pB 12 (turnR (l.reverse.take k)) ∧ Ext w W)
    (fun a _ => l.length - (intOf (a.tmps.getD 7 undef)).toNat) ?_ ?_
  · exact ⟨0, Nat.zero_le _, rfl, ⟨rfl, rfl, rfl, rfl, rfl⟩, oA2, oB2, hE02⟩
  · rintro ⟨t, _⟩ W ⟨k, hk, hds, ⟨hsz, f0, f3, f5, f7⟩, oA, oB, hE⟩
    subst hds
    obtain ⟨u, hu⟩ := frame_fun hsz
    have hu' : t = #[u 0, u 1, u 2, u 3, u 4, u 5, u 6, u 7, u 8, u 9, u 10, u 11, u 12, u 13, u 14, u 15, u 16, u 17, u 18, u 19, u 20, u 21, u 22, u 23, u 24, u 25, u 26, u 27, u 28, u 29, u 30, u 31, u 32, u 33, u 34, u 35, u 36, u 37, u 38, u 39, u 40, u 41, u 42, u 43, u 44, u 45, u 46, u 47, u 48, u 49, u 50, u 51, u 52, u 53, u 54, u 55, u 56, u 57, u 58, u 59, u 60, u 61, u 62, u 63, u 64, u 65, u 66, u 67, u 68, u 69, u 70, u 71, u 72, u 73, u 74, u 75, u 76, u 77, u 78, u 79, u 80, u 81, u 82, u 83, u 84, u 85, u 86, u 87, u 88, u 89, u 90, u 91, u 92, u 93, u 94, u 95, u 96, u 97, u 98, u 99, u 100, u 101, u 102, u 103, u 104, u 105, u 106, u 107, u 108, u 109, u 110, u 111, u 112, u 113, u 114, u 115, u 116, u 117, u 118, u 119, u 120, u 121, u 122, u 123, u 124] := hu
    clear hu
    subst hu'
    change u 0 = _ at f0
    change u 3 = _ at f3
    change u 5 = _ at f5
    change u 7 = _ at f7
    rw [f0, f3, f5, f7]
    clear f0 f3 f5 f7 hsz
    have lA := oA.lt
    have lB := oB.lt
    have hTW := hT.keep hE id
    by_cases hlt : k < l.length
    · obtain ⟨g, off, rfl, hg, hc⟩ := HR.out (by omega)
      have c1 := hE.cell_some (hc (k * 2) (by omega)) id
      have c2 := hE.cell_some (hc (k * 2 + 1) (by omega)) id
      obtain ⟨j, hj⟩ : ∃ j, l.length - 1 - k = j := ⟨_, rfl⟩
      have hjl : j < l.length := by omega
      have c3 := hE.cell_some (hc (j * 2) (by omega)) id
      have c4 := hE.cell_some (hc (j * 2 + 1) (by omega)) id
      have hp := hl l[k] (List.getElem_mem hlt)
      have hq := hl l[j] (List.getElem_mem hjl)
      rw [(b8s_get hlt).1] at c1
      rw [(b8s_get hlt).2, ← Nat.add_assoc] at c2
      rw [(b8s_get hjl).1] at c3
      rw [(b8s_get hjl).2, ← Nat.add_assoc] at c4
      have hjI : (l.length : Int) - 1 - k = (j : Int) := by omega
      have hkl : (k : Int) < (l.length : Int) := by omega
      have hjl' : (j : Int) < (l.length : Int) := by omega
      obtain ⟨x0, hx0⟩ : ∃ x, l[k].1 = x := ⟨_, rfl⟩
      obtain ⟨x1, hx1⟩ : ∃ x, l[k].2 = x := ⟨_, rfl⟩
      obtain ⟨y0, hy0⟩ : ∃ x, l[j].1 = x := ⟨_, rfl⟩
      obtain ⟨y1, hy1⟩ : ∃ x, l[j].2 = x := ⟨_, rfl⟩
      rw [hx0] at c1
      rw [hx1] at c2
      rw [hy0] at c3
      rw [hy1] at c4
      rw [hx0, hx1] at hp
      rw [hy0, hy1] at hq
      have HX0 := Lib.hid hx0; have HX1 := Lib.hid hx1; have HY0 := Lib.hid hy0; have HY1 := Lib.hid hy1; have HJ := Lib.hid hj
      have hw1 : IntKind.i64.wrap ((l.length : Int) - 1) = (l.length : Int) - 1 := IntWalk.i64_in _ (by omega)
      have hwj : IntKind.i64.wrap (IntKind.i64.wrap ((l.length : Int) - 1) - k) = (j : Int) := by rw [hw1, hjI]; exact IntWalk.i64_in _ (by omega)
      clear hx0 hx1 hy0 hy1 hj hc hw1 hjI
      have HS : Hid (∀ B, Ext W B → B.cell? ⟨g, off + k * 2, none⟩ = some (.int .u8 x0) ∧ B.cell? ⟨g, off + k * 2 + 1, none⟩ = some (.int .u8 x1) ∧ B.cell? ⟨g, off + j * 2, none⟩ = some (.int .u8 y0) ∧ B.cell? ⟨g, off + j * 2 + 1, none⟩ = some (.int .u8 y1)) :=
        Lib.hid fun B hB => ⟨hB.cell_some c1 id, hB.cell_some c2 id, hB.cell_some c3 id, hB.cell_some c4 id⟩
      go_wp2
      go_cut [8, 9] from 32 to 95 (fun s8 s9 wc => ∃ p8 p9, s8 = .pointer (some ⟨p8, 0, none⟩) ∧ s9 = .pointer (some ⟨p9, 0, none⟩) ∧ Ext W wc ∧
        wc.heap[p8]? = some (.cells #[.int .u8 x0, .int .u8 x1] 50 (0, 0)) ∧ wc.heap[p9]? = some (.cells #[.int .u8 y0, .int .u8 y1] 50 (0, 0)))
      case first =>
        go_region_held3 (fun w' => w'.cell? ⟨g, off + k * 2, none⟩ = some (.int .u8 x0) ∧ w'.cell? ⟨g, off + k * 2 + 1, none⟩ = some (.int .u8 x1) ∧ w'.cell? ⟨g, off + j * 2, none⟩ = some (.int .u8 y0) ∧ w'.cell? ⟨g, off + j * 2 + 1, none⟩ = some (.int .u8 y1))
          ((refine HS.out _ ?_; repeat' (first | exact Turn.refl _ _ | refine Turn.drew ?_ | refine Turn.alloc ?_ _ | refine Turn.setCell ?_ (.inl (by simp)) _))) (first | fail)
        · go_wp2
          go_meet
          case rel => exact ⟨W.heap.size, W.heap.size + 1, rfl, rfl, (((Turn.refl _ _).alloc _).alloc _).drew, drew_keep (new_keep (new_at (by simp))), drew_keep (new_at (by simp))⟩
        · go_wp2
          go_meet
          case rel => exact ⟨W.heap.size + 1, W.heap.size, rfl, rfl, (((Turn.refl _ _).alloc _).alloc _).drew, drew_keep (new_at (by simp)), drew_keep (new_keep (new_at (by simp)))⟩
      case rest =>
        obtain ⟨p8, p9, rfl, rfl, hext, b8, b9⟩ := hcut
        have r0 : wc.cell? ⟨p8, 0, none⟩ = some (.int .u8 x0) := by simp [World.cell?, b8]
        have r1 : wc.cell? ⟨p8, 1, none⟩ = some (.int .u8 x1) := by simp [World.cell?, b8]
        have r2 : wc.cell? ⟨p9, 0, none⟩ = some (.int .u8 y0) := by simp [World.cell?, b9]
        have r3 : wc.cell? ⟨p9, 1, none⟩ = some (.int .u8 y1) := by simp [World.cell?, b9]
        have oA' := oA.keep hext id
        have oB' := oB.keep hext id
        have hE' := hE.trans hext
        have m0 : ((x0 : Int).tmod 12) = ((x0 % 12 : Nat) : Int) := rfl
        have m1 : ((x1 : Int).tmod 12) = ((x1 % 12 : Nat) : Int) := rfl
        have m2 : ((y0 : Int).tmod 12) = ((y0 % 12 : Nat) : Int) := rfl
        have m3 : ((y1 : Int).tmod 12) = ((y1 % 12 : Nat) : Int) := rfl
        have hsa : ∀ m, turnR (l.take k) = m → (x0 % 12 = x1 % 12 → turnR (l.take (k + 1)) = m) ∧ (∀ a b, a < b → b < 12 → (x0 % 12 = a ∧ x1 % 12 = b ∨ x0 % 12 = b ∧ x1 % 12 = a) → befC 12 m a b = 0 ∧ befN 12 m a b = turnR (l.take (k + 1))) := by
          rintro m rfl
          rw [List.take_succ_eq_append_getElem hlt]
          exact ⟨fun h => turn_same (by rw [HX0.out, HX1.out]; exact h), fun a b h1 h2 h3 => ⟨turn_bef h1 h2, turn_step h1 h2 (by rw [HX0.out, HX1.out]; exact h3)⟩⟩
        have hsb : ∀ m, turnR (l.reverse.take k) = m → (y0 % 12 = y1 % 12 → turnR (l.reverse.take (k + 1)) = m) ∧ (∀ a b, a < b → b < 12 → (y0 % 12 = a ∧ y1 % 12 = b ∨ y0 % 12 = b ∧ y1 % 12 = a) → befC 12 m a b = 0 ∧ befN 12 m a b = turnR (l.reverse.take (k + 1))) := by
          rintro m rfl
          have e : l.reverse[k]'(by simpa using hlt) = l[j] := by rw [List.getElem_reverse]; congr 1 <;> exact HJ.out
          rw [List.take_succ_eq_append_getElem (by simpa using hlt), e]
          exact ⟨fun h => turn_same (by rw [HY0.out, HY1.out]; exact h), fun a b h1 h2 h3 => ⟨turn_bef h1 h2, turn_step h1 h2 (by rw [HY0.out, HY1.out]; exact h3)⟩⟩
        have relA := (turn_rel (l.take k)).1
        have relB := (turn_rel (l.reverse.take k)).1
        obtain ⟨RA, hRA⟩ : ∃ RA, turnR (l.take k) = RA := ⟨_, rfl⟩
        obtain ⟨RB, hRB⟩ : ∃ RB, turnR (l.reverse.take k) = RB := ⟨_, rfl⟩
        have qa := hsa RA hRA
        have qb := hsb RB hRB
        rw [hRA] at relA oA'
        rw [hRB] at relB oB'
        obtain ⟨i0, hi0⟩ : ∃ i0, x0 % 12 = i0 := ⟨_, rfl⟩
        obtain ⟨i1, hi1⟩ : ∃ i1, x1 % 12 = i1 := ⟨_, rfl⟩
        obtain ⟨j0, hj0⟩ : ∃ j0, y0 % 12 = j0 := ⟨_, rfl⟩
        obtain ⟨j1, hj1⟩ : ∃ j1, y1 % 12 = j1 := ⟨_, rfl⟩
        have bi0 : i0 < 12 := by omega
        have bi1 : i1 < 12 := by omega
        have bj0 : j0 < 12 := by omega
        have bj1 : j1 < 12 := by omega
        rw [hi0] at m0
        rw [hi1] at m1
        rw [hj0] at m2
        rw [hj1] at m3
        rw [hi0, hi1] at qa
        rw [hj0, hj1] at qb
        have QA := Lib.hid qa; have QB := Lib.hid qb
        have TW := hT.keep hE' id
        clear qa qb hsa hsb hRA hRB hi0 hi1 hj0 hj1 HS c1 c2 c3 c4 oA oB hE hTW b8 b9 hwj hkl hjl'
        go_wp2
        go_quiet (fail)
        generalize nq = n1
        clear nq
        go_wp2
        go_quiet (fail)
        have PH : ∀ (m nq : Nat), OrdR ((wc.drewN m).drewN nq) w.heap.size 12 RA ∧ OrdR ((wc.drewN m).drewN nq) pB 12 RB ∧ Tab ((wc.drewN m).drewN nq) ∧ Ext w ((wc.drewN m).drewN nq) := fun m nq =>
          have h : Ext wc ((wc.drewN m).drewN nq) := ((Turn.refl _ _).drewN m).drewN nq
          ⟨oA'.keep h id, oB'.keep h id, TW.keep h id, hE'.trans h⟩
        obtain ⟨oA1, oB1, T1, E1⟩ := PH n1 nq
        clear PH
        generalize (wc.drewN n1).drewN nq = W2 at oA1 oB1 T1 E1 ⊢
        have lA1 := oA1.lt
        rcases Nat.lt_trichotomy i0 i1 with hi | hi | hi
        · have t1 : ((i0 : Int) != (i1 : Int)) = true := by simp; omega
          have t2 : (i0 : Int) < i1 := by omega
          have t3 : ¬ (i1 : Int) < i0 := by omega
          obtain ⟨s1, s2⟩ := QA.out.2 i0 i1 hi (by omega) (.inl ⟨rfl, rfl⟩)
          have S1 := Lib.hid s2
          clear s2
          go_wp2_with fail
          refine (before_R _ 12 RA n64 relA _ oA1 T1 (by omega) i0 i1).mono ?_
          rintro e W3 ⟨rfl, ht3, oA3⟩
          rw [s1]
          rw [S1.out] at oA3
          have oB3 := oB1.keep ht3 (by omega)
          have E3 : Ext w W3 := E1.after ht3 (fun b' q1 q2 => by omega)
          have T3 := hT.keep E3 id
          clear s1
          rcases Nat.lt_trichotomy j0 j1 with hj | hj | hj
          · have t4 : ((j0 : Int) != (j1 : Int)) = true := by simp; omega
            have t5 : (j0 : Int) < j1 := by omega
            have t6 : ¬ (j1 : Int) < j0 := by omega
            obtain ⟨s1, s2⟩ := QB.out.2 j0 j1 hj (by omega) (.inl ⟨rfl, rfl⟩)
            have S2 := Lib.hid s2
            clear s2
            go_wp2_with fail
            refine (before_R _ 12 RB n64 relB _ oB3 T3 (by omega) j0 j1).mono ?_
            rintro e W4 ⟨rfl, ht4, oB4⟩
            rw [s1]
            rw [S2.out] at oB4
            clear s1
            go_wp2
            exact ⟨⟨k + 1, by omega, trivial, ⟨rfl, rfl, rfl, rfl, rfl⟩, (oA3).keep ht4 (by omega), oB4, (E3).after ht4 (fun b' q1 q2 => by omega)⟩, by simp [intOf]; omega⟩
          · have t4 : ((j0 : Int) != (j1 : Int)) = false := by simp; omega
            go_wp2
            exact ⟨⟨k + 1, by omega, trivial, ⟨rfl, rfl, rfl, rfl, rfl⟩, oA3, by rw [QB.out.1 hj]; exact oB3, E3⟩, by simp [intOf]; omega⟩
          · have t4 : ((j0 : Int) != (j1 : Int)) = true := by simp; omega
            have t5 : (j1 : Int) < j0 := by omega
            have t6 : ¬ (j0 : Int) < j1 := by omega
            obtain ⟨s1, s2⟩ := QB.out.2 j1 j0 hj (by omega) (.inr ⟨rfl, rfl⟩)
            have S2 := Lib.hid s2
            clear s2
            go_wp2_with fail
            refine (before_R _ 12 RB n64 relB _ oB3 T3 (by omega) j1 j0).mono ?_
            rintro e W4 ⟨rfl, ht4, oB4⟩
            rw [s1]
            rw [S2.out] at oB4
            clear s1
            go_wp2
            exact ⟨⟨k + 1, by omega, trivial, ⟨rfl, rfl, rfl, rfl, rfl⟩, (oA3).keep ht4 (by omega), oB4, (E3).after ht4 (fun b' q1 q2 => by omega)⟩, by simp [intOf]; omega⟩
        · have t1 : ((i0 : Int) != (i1 : Int)) = false := by simp; omega
          have sA := oA1
          rw [← QA.out.1 hi] at sA
          rcases Nat.lt_trichotomy j0 j1 with hj | hj | hj
          · have t4 : ((j0 : Int) != (j1 : Int)) = true := by simp; omega
            have t5 : (j0 : Int) < j1 := by omega
            have t6 : ¬ (j1 : Int) < j0 := by omega
            obtain ⟨s1, s2⟩ := QB.out.2 j0 j1 hj (by omega) (.inl ⟨rfl, rfl⟩)
            have S2 := Lib.hid s2
            clear s2
            go_wp2_with fail
            refine (before_R _ 12 RB n64 relB _ oB1 T1 (by omega) j0 j1).mono ?_
            rintro e W4 ⟨rfl, ht4, oB4⟩
            rw [s1]
            rw [S2.out] at oB4
            clear s1
            go_wp2
            exact ⟨⟨k + 1, by omega, trivial, ⟨rfl, rfl, rfl, rfl, rfl⟩, (sA).keep ht4 (by omega), oB4, (E1).after ht4 (fun b' q1 q2 => by omega)⟩, by simp [intOf]; omega⟩
          · have t4 : ((j0 : Int) != (j1 : Int)) = false := by simp; omega
            go_wp2
            exact ⟨⟨k + 1, by omega, trivial, ⟨rfl, rfl, rfl, rfl, rfl⟩, sA, by rw [QB.out.1 hj]; exact oB1, E1⟩, by simp [intOf]; omega⟩
          · have t4 : ((j0 : Int) != (j1 : Int)) = true := by simp; omega
            have t5 : (j1 : Int) < j0 := by omega
            have t6 : ¬ (j0 : Int) < j1 := by omega
            obtain ⟨s1, s2⟩ := QB.out.2 j1 j0 hj (by omega) (.inr ⟨rfl, rfl⟩)
            have S2 := Lib.hid s2
            clear s2
            go_wp2_with fail
            refine (before_R _ 12 RB n64 relB _ oB1 T1 (by omega) j1 j0).mono ?_
            rintro e W4 ⟨rfl, ht4, oB4⟩
            rw [s1]
            rw [S2.out] at oB4
            clear s1
            go_wp2
            exact ⟨⟨k + 1, by omega, trivial, ⟨rfl, rfl, rfl, rfl, rfl⟩, (sA).keep ht4 (by omega), oB4, (E1).after ht4 (fun b' q1 q2 => by omega)⟩, by simp [intOf]; omega⟩
        · have t1 : ((i0 : Int) != (i1 : Int)) = true := by simp; omega
          have t2 : (i1 : Int) < i0 := by omega
          have t3 : ¬ (i0 : Int) < i1 := by omega
          obtain ⟨s1, s2⟩ := QA.out.2 i1 i0 hi (by omega) (.inr ⟨rfl, rfl⟩)
          have S1 := Lib.hid s2
          clear s2
          go_wp2_with fail
          refine (before_R _ 12 RA n64 relA _ oA1 T1 (by omega) i1 i0).mono ?_
          rintro e W3 ⟨rfl, ht3, oA3⟩
          rw [s1]
          rw [S1.out] at oA3
          have oB3 := oB1.keep ht3 (by omega)
          have E3 : Ext w W3 := E1.after ht3 (fun b' q1 q2 => by omega)
          have T3 := hT.keep E3 id
          clear s1
          rcases Nat.lt_trichotomy j0 j1 with hj | hj | hj
          · have t4 : ((j0 : Int) != (j1 : Int)) = true := by simp; omega
            have t5 : (j0 : Int) < j1 := by omega
            have t6 : ¬ (j1 : Int) < j0 := by omega
            obtain ⟨s1, s2⟩ := QB.out.2 j0 j1 hj (by omega) (.inl ⟨rfl, rfl⟩)
            have S2 := Lib.hid s2
            clear s2
            go_wp2_with fail
            refine (before_R _ 12 RB n64 relB _ oB3 T3 (by omega) j0 j1).mono ?_
            rintro e W4 ⟨rfl, ht4, oB4⟩
            rw [s1]
            rw [S2.out] at oB4
            clear s1
            go_wp2
            exact ⟨⟨k + 1, by omega, trivial, ⟨rfl, rfl, rfl, rfl, rfl⟩, (oA3).keep ht4 (by omega), oB4, (E3).after ht4 (fun b' q1 q2 => by omega)⟩, by simp [intOf]; omega⟩
          · have t4 : ((j0 : Int) != (j1 : Int)) = false := by simp; omega
            go_wp2
            exact ⟨⟨k + 1, by omega, trivial, ⟨rfl, rfl, rfl, rfl, rfl⟩, oA3, by rw [QB.out.1 hj]; exact oB3, E3⟩, by simp [intOf]; omega⟩
          · have t4 : ((j0 : Int) != (j1 : Int)) = true := by simp; omega
            have t5 : (j1 : Int) < j0 := by omega
            have t6 : ¬ (j0 : Int) < j1 := by omega
            obtain ⟨s1, s2⟩ := QB.out.2 j1 j0 hj (by omega) (.inr ⟨rfl, rfl⟩)
            have S2 := Lib.hid s2
            clear s2
            go_wp2_with fail
            refine (before_R _ 12 RB n64 relB _ oB3 T3 (by omega) j1 j0).mono ?_
            rintro e W4 ⟨rfl, ht4, oB4⟩
            rw [s1]
            rw [S2.out] at oB4
            clear s1
            go_wp2
            exact ⟨⟨k + 1, by omega, trivial, ⟨rfl, rfl, rfl, rfl, rfl⟩, (oA3).keep ht4 (by omega), oB4, (E3).after ht4 (fun b' q1 q2 => by omega)⟩, by simp [intOf]; omega⟩
    · obtain rfl : k = l.length := by omega
      rw [List.take_length] at oA
      rw [List.take_of_length_le (by simp), ← turn_rev] at oB
      have hRel := (turn_rel l).1
      obtain ⟨R, hRR⟩ : ∃ R, turnR l = R := ⟨_, rfl⟩
      rw [hRR] at oA oB hRel
      clear hRR
      go_wp2_with fail
      refine (pairs_R _ 12 R n64 W oA hTW).mono ?_
      rintro e w0a ⟨va, rfl, hEa, hOa⟩
      have oA0a := oA.keep hEa id
      have oB0a := oB.keep hEa id
      have E0a := (hE).trans hEa
      have T0a := hT.keep E0a id
      go_wp2_with fail
      refine (pairs_R _ 12 R n64 w0a oB0a T0a).mono ?_
      rintro e w0b ⟨vb, rfl, hEb, hOb⟩
      have oA0b := oA0a.keep hEb id
      have oB0b := oB0a.keep hEb id
      have E0b := E0a.trans hEb
      go_wp2_with fail
      refine (same_any va vb (pairsR 12 R) (pairsR 12 R) w0b ((Rd.of_own hOa).ext hEb) (Rd.of_own hOb)).mono ?_
      rintro e _ ⟨he, m0, rfl⟩
      obtain rfl : e = .returned (.bool true) := by rw [he]; simp
      clear he
      have hD0 : Ext w0b (w0b.drewN m0) := (Turn.refl _ _).drewN _
      have oA0c := oA0b.keep hD0 id
      have oB0c := oB0b.keep hD0 id
      have E0c := E0b.trans hD0
      have T0c := hT.keep E0c id
      generalize w0b.drewN m0 = w0c at oA0c oB0c E0c T0c ⊢
      clear hD0 hEa hEb hOa hOb oA0a oB0a E0a T0a oA0b oB0b E0b oA oB hTW hE
      go_wp2_with fail
      refine (reduced_R _ 12 R n64 w0c oA0c T0c).mono ?_
      rintro e w1a ⟨va, rfl, hEa, hOa⟩
      have oA1a := oA0c.keep hEa id
      have oB1a := oB0c.keep hEa id
      have E1a := (E0c).trans hEa
      have T1a := hT.keep E1a id
      go_wp2_with fail
      refine (reduced_R _ 12 R n64 w1a oB1a T1a).mono ?_
      rintro e w1b ⟨vb, rfl, hEb, hOb⟩
      have oA1b := oA1a.keep hEb id
      have oB1b := oB1a.keep hEb id
      have E1b := E1a.trans hEb
      go_wp2_with fail
      refine (same_any va vb (redR 12 R) (redR 12 R) w1b ((Rd.of_own hOa).ext hEb) (Rd.of_own hOb)).mono ?_
      rintro e _ ⟨he, m1, rfl⟩
      obtain rfl : e = .returned (.bool true) := by rw [he]; simp
      clear he
      have hD1 : Ext w1b (w1b.drewN m1) := (Turn.refl _ _).drewN _
      have oA1c := oA1b.keep hD1 id
      have oB1c := oB1b.keep hD1 id
      have E1c := E1b.trans hD1
      have T1c := hT.keep E1c id
      generalize w1b.drewN m1 = w1c at oA1c oB1c E1c T1c ⊢
      clear hD1 hEa hEb hOa hOb oA1a oB1a E1a T1a oA1b oB1b E1b oA0c oB0c T0c E0c
      go_wp2_with fail
      refine (levels_any _ 12 R n64 hRel w1c oA1c T1c).mono ?_
      rintro e w2a ⟨va, rfl, hEa, hOa⟩
      have oA2a := oA1c.keep hEa id
      have oB2a := oB1c.keep hEa id
      have E2a := (E1c).trans hEa
      have T2a := hT.keep E2a id
      go_wp2_with fail
      refine (levels_any _ 12 R n64 hRel w2a oB2a T2a).mono ?_
      rintro e w2b ⟨vb, rfl, hEb, hOb⟩
      have oA2b := oA2a.keep hEb id
      have oB2b := oB2a.keep hEb id
      have E2b := E2a.trans hEb
      go_wp2_with fail
      refine (equal_any va vb (zs ((List.range 12).map (levF 12 R (firstL 12 R)))) (zs ((List.range 12).map (levF 12 R (firstL 12 R)))) w2b (by have h := (Rd.of_own hOa).ext hEb; simpa [lvRow, zs] using h) (by simpa [lvRow, zs] using Rd.of_own hOb)).mono ?_
      rintro e _ ⟨he, m2, rfl⟩
      obtain rfl : e = .returned (.bool true) := by rw [he]; simp
      clear he
      have hD2 : Ext w2b (w2b.drewN m2) := (Turn.refl _ _).drewN _
      have oA2c := oA2b.keep hD2 id
      have oB2c := oB2b.keep hD2 id
      have E2c := E2b.trans hD2
      have T2c := hT.keep E2c id
      generalize w2b.drewN m2 = w2c at oA2c oB2c E2c T2c ⊢
      clear hD2 hEa hEb hOa hOb oA2a oB2a E2a T2a oA2b oB2b E2b oA1c oB1c T1c E1c
      go_wp2_with fail
      refine (first_any _ 12 R n64 hRel w2c oA2c).mono ?_
      rintro e w3a ⟨va, rfl, hEa, hOa, _⟩
      have oA3a := oA2c.keep hEa id
      have oB3a := oB2c.keep hEa id
      have E3a := (E2c).trans hEa
      have T3a := hT.keep E3a id
      go_wp2_with fail
      refine (first_any _ 12 R n64 hRel w3a oB3a).mono ?_
      rintro e w3b ⟨vb, rfl, hEb, hOb, _⟩
      have oA3b := oA3a.keep hEb id
      have oB3b := oB3a.keep hEb id
      have E3b := E3a.trans hEb
      go_wp2_with fail
      refine (equal_any va vb (zs (firstL 12 R)) (zs (firstL 12 R)) w3b (by have h := (Rd.of_own hOa).ext hEb; simpa [zs] using h) (by simpa [zs] using Rd.of_own hOb)).mono ?_
      rintro e _ ⟨he, m3, rfl⟩
      obtain rfl : e = .returned (.bool true) := by rw [he]; simp
      clear he
      have hD3 : Ext w3b (w3b.drewN m3) := (Turn.refl _ _).drewN _
      have oA3c := oA3b.keep hD3 id
      have oB3c := oB3b.keep hD3 id
      have E3c := E3b.trans hD3
      have T3c := hT.keep E3c id
      generalize w3b.drewN m3 = w3c at oA3c oB3c E3c T3c ⊢
      clear hD3 hEa hEb hOa hOb oA3a oB3a E3a T3a oA3b oB3b E3b oA2c oB2c T2c E2c
      go_wp2_with fail
      refine (works_any w3c T3c).mono ?_
      rintro e wh ⟨rfl, hEh⟩
      go_wp2
      go_ret
      exact ⟨rfl, E3c.trans hEh⟩

theorem turns_card (w : World) (hT : Tab w) (v : Value) (l : List (Int × Int)) (hv : Rd w v l.length 2 (prsK .u8 l)) (hl : ∀ p ∈ l, (Lit.int .u8 p.1).wf = true ∧ (Lit.int .u8 p.2).wf = true) :
    Calls Tryd.prog 7 #[v] w fun e w' => e = .returned (.bool true) ∧ Ext w w' := by
  obtain ⟨m, h1, h2, h3⟩ := nat_pairs hl
  rw [← h1, h2] at hv
  exact turns_any w hT v m hv h3
end Go.Proofs.YtnnnbmkhgcpjoaaDoor
