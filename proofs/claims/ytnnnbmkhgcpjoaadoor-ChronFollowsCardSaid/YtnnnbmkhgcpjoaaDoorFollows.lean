/- ablautlaw13.ChronFollows: the walk. -/
import Derived.Test.YtnnnbmkhgcpjoaaDoorSaid
import Derived.Test.YtnnnbmkhgcpjoaaDoorClose
import Derived.Test.YtnnnbmkhgcpjoaaDoorArgs
import Derived.Test.YtnnnbmkhgcpjoaaDoorRedLaw
namespace Go.Proofs.YtnnnbmkhgcpjoaaDoor
open Go.RowKit Go.Ab

/-- The order of pairs. -/
def ltp (p q : Int × Int) : Prop := p.1 < q.1 ∨ (p.1 = q.1 ∧ p.2 < q.2)
theorem pairsR_sorted (n : Nat) (R : Bin) : (pairsR n R).Pairwise ltp := by
  unfold pairsR
  rw [List.pairwise_flatMap]
  constructor
  · intro a _
    rw [List.pairwise_map]
    refine ((List.pairwise_lt_range (n := n)).filter _).imp ?_
    intro x y h
    exact .inr ⟨rfl, by simpa using h⟩
  · refine (List.pairwise_lt_range (n := n)).imp ?_
    intro a b h x hx y hy
    obtain ⟨_, _, rfl⟩ := List.mem_map.1 hx
    obtain ⟨_, _, rfl⟩ := List.mem_map.1 hy
    exact .inl (by simpa using h)

/-- How many relations the first k events have. -/
def cntRel (n : Nat) (R : Bin) (k : Nat) : Nat := ((List.range k).flatMap fun a => (List.range n).filter (R a)).length
theorem cntRel_succ (n : Nat) (R : Bin) (k : Nat) : cntRel n R (k + 1) = cntRel n R k + ((List.range n).filter (R k)).length := by simp [cntRel, List.range_succ]
theorem cntRel_all (n : Nat) (R : Bin) : (pairsR n R).length = cntRel n R n := by simp [pairsR, cntRel, List.length_flatMap]
theorem cntRel_le (n : Nat) (R : Bin) (k : Nat) : cntRel n R k ≤ k * n := by
  induction k with
  | zero => simp [cntRel]
  | succ k ih =>
    rw [cntRel_succ, Nat.succ_mul]
    have := List.length_filter_le (R k) (List.range n)
    simp at this; omega
theorem filter_range_succ (p : Nat → Bool) (k : Nat) : ((List.range (k + 1)).filter p).length = ((List.range k).filter p).length + if p k then 1 else 0 := by
  rw [List.range_succ, List.filter_append, List.length_append]
  by_cases h : p k = true <;> simp [h]

set_option maxRecDepth 100000 in
set_option maxHeartbeats 8000000 in
theorem follows_any (w : World) (hT : Tab w) (v : Value) (l : List (Nat × Nat)) (hv : Rd w v l.length 2 (b8s l)) (hl : ∀ p ∈ l, p.1 < 256 ∧ p.2 < 256) :
    Calls Tryd.prog 9 #[v] w fun e w' => e = .returned (.bool true) ∧ Ext w w' := by
  have n64 : 12 ≤ 64 := by decide
  go_enter Tryd.func9, Tryd.ntmps9
  go_wp2_with fail
  refine (said_any 12 (by decide) n64 w hT v l hv hl).mono ?_
  rintro e w1 ⟨rfl, hE1, ho⟩
  have hRel := saidR_rel 12 (l.take 40)
  obtain ⟨R, hRR⟩ : ∃ R, saidR 12 (l.take 40) = R := ⟨_, rfl⟩
  rw [hRR] at ho hRel
  have hT1 := hT.keep hE1 id
  clear hRR hv hl hT
  go_wp2
  -- the two outer loops
  refine wp_loop (fun a W => ∃ (i : Nat), i ≤ 12 ∧ W = w1 ∧ a.defers = [] ∧ (a.tmps.size = 157 ∧ a.tmps.getD 3 undef = .pointer (some ⟨w.heap.size, 0, none⟩) ∧ a.tmps.getD 4 undef = .int .i64 (cntRel 12 R i) ∧ a.tmps.getD 5 undef = .int .i64 i))
    (fun a _ => 12 - (intOf (a.tmps.getD 5 undef)).toNat) ?_ ?_
  · exact ⟨0, by omega, rfl, rfl, rfl, rfl, rfl, rfl⟩
  rintro ⟨t, _⟩ W ⟨i, hi, rfl, hds, ⟨hsz, f3, f4, f5⟩⟩
  subst hds
  obtain ⟨u, hu⟩ := frame_fun hsz
  have hu' : t = #[u 0, u 1, u 2, u 3, u 4, u 5, u 6, u 7, u 8, u 9, u 10, u 11, u 12, u 13, u 14, u 15, u 16, u 17, u 18, u 19, u 20, u 21, u 22, u 23, u 24, u 25, u 26, u 27, u 28, u 29, u 30, u 31, u 32, u 33, u 34, u 35, u 36, u 37, u 38, u 39, u 40, u 41, u 42, u 43, u 44, u 45, u 46, u 47, u 48, u 49, u 50, u 51, u 52, u 53, u 54, u 55, u 56, u 57, u 58, u 59, u 60, u 61, u 62, u 63, u 64, u 65, u 66, u 67, u 68, u 69, u 70, u 71, u 72, u 73, u 74, u 75, u 76, u 77, u 78, u 79, u 80, u 81, u 82, u 83, u 84, u 85, u 86, u 87, u 88, u 89, u 90, u 91, u 92, u 93, u 94, u 95, u 96, u 97, u 98, u 99, u 100, u 101, u 102, u 103, u 104, u 105, u 106, u 107, u 108, u 109, u 110, u 111, u 112, u 113, u 114, u 115, u 116, u 117, u 118, u 119, u 120, u 121, u 122, u 123, u 124, u 125, u 126, u 127, u 128, u 129, u 130, u 131, u 132, u 133, u 134, u 135, u 136, u 137, u 138, u 139, u 140, u 141, u 142, u 143, u 144, u 145, u 146, u 147, u 148, u 149, u 150, u 151, u 152, u 153, u 154, u 155, u 156] := hu
  clear hu
  subst hu'
  change u 3 = _ at f3
  change u 4 = _ at f4
  change u 5 = _ at f5
  rw [f3, f4, f5]
  clear f3 f4 f5 hsz
  have hci := cntRel_le 12 R i
  by_cases hi2 : i < 12
  · have hi3 : (i : Int) < 12 := by omega
    go_wp2
    obtain ⟨w2, rfl⟩ : ∃ w2 : World, w2 = W := ⟨_, rfl⟩
    refine wp_loop (fun a W => ∃ (j : Nat), j ≤ 12 ∧ W = w2 ∧ a.defers = [] ∧ (a.tmps.size = 157 ∧ a.tmps.getD 3 undef = .pointer (some ⟨w.heap.size, 0, none⟩) ∧ a.tmps.getD 4 undef = .int .i64 ((cntRel 12 R i + ((List.range j).filter (R i)).length : Nat) : Int) ∧ a.tmps.getD 5 undef = .int .i64 i ∧ a.tmps.getD 6 undef = .int .i64 j))
      (fun a _ => 12 - (intOf (a.tmps.getD 6 undef)).toNat) ?_ ?_
    · exact ⟨0, by omega, rfl, rfl, rfl, rfl, by simp, rfl, rfl⟩
    rintro ⟨t, _⟩ W ⟨j, hj, rfl, hds, ⟨hsz, f3, f4, f5, f6⟩⟩
    subst hds
    obtain ⟨u', hu⟩ := frame_fun hsz
    obtain ⟨u, rfl⟩ : ∃ x, x = u' := ⟨_, rfl⟩
    have hu' : t = #[u 0, u 1, u 2, u 3, u 4, u 5, u 6, u 7, u 8, u 9, u 10, u 11, u 12, u 13, u 14, u 15, u 16, u 17, u 18, u 19, u 20, u 21, u 22, u 23, u 24, u 25, u 26, u 27, u 28, u 29, u 30, u 31, u 32, u 33, u 34, u 35, u 36, u 37, u 38, u 39, u 40, u 41, u 42, u 43, u 44, u 45, u 46, u 47, u 48, u 49, u 50, u 51, u 52, u 53, u 54, u 55, u 56, u 57, u 58, u 59, u 60, u 61, u 62, u 63, u 64, u 65, u 66, u 67, u 68, u 69, u 70, u 71, u 72, u 73, u 74, u 75, u 76, u 77, u 78, u 79, u 80, u 81, u 82, u 83, u 84, u 85, u 86, u 87, u 88, u 89, u 90, u 91, u 92, u 93, u 94, u 95, u 96, u 97, u 98, u 99, u 100, u 101, u 102, u 103, u 104, u 105, u 106, u 107, u 108, u 109, u 110, u 111, u 112, u 113, u 114, u 115, u 116, u 117, u 118, u 119, u 120, u 121, u 122, u 123, u 124, u 125, u 126, u 127, u 128, u 129, u 130, u 131, u 132, u 133, u 134, u 135, u 136, u 137, u 138, u 139, u 140, u 141, u 142, u 143, u 144, u 145, u 146, u 147, u 148, u 149, u 150, u 151, u 152, u 153, u 154, u 155, u 156] := hu
    clear hu
    subst hu'
    change u 3 = _ at f3
    change u 4 = _ at f4
    change u 5 = _ at f5
    change u 6 = _ at f6
    rw [f3, f4, f5, f6]
    clear f3 f4 f5 f6 hsz
    have hfj := List.length_filter_le (R i) (List.range j)
    rw [List.length_range] at hfj
    by_cases hj2 : j < 12
    · have hj3 : (j : Int) < 12 := by omega
      have hsucc := filter_range_succ (R i) j
      obtain ⟨c, hc⟩ : ∃ c, cntRel 12 R i + ((List.range j).filter (R i)).length = c := ⟨_, rfl⟩
      have hcn : cntRel 12 R i + ((List.range (j + 1)).filter (R i)).length = c + if R i j then 1 else 0 := by omega
      have hcb : c ≤ 200 := by omega
      rw [hc]
      have HC := Lib.hid hcn
      have g1 : isR 12 R i j = R i j := isR_nat hi2 hj2
      have g2 : isR 12 R j i = R j i := isR_nat hj2 hi2
      have g3 : freeR 12 R i j = (!decide (i = j) && !R i j && !R j i) := freeR_nat hi2 hj2
      have hcase : (R i j = true ∧ R j i = false ∧ i ≠ j) ∨ (R i j = false ∧ R j i = true ∧ i ≠ j) ∨ (R i j = false ∧ R j i = false ∧ i = j) ∨ (R i j = false ∧ R j i = false ∧ i ≠ j) := by
        cases h1 : R i j
        · cases h2 : R j i
          · by_cases h3 : i = j
            · exact .inr (.inr (.inl ⟨rfl, rfl, h3⟩))
            · exact .inr (.inr (.inr ⟨rfl, rfl, h3⟩))
          · exact .inr (.inl ⟨rfl, rfl, fun e => by rw [e, hRel.irr] at h2; cases h2⟩)
        · exact .inl ⟨rfl, hRel.asym h1, fun e => by rw [e, hRel.irr] at h1; cases h1⟩
      clear hcn hc hsucc hfj hci
      obtain ⟨c', hc'⟩ : ∃ c', (c + if R i j = true then 1 else 0) = c' := ⟨_, rfl⟩
      rw [hc'] at HC
      have hcb' : c' ≤ 201 := by rw [← hc']; split <;> omega
      obtain ⟨w3, rfl⟩ : ∃ w3 : World, w3 = W := ⟨_, rfl⟩
      rcases hcase with ⟨q1, q2, q3⟩ | ⟨q1, q2, q3⟩ | ⟨q1, q2, q3⟩ | ⟨q1, q2, q3⟩
      case' inl =>
        have g4 : freeR 12 R i j = false := by rw [g3, q1, q2]; simp
        have q4 : ((i : Int) != (j : Int)) = true := by simp; omega
        have q5 : (c : Int) + 1 = c' := by rw [q1] at hc'; simp only [reduceIte] at hc'; omega
      case' inr.inl =>
        have g4 : freeR 12 R i j = false := by rw [g3, q1, q2]; simp
        have q4 : ((i : Int) != (j : Int)) = true := by simp; omega
        have q5 : (c : Int) = c' := by rw [q1] at hc'; simp only [reduceIte, Bool.false_eq_true] at hc'; omega
      case' inr.inr.inl =>
        have g4 : freeR 12 R i j = false := by rw [g3, q3]; simp
        have q4 : ((i : Int) != (j : Int)) = false := by simp; omega
        have q5 : (c : Int) = c' := by rw [q1] at hc'; simp only [reduceIte, Bool.false_eq_true] at hc'; omega
      case' inr.inr.inr =>
        have g4 : freeR 12 R i j = true := by rw [g3, q1, q2]; simp [q3]
        have q4 : ((i : Int) != (j : Int)) = true := by simp; omega
        have q5 : (c : Int) = c' := by rw [q1] at hc'; simp only [reduceIte, Bool.false_eq_true] at hc'; omega
      all_goals
        rw [q1] at g1
        rw [q2] at g2
        have Q3 := Lib.hid q3
        have Q1 := Lib.hid q1
        have Q2 := Lib.hid q2
        have Q5 := Lib.hid q5
        clear q3 q1 q2 g3 q5 hc'
        go_wp2_with (first | (go_at_call 31; refine (is_R _ 12 R n64 _ ho _ _).mono ?_; rintro e w' ⟨rfl, rfl⟩) | (go_at_call 33; refine (free_R _ 12 R n64 _ ho _ _).mono ?_; rintro e w' ⟨rfl, rfl⟩))
        refine wp_loop (fun a W => ∃ (m : Nat), m ≤ 12 ∧ W = w3 ∧ a.defers = [] ∧ (a.tmps.size = 157 ∧ a.tmps.getD 3 undef = .pointer (some ⟨w.heap.size, 0, none⟩) ∧ a.tmps.getD 4 undef = .int .i64 c' ∧ a.tmps.getD 5 undef = .int .i64 i ∧ a.tmps.getD 6 undef = .int .i64 j ∧ a.tmps.getD 7 undef = .int .i64 m))
          (fun a _ => 12 - (intOf (a.tmps.getD 7 undef)).toNat) ?_ ?_
        · exact ⟨0, by omega, rfl, rfl, rfl, rfl, congrArg (Value.int .i64) Q5.out, rfl, rfl, rfl⟩
        rintro ⟨t, _⟩ W ⟨m, hm, rfl, hds, ⟨hsz, f3, f4, f5, f6, f7⟩⟩
        subst hds
        obtain ⟨u', hu⟩ := frame_fun hsz
        obtain ⟨u, rfl⟩ : ∃ x, x = u' := ⟨_, rfl⟩
        have hu' : t = #[u 0, u 1, u 2, u 3, u 4, u 5, u 6, u 7, u 8, u 9, u 10, u 11, u 12, u 13, u 14, u 15, u 16, u 17, u 18, u 19, u 20, u 21, u 22, u 23, u 24, u 25, u 26, u 27, u 28, u 29, u 30, u 31, u 32, u 33, u 34, u 35, u 36, u 37, u 38, u 39, u 40, u 41, u 42, u 43, u 44, u 45, u 46, u 47, u 48, u 49, u 50, u 51, u 52, u 53, u 54, u 55, u 56, u 57, u 58, u 59, u 60, u 61, u 62, u 63, u 64, u 65, u 66, u 67, u 68, u 69, u 70, u 71, u 72, u 73, u 74, u 75, u 76, u 77, u 78, u 79, u 80, u 81, u 82, u 83, u 84, u 85, u 86, u 87, u 88, u 89, u 90, u 91, u 92, u 93, u 94, u 95, u 96, u 97, u 98, u 99, u 100, u 101, u 102, u 103, u 104, u 105, u 106, u 107, u 108, u 109, u 110, u 111, u 112, u 113, u 114, u 115, u 116, u 117, u 118, u 119, u 120, u 121, u 122, u 123, u 124, u 125, u 126, u 127, u 128, u 129, u 130, u 131, u 132, u 133, u 134, u 135, u 136, u 137, u 138, u 139, u 140, u 141, u 142, u 143, u 144, u 145, u 146, u 147, u 148, u 149, u 150, u 151, u 152, u 153, u 154, u 155, u 156] := hu
        clear hu
        subst hu'
        change u 3 = _ at f3
        change u 4 = _ at f4
        change u 5 = _ at f5
        change u 6 = _ at f6
        change u 7 = _ at f7
        rw [f3, f4, f5, f6, f7]
        clear f3 f4 f5 f6 f7 hsz
        by_cases hm2 : m < 12
        · have hm3 : (m : Int) < 12 := by omega
          have g5 : isR 12 R j m = R j m := isR_nat hj2 hm2
          have g6 : isR 12 R i m = R i m := isR_nat hi2 hm2
          have hcase : R i j = true ∧ R j m = true → R i m = true := fun h => hRel.tr _ _ _ h.1 h.2
          rw [Q1.out] at hcase
          cases q5 : R j m
          · rw [q5] at g5
            have Q6 := Lib.hid q5
            clear hcase q5
            go_wp2_with (go_at_call 31; refine (is_R _ 12 R n64 _ ho _ _).mono ?_; rintro e w' ⟨rfl, rfl⟩)
            all_goals exact ⟨⟨m + 1, by omega, by simp⟩, by simp [intOf]; omega⟩
          · rw [q5] at g5 hcase
            have Q6 := Lib.hid q5
            simp only [and_true, true_implies, Bool.false_eq_true, false_implies] at hcase
            try rw [hcase] at g6
            clear hcase q5
            go_wp2_with (go_at_call 31; refine (is_R _ 12 R n64 _ ho _ _).mono ?_; rintro e w' ⟨rfl, rfl⟩)
            all_goals exact ⟨⟨m + 1, by omega, by simp⟩, by simp [intOf]; omega⟩
        · go_wp2
          have h := HC.out
          all_goals refine ⟨⟨j + 1, ?_⟩, by simp [intOf]; omega⟩
          all_goals repeat' (first | exact True.intro | apply And.intro)
          all_goals first | omega | trivial | exact congrArg (Value.int .i64) (by omega)
    · have h12 : j = 12 := by omega
      have H12 := Lib.hid h12
      clear h12
      go_wp2
      have h := cntRel_succ 12 R i
      rw [show List.range 12 = List.range j by rw [H12.out]] at h
      all_goals refine ⟨⟨i + 1, ?_⟩, by simp [intOf]; omega⟩
      all_goals repeat' (first | exact True.intro | apply And.intro)
      all_goals first | omega | trivial | exact congrArg (Value.int .i64) (by omega)
  · obtain rfl : i = 12 := by omega
    clear hi hi2 hci
    have hlen := cntRel_all 12 R
    have hle := cntRel_le 12 R 12
    have hsort := pairsR_sorted 12 R
    go_wp2_with fail
    refine (pairs_R _ 12 R n64 _ ho hT1).mono ?_
    rintro e w4 ⟨vp, rfl, hE4, hO4⟩
    obtain ⟨hlp, hmp, ap', cp', rfl, hRp⟩ := Rd.of_own hO4
    have ho4 := ho.keep hE4 id
    have hT4 := hT1.keep hE4 id
    have hE04 := hE1.trans hE4
    have hmem : ∀ p ∈ pairsR 12 R, ∃ a b : Nat, p = ((a : Int), (b : Int)) ∧ a < 12 ∧ b < 12 ∧ R a b = true := fun p hp => mem_pairsR.1 hp
    have HS := Lib.hid hsort; have HM := Lib.hid hmem; have HP := Lib.hid hRp
    clear hsort hmem hRp ho hT1 hE1 hE4 hO4
    obtain ⟨L, hL⟩ : ∃ L, pairsR 12 R = L := ⟨_, rfl⟩
    rw [hL] at HS HM HP hlp hmp hlen ⊢
    rw [← hlen] at hle ⊢
    clear hL hlen
    go_wp2
    refine wp_loop (fun a W => ∃ (k : Nat), k ≤ L.length ∧ Ext w4 W ∧ a.defers = [] ∧ (a.tmps.size = 157 ∧ a.tmps.getD 3 undef = .pointer (some ⟨w.heap.size, 0, none⟩) ∧ a.tmps.getD 4 undef = .int .i64 L.length ∧ a.tmps.getD 8 undef = .slice ap' L.length cp' ∧ a.tmps.getD 9 undef = .int .i64 k))
      (fun a _ => L.length - (intOf (a.tmps.getD 9 undef)).toNat) ?_ ?_
    · exact ⟨0, by omega, Turn.refl _ _, rfl, rfl, rfl, rfl, rfl, rfl⟩
    rintro ⟨t, _⟩ W ⟨k, hk, hEW, hds, ⟨hsz, f3, f4, f8, f9⟩⟩
    subst hds
    obtain ⟨u', hu⟩ := frame_fun hsz
    obtain ⟨u, rfl⟩ : ∃ x, x = u' := ⟨_, rfl⟩
    have hu' : t = #[u 0, u 1, u 2, u 3, u 4, u 5, u 6, u 7, u 8, u 9, u 10, u 11, u 12, u 13, u 14, u 15, u 16, u 17, u 18, u 19, u 20, u 21, u 22, u 23, u 24, u 25, u 26, u 27, u 28, u 29, u 30, u 31, u 32, u 33, u 34, u 35, u 36, u 37, u 38, u 39, u 40, u 41, u 42, u 43, u 44, u 45, u 46, u 47, u 48, u 49, u 50, u 51, u 52, u 53, u 54, u 55, u 56, u 57, u 58, u 59, u 60, u 61, u 62, u 63, u 64, u 65, u 66, u 67, u 68, u 69, u 70, u 71, u 72, u 73, u 74, u 75, u 76, u 77, u 78, u 79, u 80, u 81, u 82, u 83, u 84, u 85, u 86, u 87, u 88, u 89, u 90, u 91, u 92, u 93, u 94, u 95, u 96, u 97, u 98, u 99, u 100, u 101, u 102, u 103, u 104, u 105, u 106, u 107, u 108, u 109, u 110, u 111, u 112, u 113, u 114, u 115, u 116, u 117, u 118, u 119, u 120, u 121, u 122, u 123, u 124, u 125, u 126, u 127, u 128, u 129, u 130, u 131, u 132, u 133, u 134, u 135, u 136, u 137, u 138, u 139, u 140, u 141, u 142, u 143, u 144, u 145, u 146, u 147, u 148, u 149, u 150, u 151, u 152, u 153, u 154, u 155, u 156] := hu
    clear hu
    subst hu'
    change u 3 = _ at f3
    change u 4 = _ at f4
    change u 8 = _ at f8
    change u 9 = _ at f9
    rw [f3, f4, f8, f9]
    clear f3 f4 f8 f9 hsz
    have hoW := ho4.keep hEW id
    by_cases hk2 : k < L.length
    · have hk3 : (k : Int) < (L.length : Int) := by omega
      obtain ⟨g, off, rfl, hg, hc⟩ := HP.out (by omega)
      obtain ⟨a, b, hab, ha, hb, hRab⟩ := HM.out L[k] (List.getElem_mem hk2)
      have c1 := hEW.cell_some (hc (k * 2) (by omega)) id
      have c2 := hEW.cell_some (hc (k * 2 + 1) (by omega)) id
      rw [prs_fst _ _ hk2, show L.getD k (0, 0) = ((a : Int), (b : Int)) by simp [List.getD_eq_getElem?_getD, hk2, hab]] at c1
      rw [prs_snd _ _ hk2, show L.getD k (0, 0) = ((a : Int), (b : Int)) by simp [List.getD_eq_getElem?_getD, hk2, hab], ← Nat.add_assoc] at c2
      have g1 : isR 12 R a b = true := by rw [isR_nat ha hb]; exact hRab
      have hD : ∀ m, OrdR (W.drewN m) w.heap.size 12 R := fun m => hoW.keep ((Turn.refl (fun _ => False) W).drewN m) id
      have HD := Lib.hid hD
      clear hD
      have hcall : ∀ m, Calls Tryd.prog 31 #[.pointer (some ⟨w.heap.size, 0, none⟩), .int .i64 a, .int .i64 b] (W.drewN m) fun e w' => e = .returned (.bool true) ∧ w' = W.drewN m := fun m =>
        (is_R _ 12 R n64 _ (HD.out m) a b).mono fun e w' ⟨h1, h2⟩ => ⟨by rw [h1, g1], h2.symm⟩
      have HC := Lib.hid hcall
      clear hcall
      cases k with
      | zero =>
        have HAB := Lib.hid hab
        clear hc hab
        simp only [Nat.zero_mul, Nat.add_zero, Nat.zero_add] at c1 c2
        have hk4 : (0 : Int) < (L.length : Int) := by omega
        have z0 : decide ((0 : Int) < 0) = false := rfl
        simp only [Int.natCast_zero]
        clear hk3
        go_wp2
        go_quiet ((go_at_call 31; exact Calls.quiet_of_same (HC.out _)))
        go_wp2
        all_goals exact ⟨⟨1, by omega, hEW.drewN _, by simp⟩, by simp [intOf]; omega⟩
      | succ j =>
        have hj2 : j < L.length := by omega
        obtain ⟨c, d, hcd, _, _, _⟩ := HM.out L[j] (List.getElem_mem hj2)
        have c3 := hEW.cell_some (hc (j * 2) (by omega)) id
        have c4 := hEW.cell_some (hc (j * 2 + 1) (by omega)) id
        rw [prs_fst _ _ hj2, show L.getD j (0, 0) = ((c : Int), (d : Int)) by simp [List.getD_eq_getElem?_getD, hj2, hcd]] at c3
        rw [prs_snd _ _ hj2, show L.getD j (0, 0) = ((c : Int), (d : Int)) by simp [List.getD_eq_getElem?_getD, hj2, hcd], ← Nat.add_assoc] at c4
        have hlt : ltp L[j] L[j + 1] := List.pairwise_iff_getElem.1 HS.out j (j + 1) hj2 hk2 (by omega)
        rw [hab, hcd] at hlt
        have hlt' : c < a ∨ (c = a ∧ d < b) := by
          rcases hlt with h | ⟨h1, h2⟩
          · left; simp only [] at h; omega
          · right; simp only [] at h1 h2; omega
        have hw2 : IntKind.i64.wrap (j : Int) = (j : Int) := IntWalk.i64_in _ (by omega)
        have hw : IntKind.i64.wrap ((j : Int) + 1 - 1) = (j : Int) := by rw [show (j : Int) + 1 - 1 = j by omega]; exact hw2
        have hj3 : (j : Int) < (L.length : Int) := by omega
        have hj4 : (0 : Int) < ((j + 1 : Nat) : Int) := by omega
        have hj5 : (0 : Int) ≤ (j : Int) + 1 := by omega
        have HAB := Lib.hid hab
        have HCD := Lib.hid hcd
        clear hc hab hcd hlt
        rcases hlt' with h | ⟨h1, h2⟩
        · have t1 : ¬ (a : Int) < (c : Int) := by omega
          have t3 : decide ((a : Int) < (c : Int)) = false := decide_eq_false t1
          have t2 : ((c : Int) == (a : Int)) = false := by simp; omega
          have t6 : ¬ a < c := by omega
          have HH := Lib.hid h
          clear t1 h
          go_wp2
          go_quiet ((go_at_call 31; exact Calls.quiet_of_same (HC.out _)))
          go_wp2
          all_goals exact ⟨⟨j + 1 + 1, by omega, hEW.drewN _, by first | rfl | trivial, ⟨rfl, rfl, rfl, rfl, rfl⟩⟩, by simp [intOf]; omega⟩
        · subst h1
          have t1 : ¬ b ≤ d := by omega
          have t2 : decide ((b : Int) ≤ (d : Int)) = false := decide_eq_false (by omega)
          go_wp2
          go_quiet ((go_at_call 31; exact Calls.quiet_of_same (HC.out _)))
          go_wp2
          all_goals exact ⟨⟨j + 1 + 1, by omega, hEW.drewN _, by first | rfl | trivial, ⟨rfl, rfl, rfl, rfl, rfl⟩⟩, by simp [intOf]; omega⟩
    · go_wp2_with fail
      refine (works_any W (hT4.keep hEW id)).mono ?_
      rintro e wh ⟨rfl, hEh⟩
      go_wp2
      go_ret
      exact ⟨rfl, (hE04.trans hEW).trans hEh⟩

theorem follows_card (w : World) (hT : Tab w) (v : Value) (l : List (Int × Int)) (hv : Rd w v l.length 2 (prsK .u8 l)) (hl : ∀ p ∈ l, (Lit.int .u8 p.1).wf = true ∧ (Lit.int .u8 p.2).wf = true) :
    Calls Tryd.prog 9 #[v] w fun e w' => e = .returned (.bool true) ∧ Ext w w' := by
  obtain ⟨m, h1, h2, h3⟩ := nat_pairs hl
  rw [← h1, h2] at hv
  exact follows_any w hT v m hv h3
end Go.Proofs.YtnnnbmkhgcpjoaaDoor
