/- ablautref13.Order: Before. -/
import Derived.Test.YtnnnbmkhgcpjoaaDoorRefIs
namespace Go.Proofs.YtnnnbmkhgcpjoaaDoor
open Go.RowKit Go.Ab

def updR (R : Bin) (i k : Nat) (v : Bool) : Bin := fun x y => if x = i ∧ y = k then v else R x y
theorem boolRow_set (n : Nat) (f : Nat → Bool) (k : Nat) (v : Bool) : (boolRow n f).set k (.bool v) = boolRow n (fun y => if y = k then v else f y) := by
  apply List.ext_getElem?
  intro i
  simp only [boolRow, List.getElem?_set, List.getElem?_map, List.length_map, List.length_range]
  by_cases hk : k = i
  · subst hk
    by_cases hn : k < n <;> simp [hn]
  · by_cases hn : i < n
    · simp [hk, hn, Ne.symm hk]
    · simp [hk, hn]
theorem RefRows.store {w : World} {base n : Nat} {R : Bin} {V : Nat → Value} (h : RefRows w base n R n V) {i k gi ci : Nat} (hi : i < n) (hvi : V i = .slice (some ⟨gi, 0, none⟩) n ci) (v : Bool) :
    RefRows (w.setCell ⟨gi, k, none⟩ (.bool v)) base n (updR R i k v) n V := by
  refine ⟨fun j hj => ?_, h.apart⟩
  by_cases hji : j = i
  · subst hji
    have h1 := h.row j hj
    rw [hvi] at h1 ⊢
    have h2 := own_store h1 k (.bool v)
    rw [boolRow_set] at h2
    have e : (fun y => if y = k then v else R j y) = updR R j k v j := by funext y; simp [updR]
    rw [e] at h2
    exact h2
  · have e : updR R i k v j = R j := by funext y; simp [updR, hji]
    rw [e]
    refine own_keep (h.row j hj) (Turn.set1 w gi k _) (fun g hg hgg => ?_)
    subst hgg
    have := h.apart j i hj hi hji
    rw [hvi] at this
    exact this hg

/-- The table, by its rows. -/
theorem rows_table {w : World} {base n : Nat} {R : Bin} {V : Nat → Value} {go co : Nat} (hO : w.ownsRow base 66 1 (.slice (some ⟨go, 0, none⟩) n co) n ((List.range n).map V)) (hV : RefRows w base n R n V) {i : Nat} (hi : i < n) :
    ∃ gi ci, V i = .slice (some ⟨gi, 0, none⟩) n ci ∧ w.cell? ⟨go, i, none⟩ = some (.slice (some ⟨gi, 0, none⟩) n ci) ∧ ∀ j, j < n → w.cell? ⟨gi, j, none⟩ = some (.bool (R i j)) ∧ w.frozen? ⟨gi, j, none⟩ = false := by
  have hr := hV.row i hi
  obtain ⟨gi, ci, hvi⟩ := own_ptr hr (by omega)
  have c1 := hO.cellAt i (by omega)
  rw [List.getElem?_map, List.getElem?_range hi] at c1
  simp only [Option.map_some, hvi] at c1
  refine ⟨gi, ci, hvi, c1, fun j hj => ?_⟩
  rw [hvi] at hr
  have c2 := hr.cellAt j (by omega)
  refine ⟨?_, hr.frozenAt j⟩
  rw [c2]
  simp [boolRow, hj]

/-- The relation, while it is turned: pairs before (i, k) have all that follows. -/
def midR (R : Bin) (a b i k : Nat) : Bin := fun x y => if x < i ∨ (x = i ∧ y < k) then addR R a b x y else R x y
theorem midR_zero (R : Bin) (a b : Nat) : midR R a b 0 0 = R := by funext x y; simp [midR]
theorem addR_col {R : Bin} {a b : Nat} (hab : a ≠ b) (h : R b a = false) (x : Nat) : addR R a b x a = R x a := by
  have : (a == b) = false := by simpa using hab
  simp [addR, h, this]
theorem addR_rowb {R : Bin} {a b : Nat} (hab : a ≠ b) (h : R b a = false) (y : Nat) : addR R a b b y = R b y := by
  have : (b == a) = false := by simpa using Ne.symm hab
  simp [addR, h, this]
theorem midR_col {R : Bin} {a b : Nat} (hab : a ≠ b) (h : R b a = false) (i k x : Nat) : midR R a b i k x a = R x a := by
  unfold midR; split
  · exact addR_col hab h x
  · rfl
theorem midR_rowb {R : Bin} {a b : Nat} (hab : a ≠ b) (h : R b a = false) (i k y : Nat) : midR R a b i k b y = R b y := by
  unfold midR; split
  · exact addR_rowb hab h y
  · rfl
theorem midR_yes {R : Bin} {a b i k : Nat} (h : ((i == a || R i a) && (k == b || R b k)) = true) : updR (midR R a b i k) i k true = midR R a b i (k + 1) := by
  funext x y
  unfold updR midR
  by_cases hxy : x = i ∧ y = k
  · obtain ⟨rfl, rfl⟩ := hxy
    have : addR R a b x y = true := by unfold addR; rw [h]; simp
    simp [this]
  · rw [if_neg hxy]
    by_cases h1 : x < i ∨ (x = i ∧ y < k)
    · rw [if_pos h1, if_pos (by omega)]
    · rw [if_neg h1, if_neg (by omega)]
theorem midR_no {R : Bin} {a b i k : Nat} (h : ((i == a || R i a) && (k == b || R b k)) = false) : midR R a b i k = midR R a b i (k + 1) := by
  funext x y
  unfold midR
  by_cases hxy : x = i ∧ y = k
  · obtain ⟨rfl, rfl⟩ := hxy
    have : addR R a b x y = R x y := by unfold addR; rw [h]; simp
    simp [this]
  · by_cases h1 : x < i ∨ (x = i ∧ y < k)
    · rw [if_pos h1, if_pos (by omega)]
    · rw [if_neg h1, if_neg (by omega)]
theorem midR_row {n : Nat} {R : Bin} (hR : Rel n R) {a b : Nat} (ha : a < n) (hb : b < n) (i : Nat) : midR R a b i n = midR R a b (i + 1) 0 := by
  funext x y
  unfold midR
  by_cases h1 : x < i ∨ (x = i ∧ y < n)
  · rw [if_pos h1, if_pos (by omega)]
  · rw [if_neg h1]
    by_cases h2 : x < i + 1 ∨ (x = i + 1 ∧ y < 0)
    · rw [if_pos h2]
      have hy : n ≤ y := by omega
      have e1 : R x y = false := by
        cases hh : R x y with
        | false => rfl
        | true => have := (hR.dom _ _ hh).2; omega
      have e2 : R b y = false := by
        cases hh : R b y with
        | false => rfl
        | true => have := (hR.dom _ _ hh).2; omega
      have e3 : (y == b) = false := by rw [beq_eq_false_iff_ne]; omega
      simp [addR, e1, e2, e3]
    · rw [if_neg h2]
theorem midR_all {n : Nat} {R : Bin} (hR : Rel n R) {a b : Nat} (ha : a < n) (hb : b < n) : midR R a b n 0 = addR R a b := by
  funext x y
  unfold midR
  by_cases h1 : x < n ∨ (x = n ∧ y < 0)
  · rw [if_pos h1]
  · rw [if_neg h1]
    have hx : n ≤ x := by omega
    have e1 : R x y = false := by
      cases hh : R x y with
      | false => rfl
      | true => have := (hR.dom _ _ hh).1; omega
    have e2 : R x a = false := by
      cases hh : R x a with
      | false => rfl
      | true => have := (hR.dom _ _ hh).1; omega
    have e3 : (x == a) = false := by rw [beq_eq_false_iff_ne]; omega
    simp [addR, e1, e2, e3]

set_option maxRecDepth 100000 in
set_option maxHeartbeats 8000000 in
theorem refBefore_ok {w : World} {base b n : Nat} {R : Bin} (hn : n ≤ 64) (hR : Rel n R) (h : RefO w base b n R) (x y : Nat) (hx : x < n) (hy : y < n) (hxy : x ≠ y) (hno : R y x = false) :
    Calls Tryd.prog 18 #[.pointer (some ⟨b, 0, none⟩), .int .i64 x, .int .i64 y] w fun e w' => e = .returned (.int .i64 0) ∧ Turn (fun g => base ≤ g ∧ ∃ cs fr, w.heap[g]? = some (.cells cs 4 fr)) w w' ∧ RefO w' base b n (addR R x y) := by
  have h0 := h
  obtain ⟨vB, V, hbase, hb, hO, hV⟩ := h
  obtain ⟨go, co, rfl⟩ := own_ptr hO (by omega)
  have e1 : isEv (n : Int) (x : Int) = true := isEv_true (by omega) (by omega)
  have e2 : isEv (n : Int) (y : Int) = true := isEv_true (by omega) (by omega)
  have e3 : ((x : Int) == (y : Int)) = false := by rw [beq_eq_false_iff_ne]; omega
  obtain ⟨gy, cy, hvy, t1, tc⟩ := rows_table hO hV hy
  have t2 := (tc x hx).1
  rw [hno] at t2
  have c2 : w.cell? ⟨b, 2, none⟩ = some (.slice (some ⟨go, 0, none⟩) n co) := by simp [World.cell?, hb]
  have hx3 : (x : Int) < (n : Int) := by omega
  have hy3 : (y : Int) < (n : Int) := by omega
  clear tc
  go_enter Tryd.func18, Tryd.ntmps18
  go_wp2_with (first | (go_at_call 40; refine (refValid_ok h0).mono ?_; rintro e w' ⟨rfl, rfl⟩) | (go_at_call 41; refine (refEvent_ok h0 _).mono ?_; rintro e w' ⟨rfl, rfl⟩))
  have hblk : ∀ g, (∃ i, i < n ∧ (V i).ownBlock = some g) → base ≤ g ∧ ∃ cs fr, w.heap[g]? = some (.cells cs 4 fr) := by
    rintro g ⟨i, hi, hg⟩
    rcases (hV.row i hi).2 with ⟨q, _⟩ | ⟨g', cap, cur, q, hlo, hg', _⟩
    · rw [q] at hg; cases hg
    · rw [q] at hg; cases hg; exact ⟨hlo, _, _, hg'⟩
  have hSb : ¬ ∃ i, i < n ∧ (V i).ownBlock = some b := by
    rintro ⟨i, hi, hg⟩
    exact own_ne (hV.row i hi) hb (by decide) b hg rfl
  have hSo : ∀ g, (Value.slice (some ⟨go, 0, none⟩) n co).ownBlock = some g → ¬ ∃ i, i < n ∧ (V i).ownBlock = some g := by
    rintro g hg ⟨i, hi, hg'⟩
    exact own_apart (hV.row i hi) hO (by decide) g hg' hg
  have HBK := Lib.hid hblk; have HSB := Lib.hid hSb; have HSO := Lib.hid hSo; have HXY := Lib.hid hxy; have HNO := Lib.hid hno
  have hkeep : ∀ W, Turn (fun g => ∃ i, i < n ∧ (V i).ownBlock = some g) w W → W.heap[b]? = some (.cells #[.bool true, .int .i64 n, .slice (some ⟨go, 0, none⟩) n co] 65 (0, 0)) ∧ W.ownsRow base 66 1 (.slice (some ⟨go, 0, none⟩) n co) n ((List.range n).map V) :=
    fun W ht => ⟨ht.heap hb hSb, own_keep hO ht hSo⟩
  have HKP := Lib.hid hkeep
  clear hblk hSb hSo hkeep t1 t2 c2 e1 e2 e3 hvy hno hxy
  refine wp_loop (fun a W => ∃ (i : Nat), i ≤ n ∧ a.defers = [] ∧ (a.tmps.size = 94 ∧ a.tmps.getD 0 undef = .pointer (some ⟨b, 0, none⟩) ∧ a.tmps.getD 1 undef = .int .i64 x ∧ a.tmps.getD 2 undef = .int .i64 y ∧ a.tmps.getD 7 undef = .int .i64 i) ∧ RefRows W base n (midR R x y i 0) n V ∧ Turn (fun g => ∃ i, i < n ∧ (V i).ownBlock = some g) w W)
    (fun a _ => n - (intOf (a.tmps.getD 7 undef)).toNat) ?_ ?_
  · exact ⟨0, by omega, rfl, ⟨rfl, rfl, rfl, rfl, rfl⟩, by rw [midR_zero]; exact hV, Turn.refl _ _⟩
  clear hV hO hb h0
  rintro ⟨t, _⟩ W ⟨i, hi, hds, ⟨hsz, f0, f1, f2, f7⟩, hV, ht⟩
  subst hds
  obtain ⟨u', hu⟩ := frame_fun hsz
  obtain ⟨u, rfl⟩ : ∃ x, x = u' := ⟨_, rfl⟩
  have hu' : t = #[u 0, u 1, u 2, u 3, u 4, u 5, u 6, u 7, u 8, u 9, u 10, u 11, u 12, u 13, u 14, u 15, u 16, u 17, u 18, u 19, u 20, u 21, u 22, u 23, u 24, u 25, u 26, u 27, u 28, u 29, u 30, u 31, u 32, u 33, u 34, u 35, u 36, u 37, u 38, u 39, u 40, u 41, u 42, u 43, u 44, u 45, u 46, u 47, u 48, u 49, u 50, u 51, u 52, u 53, u 54, u 55, u 56, u 57, u 58, u 59, u 60, u 61, u 62, u 63, u 64, u 65, u 66, u 67, u 68, u 69, u 70, u 71, u 72, u 73, u 74, u 75, u 76, u 77, u 78, u 79, u 80, u 81, u 82, u 83, u 84, u 85, u 86, u 87, u 88, u 89, u 90, u 91, u 92, u 93] := hu
  clear hu
  subst hu'
  change u 0 = _ at f0
  change u 1 = _ at f1
  change u 2 = _ at f2
  change u 7 = _ at f7
  rw [f0, f1, f2, f7]
  clear f0 f1 f2 f7 hsz
  obtain ⟨hb, hO⟩ := HKP.out W ht
  have cn : W.cell? ⟨b, 1, none⟩ = some (.int .i64 n) := by simp [World.cell?, hb]
  by_cases hi2 : i < n
  · have hi3 : (i : Int) < (n : Int) := by omega
    go_wp2
    clear cn hb hO
    refine wp_loop (fun a W => ∃ (k : Nat), k ≤ n ∧ a.defers = [] ∧ (a.tmps.size = 94 ∧ a.tmps.getD 0 undef = .pointer (some ⟨b, 0, none⟩) ∧ a.tmps.getD 1 undef = .int .i64 x ∧ a.tmps.getD 2 undef = .int .i64 y ∧ a.tmps.getD 7 undef = .int .i64 i ∧ a.tmps.getD 8 undef = .int .i64 k) ∧ RefRows W base n (midR R x y i k) n V ∧ Turn (fun g => ∃ i, i < n ∧ (V i).ownBlock = some g) w W)
      (fun a _ => n - (intOf (a.tmps.getD 8 undef)).toNat) ?_ ?_
    · exact ⟨0, by omega, rfl, ⟨rfl, rfl, rfl, rfl, rfl, rfl⟩, hV, ht⟩
    clear hV ht
    rintro ⟨t, _⟩ W ⟨k, hk, hds, ⟨hsz, f0, f1, f2, f7, f8⟩, hV, ht⟩
    subst hds
    obtain ⟨u', hu⟩ := frame_fun hsz
    obtain ⟨u, rfl⟩ : ∃ x, x = u' := ⟨_, rfl⟩
    have hu' : t = #[u 0, u 1, u 2, u 3, u 4, u 5, u 6, u 7, u 8, u 9, u 10, u 11, u 12, u 13, u 14, u 15, u 16, u 17, u 18, u 19, u 20, u 21, u 22, u 23, u 24, u 25, u 26, u 27, u 28, u 29, u 30, u 31, u 32, u 33, u 34, u 35, u 36, u 37, u 38, u 39, u 40, u 41, u 42, u 43, u 44, u 45, u 46, u 47, u 48, u 49, u 50, u 51, u 52, u 53, u 54, u 55, u 56, u 57, u 58, u 59, u 60, u 61, u 62, u 63, u 64, u 65, u 66, u 67, u 68, u 69, u 70, u 71, u 72, u 73, u 74, u 75, u 76, u 77, u 78, u 79, u 80, u 81, u 82, u 83, u 84, u 85, u 86, u 87, u 88, u 89, u 90, u 91, u 92, u 93] := hu
    clear hu
    subst hu'
    change u 0 = _ at f0
    change u 1 = _ at f1
    change u 2 = _ at f2
    change u 7 = _ at f7
    change u 8 = _ at f8
    rw [f0, f1, f2, f7, f8]
    clear f0 f1 f2 f7 f8 hsz
    obtain ⟨hb, hO⟩ := HKP.out W ht
    have cn : W.cell? ⟨b, 1, none⟩ = some (.int .i64 n) := by simp [World.cell?, hb]
    by_cases hk2 : k < n
    · have hk3 : (k : Int) < (n : Int) := by omega
      have c2 : W.cell? ⟨b, 2, none⟩ = some (.slice (some ⟨go, 0, none⟩) n co) := by simp [World.cell?, hb]
      obtain ⟨gi, ci, hvi, r1, rc⟩ := rows_table hO hV hi2
      obtain ⟨gy, cy, _, r2, rd⟩ := rows_table hO hV hy
      have d1 := (rc x hx).1
      have d2 := (rd k hk2).1
      have d3 := rc k hk2
      rw [midR_col HXY.out HNO.out] at d1
      rw [midR_rowb HXY.out HNO.out] at d2
      obtain ⟨d3, d4⟩ := d3
      have hst := hV.store (k := k) hi2 hvi true
      have hTs : Turn (fun g => ∃ i, i < n ∧ (V i).ownBlock = some g) w (W.setCell ⟨gi, k, none⟩ (.bool true)) := ht.setCell (p := ⟨gi, k, none⟩) (.inr ⟨i, hi2, by rw [hvi]; rfl⟩) _
      have hyes : ((i == x || R i x) && (k == y || R y k)) = true → RefRows (W.setCell ⟨gi, k, none⟩ (.bool true)) base n (midR R x y i (k + 1)) n V := fun hh => by rw [← midR_yes hh]; exact hst
      have hnot : ((i == x || R i x) && (k == y || R y k)) = false → RefRows W base n (midR R x y i (k + 1)) n V := fun hh => by rw [← midR_no hh]; exact hV
      have q1 : ((i : Int) == (x : Int)) = (i == x) := by apply Bool.eq_iff_iff.2; simp only [beq_iff_eq]; omega
      have q2 : ((k : Int) == (y : Int)) = (k == y) := by apply Bool.eq_iff_iff.2; simp only [beq_iff_eq]; omega
      have HY := Lib.hid hyes; have HN := Lib.hid hnot; have HT := Lib.hid hTs
      obtain ⟨A, hA⟩ : ∃ A, (i == x) = A := ⟨_, rfl⟩
      obtain ⟨B, hB⟩ : ∃ B, R i x = B := ⟨_, rfl⟩
      obtain ⟨C, hC⟩ : ∃ C, (k == y) = C := ⟨_, rfl⟩
      obtain ⟨D, hD⟩ : ∃ D, R y k = D := ⟨_, rfl⟩
      rw [hA, hB, hC, hD] at HY HN
      rw [hA] at q1
      rw [hC] at q2
      rw [hB] at d1
      rw [hD] at d2
      clear hyes hnot hst hTs rc rd hA hB hC hD hvi hO hb hV
      cases A <;> cases B <;> cases C <;> cases D
      all_goals
        go_wp2
        first
          | exact ⟨⟨k + 1, by omega, by first | rfl | trivial, ⟨rfl, rfl, rfl, rfl, rfl, rfl⟩, HN.out rfl, ht⟩, by simp [intOf]; omega⟩
          | exact ⟨⟨k + 1, by omega, by first | rfl | trivial, ⟨rfl, rfl, rfl, rfl, rfl, rfl⟩, HY.out rfl, HT.out⟩, by simp [intOf]; omega⟩
    · have hkn : k = n := by omega
      rw [hkn, midR_row hR hx hy] at hV
      have HK := Lib.hid hkn; have HV := Lib.hid hV
      clear hkn hV hb hO
      go_wp2
      exact ⟨⟨i + 1, by omega, by first | rfl | trivial, ⟨rfl, rfl, rfl, rfl, rfl⟩, HV.out, ht⟩, by simp [intOf]; omega⟩
  · have hin : i = n := by omega
    rw [hin, midR_all hR hx hy] at hV
    have HI := Lib.hid hin; have HV := Lib.hid hV; have HB := Lib.hid hb; have HO := Lib.hid hO
    clear hin hV hb hO
    go_wp2
    go_goals
    go_ret
    exact ⟨rfl, ht.mono fun g _ hg => HBK.out g hg, ⟨_, V, hbase, HB.out, HO.out, HV.out⟩⟩
end Go.Proofs.YtnnnbmkhgcpjoaaDoor
