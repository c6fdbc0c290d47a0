/- chron.Order in memory; its plain methods. -/
import Derived.Test.YtnnnbmkhgcpjoaaDoorEvents
namespace Go.Proofs.YtnnnbmkhgcpjoaaDoor
open Go.RowKit Go.Ab

/-- The cells of a chron.Order. -/
def chCells (mk : Bool) (n : Nat) (bf af : Nat → Nat) : List Value :=
  .bool mk :: .int .i64 n :: ((List.range 64).map (fun i => Value.int .u64 (bf i)) ++ (List.range 64).map (fun i => Value.int .u64 (af i)))

/-- The same as an array; a name that the walk does not open. -/
def ordArr (mk : Bool) (n : Nat) (bf af : Nat → Nat) : Array Value := (chCells mk n bf af).toArray

/-- Block b is a chron.Order. -/
def Ord (w : World) (b : Nat) (mk : Bool) (n : Nat) (bf af : Nat → Nat) : Prop :=
  w.heap[b]? = some (.cells (ordArr mk n bf af) 58 (0, 0))

theorem chCells_length (mk : Bool) (n : Nat) (bf af : Nat → Nat) : (chCells mk n bf af).length = 130 := by simp [chCells]

theorem Ord.get {w : World} {b : Nat} {mk : Bool} {n : Nat} {bf af : Nat → Nat} (h : Ord w b mk n bf af) (o : Nat) :
    w.cell? ⟨b, o, none⟩ = (chCells mk n bf af)[o]? := by
  unfold Ord at h; simp [World.cell?, h, ordArr]
theorem Ord.free {w : World} {b : Nat} {mk : Bool} {n : Nat} {bf af : Nat → Nat} (h : Ord w b mk n bf af) (o : Nat) : w.frozen? ⟨b, o, none⟩ = false := by
  unfold Ord at h; simp [World.frozen?, h]
theorem Ord.made {w : World} {b : Nat} {mk : Bool} {n : Nat} {bf af : Nat → Nat} (h : Ord w b mk n bf af) : w.cell? ⟨b, 0, none⟩ = some (.bool mk) := by
  rw [h.get]; rfl
theorem Ord.n {w : World} {b : Nat} {mk : Bool} {n : Nat} {bf af : Nat → Nat} (h : Ord w b mk n bf af) : w.cell? ⟨b, 1, none⟩ = some (.int .i64 n) := by
  rw [h.get]; rfl
theorem Ord.bf {w : World} {b : Nat} {mk : Bool} {n : Nat} {bf af : Nat → Nat} (h : Ord w b mk n bf af) (i : Nat) (hi : i < 64) : w.cell? ⟨b, 2 + i, none⟩ = some (.int .u64 (bf i)) := by
  rw [h.get, Nat.add_comm]
  simp [chCells, List.getElem?_append, hi]
theorem Ord.af {w : World} {b : Nat} {mk : Bool} {n : Nat} {bf af : Nat → Nat} (h : Ord w b mk n bf af) (i : Nat) (hi : i < 64) : w.cell? ⟨b, 66 + i, none⟩ = some (.int .u64 (af i)) := by
  rw [h.get, show 66 + i = (64 + i) + 1 + 1 by omega]
  simp [chCells, List.getElem?_append, hi]
theorem Ord.keep {S : Nat → Prop} {A B : World} {b : Nat} {mk : Bool} {n : Nat} {bf af : Nat → Nat} (h : Ord A b mk n bf af) (ht : Turn S A B) (hS : ¬ S b) : Ord B b mk n bf af := ht.heap h hS
theorem Ord.lt {w : World} {b : Nat} {mk : Bool} {n : Nat} {bf af : Nat → Nat} (h : Ord w b mk n bf af) : b < w.heap.size := (Array.getElem?_eq_some_iff.1 h).1

/-- f with x's value turned. -/
def upd (f : Nat → Nat) (x v : Nat) : Nat → Nat := fun i => if i = x then v else f i

theorem heap_setCell_row {w : World} {b o : Nat} {cs : Array Value} {t : TypeId} {v : Value} (h : w.heap[b]? = some (.cells cs t (0, 0))) :
    (w.setCell ⟨b, o, none⟩ v).heap[b]? = some (.cells (cs.setIfInBounds o v) t (0, 0)) := by
  simp only [World.setCell, Array.getElem?_modify, h]
  simp

theorem map_set (f : Nat → Nat) (x v : Nat) (g : Nat → Value) (m : Nat) : ((List.range m).map (fun i => g (f i))).set x (g v) = (List.range m).map (fun i => g (upd f x v i)) := by
  apply List.ext_getElem?
  intro i
  simp only [List.getElem?_set, List.getElem?_map, List.length_map, List.length_range, upd]
  by_cases hx : x = i
  · subst hx
    by_cases hm : x < m
    · simp [hm]
    · simp [hm]
  · rw [if_neg hx]
    by_cases hm : i < m
    · simp [hm, Ne.symm hx]
    · simp [hm]

theorem Ord.setAf {w : World} {b : Nat} {mk : Bool} {n : Nat} {bf af : Nat → Nat} (h : Ord w b mk n bf af) (x v : Nat) (hx : x < 64) :
    Ord (w.setCell ⟨b, 66 + x, none⟩ (.int .u64 v)) b mk n bf (upd af x v) := by
  unfold Ord
  rw [heap_setCell_row h]
  congr 2
  unfold ordArr
  rw [List.setIfInBounds_toArray]
  congr 1
  rw [show 66 + x = (64 + x) + 1 + 1 by omega]
  simp only [chCells, List.set_cons_succ]
  rw [List.set_append_right _ _ (by simp)]
  simp only [List.length_map, List.length_range, Nat.add_sub_cancel_left]
  rw [map_set af x v (fun i => Value.int .u64 i) 64]
theorem Ord.setBf {w : World} {b : Nat} {mk : Bool} {n : Nat} {bf af : Nat → Nat} (h : Ord w b mk n bf af) (x v : Nat) (hx : x < 64) :
    Ord (w.setCell ⟨b, 2 + x, none⟩ (.int .u64 v)) b mk n (upd bf x v) af := by
  unfold Ord
  rw [heap_setCell_row h]
  congr 2
  unfold ordArr
  rw [List.setIfInBounds_toArray]
  congr 1
  rw [show 2 + x = x + 1 + 1 by omega]
  simp only [chCells, List.set_cons_succ]
  rw [List.set_append_left _ _ (by simpa using hx)]
  rw [map_set bf x v (fun i => Value.int .u64 i) 64]

/-! ### New, Len, event, Is, Free -/

theorem ordArr_size (mk : Bool) (n : Nat) (bf af : Nat → Nat) : (ordArr mk n bf af).size = 130 := by simp [ordArr, chCells]
theorem ordArr_ne (mk : Bool) (n : Nat) (bf af : Nat → Nat) : (ordArr mk n bf af = #[]) = False := by
  apply eq_false; intro h; have := ordArr_size mk n bf af; rw [h] at this; simp at this
theorem zero_ord (w : World) : (zeroValue 58).run Tryd.prog w = .ok (.agg (ordArr false 0 (fun _ => 0) (fun _ => 0))) w := by kernel_rfl
theorem ordArr_build (n : Nat) : ((ordArr false 0 (fun _ => 0) (fun _ => 0)).setIfInBounds 0 (.bool true)).setIfInBounds 1 (.int .i64 n) = ordArr true n (fun _ => 0) (fun _ => 0) := by
  simp [ordArr, chCells]

set_option maxRecDepth 100000 in
theorem new_ok (n : Nat) (hn : n ≤ 64) (w : World) :
    Calls Tryd.prog 15 #[.int .i64 n] w fun e w' => e = .returned (.tuple #[.pointer (some ⟨w.heap.size, 0, none⟩), .int .i64 0]) ∧ Ext w w' ∧ Ord w' w.heap.size true n (fun _ => 0) (fun _ => 0) := by
  have z1 := zero_ord
  have z2 := ordArr_size false 0 (fun _ => 0) (fun _ => 0)
  have z3 := ordArr_ne false 0 (fun _ => 0) (fun _ => 0)
  have z4 := ordArr_build n
  go_enter Tryd.func15, Tryd.ntmps15
  go_wp2
  go_ret2
  exact ⟨rfl, (Turn.refl _ _).alloc _, World.alloc_heap_new _ _⟩

theorem new_bad (n : Int) (hn : n < 0 ∨ 64 < n) (w : World) :
    Calls Tryd.prog 15 #[.int .i64 n] w fun e w' => e = .returned (.tuple #[.pointer none, .int .i64 2]) ∧ w = w' := by
  rcases hn with h | h
  · go_enter Tryd.func15, Tryd.ntmps15
    go_wp2
    go_ret2
    exact ⟨rfl, rfl⟩
  · have h' : ¬ n < 0 := by omega
    go_enter Tryd.func15, Tryd.ntmps15
    go_wp2
    go_ret2
    exact ⟨rfl, rfl⟩

theorem len_any (b : Nat) (n : Int) (w : World) (h1 : w.cell? ⟨b, 1, none⟩ = some (.int .i64 n)) :
    Calls Tryd.prog 37 #[.pointer (some ⟨b, 0, none⟩)] w fun e w' => e = .returned (.int .i64 n) ∧ w = w' := by
  go_enter Tryd.func37, Tryd.ntmps37
  go_wp2
  go_ret
  exact ⟨rfl, rfl⟩
theorem len_nil (w : World) :
    Calls Tryd.prog 37 #[.pointer none] w fun e w' => e = .returned (.int .i64 0) ∧ w = w' := by
  go_enter Tryd.func37, Tryd.ntmps37
  go_wp2
  go_ret
  exact ⟨rfl, rfl⟩

/-- Is a an event? -/
def isEv (n a : Int) : Bool := decide (0 ≤ a) && decide (a < n)
theorem isEv_true {n a : Int} (h0 : 0 ≤ a) (h : a < n) : isEv n a = true := by simp [isEv, h0, h]
theorem isEv_iff {n a : Int} : isEv n a = true ↔ 0 ≤ a ∧ a < n := by simp [isEv]
theorem isEv_not {n a : Int} (h : ¬ (0 ≤ a ∧ a < n)) : isEv n a = false := by
  cases h' : isEv n a with
  | false => rfl
  | true => exact absurd (isEv_iff.1 h') h

theorem event_any (b : Nat) (n a : Int) (w : World) (h1 : w.cell? ⟨b, 1, none⟩ = some (.int .i64 n)) :
    Calls Tryd.prog 38 #[.pointer (some ⟨b, 0, none⟩), .int .i64 a] w fun e w' => e = .returned (.bool (isEv n a)) ∧ w = w' := by
  by_cases h0 : 0 ≤ a
  · go_enter Tryd.func38, Tryd.ntmps38
    go_wp2_with (go_at_call 37; refine (len_any b n w h1).mono ?_; rintro e w' ⟨rfl, rfl⟩)
    go_ret
    exact ⟨ret_bool (by simp [isEv, h0]), rfl⟩
  · have h' : a < 0 := by omega
    go_enter Tryd.func38, Tryd.ntmps38
    go_wp2_with (go_at_call 37; refine (len_any b n w h1).mono ?_; rintro e w' ⟨rfl, rfl⟩)
    go_ret
    exact ⟨ret_bool (isEv_not (by omega)).symm, rfl⟩
theorem event_nil (a : Int) (w : World) :
    Calls Tryd.prog 38 #[.pointer none, .int .i64 a] w fun e w' => e = .returned (.bool false) ∧ w = w' := by
  by_cases h0 : 0 ≤ a
  · go_enter Tryd.func38, Tryd.ntmps38
    go_wp2_with (go_at_call 37; refine (len_nil w).mono ?_; rintro e w' ⟨rfl, rfl⟩)
    go_ret
    simp [h0]
  · have h' : a < 0 := by omega
    go_enter Tryd.func38, Tryd.ntmps38
    go_wp2_with (go_at_call 37; refine (len_nil w).mono ?_; rintro e w' ⟨rfl, rfl⟩)
    go_ret
    exact ⟨rfl, rfl⟩

theorem shr_bit (v y : Nat) (hv : v < 18446744073709551616) : (bits .and .u64 ((v : Int) / 2 ^ y) 1 == 1) = v.testBit y := by
  have e : ((v : Int) / 2 ^ y) = ((v / 2 ^ y : Nat) : Int) := by simp
  have h1 : v / 2 ^ y ≤ v := Nat.div_le_self _ _
  have e1 : (1 : Int) = ((1 : Nat) : Int) := rfl
  rw [e, e1, u64_and_nat _ _ (by omega) (by decide), Nat.and_one_is_mod, Nat.testBit_eq_decide_div_mod_eq]
  by_cases h : v / 2 ^ y % 2 = 1
  · rw [h]; simp
  · have : v / 2 ^ y % 2 = 0 := by omega
    rw [this]; simp

/-- Was x before y? -/
def isB (n : Nat) (af : Nat → Nat) (x y : Int) : Bool := isEv n x && isEv n y && (af x.toNat).testBit y.toNat

/-- The numbers of a chron.Order fit. -/
def Fits (n : Nat) (bf af : Nat → Nat) : Prop := n ≤ 64 ∧ (∀ i, bf i < 18446744073709551616) ∧ (∀ i, af i < 18446744073709551616)

theorem is_any (b : Nat) (mk : Bool) (n : Nat) (bf af : Nat → Nat) (w : World) (ho : Ord w b mk n bf af) (hf : Fits n bf af) (x y : Int) :
    Calls Tryd.prog 31 #[.pointer (some ⟨b, 0, none⟩), .int .i64 x, .int .i64 y] w fun e w' => e = .returned (.bool (isB n af x y)) ∧ w = w' := by
  have hn := ho.n
  have hn64 := hf.1
  by_cases hx : 0 ≤ x ∧ x < n
  · by_cases hy : 0 ≤ y ∧ y < n
    · have e1 := isEv_true hx.1 hx.2
      have e2 := isEv_true hy.1 hy.2
      obtain ⟨x, rfl⟩ := Int.eq_ofNat_of_zero_le hx.1
      obtain ⟨y, rfl⟩ := Int.eq_ofNat_of_zero_le hy.1
      have hx1 : (x : Int) < 64 := by omega
      have hy1 : (y : Int) < 64 := by omega
      have hc := ho.af x (by omega)
      have hb := shr_bit (af x) y (hf.2.2 x)
      have hr : isB n af x y = (af x).testBit y := by simp [isB, e1, e2]
      go_enter Tryd.func31, Tryd.ntmps31
      go_wp2_with (go_at_call 38; refine (event_any b n _ w hn).mono ?_; rintro e w' ⟨rfl, rfl⟩)
      go_ret
      exact ⟨ret_bool hr.symm, rfl⟩
    · have e1 := isEv_true hx.1 hx.2
      have e2 := isEv_not hy
      have hr : isB n af x y = false := by simp [isB, e1, e2]
      go_enter Tryd.func31, Tryd.ntmps31
      go_wp2_with (go_at_call 38; refine (event_any b n _ w hn).mono ?_; rintro e w' ⟨rfl, rfl⟩)
      go_ret
      exact ⟨ret_bool hr.symm, rfl⟩
  · have e1 := isEv_not hx
    have hr : isB n af x y = false := by simp [isB, e1]
    go_enter Tryd.func31, Tryd.ntmps31
    go_wp2_with (go_at_call 38; refine (event_any b n _ w hn).mono ?_; rintro e w' ⟨rfl, rfl⟩)
    go_ret
    exact ⟨ret_bool hr.symm, rfl⟩

theorem is_nil (x y : Int) (w : World) :
    Calls Tryd.prog 31 #[.pointer none, .int .i64 x, .int .i64 y] w fun e w' => e = .returned (.bool false) ∧ w = w' := by
  go_enter Tryd.func31, Tryd.ntmps31
  go_wp2_with (go_at_call 38; refine (event_nil _ w).mono ?_; rintro e w' ⟨rfl, rfl⟩)
  go_ret
  exact ⟨rfl, rfl⟩

/-- Is the order of x and y not known? -/
def freeB (n : Nat) (af : Nat → Nat) (x y : Int) : Bool := isEv n x && isEv n y && !(x == y) && !isB n af x y && !isB n af y x

theorem free_any (b : Nat) (mk : Bool) (n : Nat) (bf af : Nat → Nat) (w : World) (ho : Ord w b mk n bf af) (hf : Fits n bf af) (x y : Int) :
    Calls Tryd.prog 33 #[.pointer (some ⟨b, 0, none⟩), .int .i64 x, .int .i64 y] w fun e w' => e = .returned (.bool (freeB n af x y)) ∧ w = w' := by
  have hn := ho.n
  go_enter Tryd.func33, Tryd.ntmps33
  go_wp2_with (first | (go_at_call 38; refine (event_any b n _ w hn).mono ?_; rintro e w' ⟨rfl, rfl⟩) | (go_at_call 31; refine (is_any b mk n bf af w ho hf _ _).mono ?_; rintro e w' ⟨rfl, rfl⟩))
  all_goals (go_ret; exact ⟨ret_bool (by simp_all [freeB, bne]), rfl⟩)
end Go.Proofs.YtnnnbmkhgcpjoaaDoor
