/- chron.Order.Before, whole. -/
import Derived.Test.YtnnnbmkhgcpjoaaDoorBefore
import Derived.Test.YtnnnbmkhgcpjoaaDoorFirst
import Derived.Test.YtnnnbmkhgcpjoaaDoorReduced
namespace Go.Proofs.YtnnnbmkhgcpjoaaDoor
open Go.RowKit Go.Ab
attribute [local go_sem] Oper.semAt_some wide_fn wide_depth

set_option maxHeartbeats 4000000 in
theorem before_bad (b : Nat) (n : Nat) (bf af : Nat → Nat) (w : World) (ho : Ord w b true n bf af) (hf : Fits n bf af) (x y : Int) (r : Int)
    (hr : ((isEv n x && isEv n y) = false ∧ r = 3) ∨ (isEv n x = true ∧ isEv n y = true ∧ ((x == y) || isB n af y x) = true ∧ r = 9)) :
    Calls Tryd.prog 17 #[.pointer (some ⟨b, 0, none⟩), .int .i64 x, .int .i64 y] w fun e w' => e = .returned (.int .i64 r) ∧ Ext w w' := by
  have hlt := ho.lt
  have ho1 : Ord (w.alloc (.cells #[.pointer (some ⟨b, 0, none⟩)] 25)) b true n bf af := ho.keep ((Turn.refl (fun _ => False) w).alloc _) id
  have hm := ho.made
  refine calls_of_wp_marks Tryd.func17 rfl ?_
  simp only [Tryd.ntmps17, List.size_toArray, List.length_cons, List.length_nil, Nat.reduceAdd, Nat.reduceSub, Array.replicate_succ, Array.replicate_zero, List.push_toArray, List.append_toArray, List.nil_append, List.cons_append]
  rcases hr with ⟨h1, rfl⟩ | ⟨e1, e2, h1, rfl⟩
  · have h2 : isEv n x = false ∨ (isEv n x = true ∧ isEv n y = false) := by
      revert h1; cases isEv n x <;> cases isEv n y <;> simp
    clear h1
    rcases h2 with e1 | ⟨e1, e2⟩
    · go_wp2_with (go_at_call 38; refine (event_any b n _ _ ho1.n).mono ?_; rintro e w' ⟨rfl, rfl⟩)
      go_goals
      refine bodyPostM_ret (base := w.heap.size) trivial (fun w' => results_tmp rfl _ _ _) ?_
      intro w' h1 _
      exact ⟨rfl, Turn.after ((Turn.refl (fun _ => False) w).alloc _) h1 fun b' h2 h3 => by have := h3.1; omega⟩
    · go_wp2_with (go_at_call 38; refine (event_any b n _ _ ho1.n).mono ?_; rintro e w' ⟨rfl, rfl⟩)
      go_goals
      refine bodyPostM_ret (base := w.heap.size) trivial (fun w' => results_tmp rfl _ _ _) ?_
      intro w' h1 _
      exact ⟨rfl, Turn.after ((Turn.refl (fun _ => False) w).alloc _) h1 fun b' h2 h3 => by have := h3.1; omega⟩
  · have h2 : (x == y) = true ∨ ((x == y) = false ∧ isB n af y x = true) := by
      revert h1; cases (x == y) <;> cases isB n af y x <;> simp
    clear h1
    rcases h2 with e3 | ⟨e3, e4⟩
    all_goals
      go_wp2_with (first | (go_at_call 38; refine (event_any b n _ _ ho1.n).mono ?_; rintro e w' ⟨rfl, rfl⟩) | (go_at_call 31; refine (is_any b true n bf af _ ho1 hf _ _).mono ?_; rintro e w' ⟨rfl, rfl⟩))
      go_goals
      refine bodyPostM_ret (base := w.heap.size) trivial (fun w' => results_tmp rfl _ _ _) ?_
      intro w' h1 _
      exact ⟨rfl, Turn.after ((Turn.refl (fun _ => False) w).alloc _) h1 fun b' h2 h3 => by have := h3.1; omega⟩

/-! ### What is shown of an order, by its relation -/

def isR (n : Nat) (R : Nat → Nat → Bool) (x y : Int) : Bool := isEv n x && isEv n y && R x.toNat y.toNat
theorem isB_R (n : Nat) (R : Nat → Nat → Bool) (x y : Int) : isB n (afR n R) x y = isR n R x y := by
  unfold isB isR
  cases h1 : isEv n x
  · simp
  · cases h2 : isEv n y
    · simp
    · have := isEv_iff.1 h2
      simp only [Bool.true_and, afR, testBit_mask]
      simp; omega
def freeR (n : Nat) (R : Nat → Nat → Bool) (x y : Int) : Bool := isEv n x && isEv n y && !(x == y) && !isR n R x y && !isR n R y x
theorem freeB_R (n : Nat) (R : Nat → Nat → Bool) (x y : Int) : freeB n (afR n R) x y = freeR n R x y := by
  unfold freeB freeR; rw [isB_R, isB_R]
/-- What Before returns. -/
def befC (n : Nat) (R : Nat → Nat → Bool) (x y : Int) : Int := if isEv n x && isEv n y then (if x == y || isR n R y x then 9 else 0) else 3
/-- The relation behind Before. -/
def befN (n : Nat) (R : Nat → Nat → Bool) (x y : Int) : Nat → Nat → Bool := if befC n R x y = 0 then addR R x.toNat y.toNat else R

theorem befC_zero {n : Nat} {R : Nat → Nat → Bool} {x y : Int} : befC n R x y = 0 ↔ isEv n x = true ∧ isEv n y = true ∧ x ≠ y ∧ isR n R y x = false := by
  unfold befC
  cases isEv n x <;> cases isEv n y <;> simp
theorem befN_rel {n : Nat} {R : Nat → Nat → Bool} (h : Rel n R) (x y : Int) : Rel n (befN n R x y) := by
  unfold befN
  split
  · rename_i h0
    obtain ⟨h1, h2, h3, h4⟩ := befC_zero.1 h0
    have h1' := isEv_iff.1 h1
    have h2' := isEv_iff.1 h2
    refine addR_rel h (by omega) (by omega) (by omega) ?_
    simpa [isR, h1, h2] using h4
  · exact h

theorem before_R (b n : Nat) (R : Nat → Nat → Bool) (hn : n ≤ 64) (hR : Rel n R) (w : World) (ho : OrdR w b n R) (hT : Tab w) (hbt : b ≠ 0) (x y : Int) :
    Calls Tryd.prog 17 #[.pointer (some ⟨b, 0, none⟩), .int .i64 x, .int .i64 y] w fun e w' => e = .returned (.int .i64 (befC n R x y)) ∧ Turn (· = b) w w' ∧ OrdR w' b n (befN n R x y) := by
  have hf := fitsR hn R
  by_cases h0 : befC n R x y = 0
  · obtain ⟨h1, h2, h3, h4⟩ := befC_zero.1 h0
    have h1' := isEv_iff.1 h1
    have h2' := isEv_iff.1 h2
    obtain ⟨x, rfl⟩ := Int.eq_ofNat_of_zero_le h1'.1
    obtain ⟨y, rfl⟩ := Int.eq_ofNat_of_zero_le h2'.1
    have hl : (afR n R y).testBit x = false := by
      have := isB_R n R y x
      rw [h4, isB, h1, h2] at this
      simpa using this
    refine (before_ok b n _ _ w ho hf hT hbt x y (by omega) (by omega) (by omega) hl).mono ?_
    rintro e w' ⟨rfl, ht, ho'⟩
    refine ⟨by rw [h0], ht, ?_⟩
    rw [addR_bf hn hR (by omega) (by omega), addR_af hn hR (by omega) (by omega)] at ho'
    rw [befN, if_pos h0]
    exact ho'
  · have hr : ((isEv n x && isEv n y) = false ∧ befC n R x y = 3) ∨ (isEv n x = true ∧ isEv n y = true ∧ ((x == y) || isB n (afR n R) y x) = true ∧ befC n R x y = 9) := by
      rw [isB_R]
      unfold befC at h0 ⊢
      cases h1 : isEv n x <;> cases h2 : isEv n y <;> simp_all
      by_cases hxy : x = y
      · exact .inl hxy
      · exact .inr (h0 hxy)
    refine (before_bad b n _ _ w ho hf x y _ hr).mono ?_
    rintro e w' ⟨rfl, ht⟩
    refine ⟨rfl, ht.of, ?_⟩
    rw [befN, if_neg h0]
    exact ho.keep ht id

theorem is_R (b n : Nat) (R : Nat → Nat → Bool) (hn : n ≤ 64) (w : World) (ho : OrdR w b n R) (x y : Int) :
    Calls Tryd.prog 31 #[.pointer (some ⟨b, 0, none⟩), .int .i64 x, .int .i64 y] w fun e w' => e = .returned (.bool (isR n R x y)) ∧ w = w' := by
  have := is_any b true n _ _ w ho (fitsR hn R) x y
  rwa [isB_R] at this
theorem free_R (b n : Nat) (R : Nat → Nat → Bool) (hn : n ≤ 64) (w : World) (ho : OrdR w b n R) (x y : Int) :
    Calls Tryd.prog 33 #[.pointer (some ⟨b, 0, none⟩), .int .i64 x, .int .i64 y] w fun e w' => e = .returned (.bool (freeR n R x y)) ∧ w = w' := by
  have := free_any b true n _ _ w ho (fitsR hn R) x y
  rwa [freeB_R] at this

theorem new_R (n : Nat) (hn : n ≤ 64) (w : World) :
    Calls Tryd.prog 15 #[.int .i64 n] w fun e w' => e = .returned (.tuple #[.pointer (some ⟨w.heap.size, 0, none⟩), .int .i64 0]) ∧ Ext w w' ∧ OrdR w' w.heap.size n (fun _ _ => false) := by
  refine (new_ok n hn w).mono ?_
  rintro e w' ⟨rfl, h1, h2⟩
  refine ⟨rfl, h1, ?_⟩
  have e1 : bfR n (fun _ _ => false) = fun _ => 0 := by funext x; exact mask_zero n
  have e2 : afR n (fun _ _ => false) = fun _ => 0 := by funext x; exact mask_zero n
  rw [OrdR, e1, e2]; exact h2

/-- The relations, in their order. -/
def pairsR (n : Nat) (R : Nat → Nat → Bool) : List (Int × Int) := (List.range n).flatMap fun a => ((List.range n).filter (R a)).map fun (b : Nat) => ((a : Int), (b : Int))
theorem pairsL_R {n : Nat} (hn : n ≤ 64) (R : Nat → Nat → Bool) : pairsL n (afR n R) = pairsR n R := by
  unfold pairsL pairsR
  congr 1
  funext a
  rw [afR, evs_mask n hn]
/-- What follows from no others. -/
def redR (n : Nat) (R : Nat → Nat → Bool) : List (Int × Int) := (pairsR n R).filter fun p => (List.range n).all fun c => !(R p.1.toNat c && R c p.2.toNat)
theorem mem_pairsR {n : Nat} {R : Nat → Nat → Bool} {p : Int × Int} : p ∈ pairsR n R ↔ ∃ a b : Nat, p = ((a : Int), (b : Int)) ∧ a < n ∧ b < n ∧ R a b = true := by
  simp only [pairsR, List.mem_flatMap, List.mem_range, List.mem_map, List.mem_filter]
  constructor
  · rintro ⟨a, ha, b, ⟨hb, hr⟩, rfl⟩; exact ⟨a, b, rfl, ha, hb, hr⟩
  · rintro ⟨a, b, rfl, ha, hb, hr⟩; exact ⟨a, ha, b, ⟨hb, hr⟩, rfl⟩
theorem reducedL_R {n : Nat} (hn : n ≤ 64) (R : Nat → Nat → Bool) : reducedL n (bfR n R) (afR n R) = redR n R := by
  unfold reducedL redR
  rw [pairsL_R hn]
  apply List.filter_congr
  intro p _
  unfold noneB bfR afR
  rw [mask_and]
  apply Bool.eq_iff_iff.2
  rw [beq_iff_eq, List.all_eq_true]
  constructor
  · intro h c hc
    rw [mask_eq_zero h c (List.mem_range.1 hc)]; rfl
  · intro h
    rw [mask_congr (q := fun _ => false) (fun c hc => by rw [← Bool.not_eq_true', h c (List.mem_range.2 hc)]), mask_zero]

theorem pairs_R (b n : Nat) (R : Nat → Nat → Bool) (hn : n ≤ 64) (w : World) (ho : OrdR w b n R) (hT : Tab w) :
    Calls Tryd.prog 28 #[.pointer (some ⟨b, 0, none⟩)] w fun e w' => ∃ v, e = .returned v ∧ Ext w w' ∧ w'.ownsRow w.heap.size 33 2 v (pairsR n R).length (prs (pairsR n R)) := by
  have := pairs_any b true n _ _ w ho (fitsR hn R) hT
  rwa [pairsL_R hn] at this
theorem reduced_R (b n : Nat) (R : Nat → Nat → Bool) (hn : n ≤ 64) (w : World) (ho : OrdR w b n R) (hT : Tab w) :
    Calls Tryd.prog 25 #[.pointer (some ⟨b, 0, none⟩)] w fun e w' => ∃ v, e = .returned v ∧ Ext w w' ∧ w'.ownsRow w.heap.size 33 2 v (redR n R).length (prs (redR n R)) := by
  have := reduced_any b true n _ _ w ho (fitsR hn R) hT
  rwa [reducedL_R hn] at this
end Go.Proofs.YtnnnbmkhgcpjoaaDoor
