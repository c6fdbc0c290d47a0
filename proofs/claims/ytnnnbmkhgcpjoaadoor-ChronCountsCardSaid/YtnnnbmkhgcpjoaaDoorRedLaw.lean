/- PLAIN: the reduction as a list; what is said of it is all that holds, and no pair can be left out. -/
import Derived.Test.YtnnnbmkhgcpjoaaDoorPlay
import Derived.Test.YtnnnbmkhgcpjoaaDoorClose
namespace Go.Proofs.YtnnnbmkhgcpjoaaDoor
open Go.RowKit Go.Ab

theorem isR_nat {n : Nat} {R : Bin} {a b : Nat} (ha : a < n) (hb : b < n) : isR n R a b = R a b := by
  have e1 : isEv (n : Int) (a : Int) = true := isEv_true (by omega) (by omega)
  have e2 : isEv (n : Int) (b : Int) = true := isEv_true (by omega) (by omega)
  simp [isR, e1, e2]
theorem freeR_nat {n : Nat} {R : Bin} {a b : Nat} (ha : a < n) (hb : b < n) : freeR n R a b = (!decide (a = b) && !R a b && !R b a) := by
  have e1 : isEv (n : Int) (a : Int) = true := isEv_true (by omega) (by omega)
  have e2 : isEv (n : Int) (b : Int) = true := isEv_true (by omega) (by omega)
  rw [freeR, isR_nat ha hb, isR_nat hb ha, e1, e2]
  by_cases h : a = b
  · simp [h]
  · have : ((a : Int) == (b : Int)) = false := by simp; omega
    simp [h, this]

/-- A pair that a strict order holds can be said on top of others. -/
theorem say_ok {n : Nat} {Q : Bin} (hQ : Rel n Q) {m : List (Nat × Nat)} (hm : ∀ p ∈ m, Q p.1 p.2 = true) {a b : Nat} (hab : Q a b = true) :
    befC n (addL noR m) a b = 0 ∧ befN n (addL noR m) a b = addL noR (m ++ [(a, b)]) := by
  have h := addL_rel hQ m hm
  have hd := hQ.dom _ _ hab
  have e1 : isEv (n : Int) (a : Int) = true := isEv_true (by omega) (by omega)
  have e2 : isEv (n : Int) (b : Int) = true := isEv_true (by omega) (by omega)
  have hne : a ≠ b := fun e => by rw [e, hQ.irr] at hab; cases hab
  have hno : addL noR m b a = false := by
    cases hh : addL noR m b a with
    | false => rfl
    | true => have := hQ.asym hab; rw [h.2 _ _ hh] at this; cases this
  have h0 : befC n (addL noR m) a b = 0 := befC_zero.2 ⟨e1, e2, by omega, by simp [isR, hno]⟩
  refine ⟨h0, ?_⟩
  rw [befN, if_pos h0, addL_snoc]
  rfl

/-- Numbers as ints, pair by pair. -/
def zps (l : List (Nat × Nat)) : List (Int × Int) := l.map fun p => ((p.1 : Int), (p.2 : Int))
/-- The pairs between which nothing is. -/
def covL (n : Nat) (R : Bin) : List (Nat × Nat) := (List.range n).flatMap fun a => ((List.range n).filter fun b => isCov n R a b).map fun b => (a, b)
theorem mem_covL {n : Nat} {R : Bin} (hR : Rel n R) {p : Nat × Nat} : p ∈ covL n R ↔ isCov n R p.1 p.2 = true := by
  simp only [covL, List.mem_flatMap, List.mem_range, List.mem_map, List.mem_filter]
  constructor
  · rintro ⟨a, _, b, ⟨_, h⟩, rfl⟩; exact h
  · intro h
    have h' := h
    rw [isCov, Bool.and_eq_true] at h'
    have := hR.dom _ _ h'.1
    exact ⟨p.1, this.1, p.2, ⟨this.2, h⟩, rfl⟩
theorem covL_R {n : Nat} {R : Bin} (hR : Rel n R) {p : Nat × Nat} (h : p ∈ covL n R) : R p.1 p.2 = true := by
  have := (mem_covL hR).1 h
  rw [isCov, Bool.and_eq_true] at this
  exact this.1
theorem redR_cov (n : Nat) (R : Bin) : redR n R = zps (covL n R) := by
  unfold redR pairsR zps covL
  rw [List.filter_flatMap, List.map_flatMap]
  congr 1
  funext a
  rw [List.filter_map, List.filter_filter, List.map_map]
  congr 1
  apply List.filter_congr
  intro b _
  simp [isCov, Bool.and_comm]
theorem covL_nodup (n : Nat) (R : Bin) : (covL n R).Pairwise fun p q => p ≠ q := by
  unfold covL
  rw [List.pairwise_flatMap]
  constructor
  · intro a _
    rw [List.pairwise_map]
    refine ((List.pairwise_lt_range (n := n)).filter _).imp ?_
    intro x y h e
    have := congrArg Prod.snd e
    simp only [] at this
    omega
  · refine (List.pairwise_lt_range (n := n)).imp ?_
    intro a b h x hx y hy e
    obtain ⟨_, _, rfl⟩ := List.mem_map.1 hx
    obtain ⟨_, _, rfl⟩ := List.mem_map.1 hy
    have := congrArg Prod.fst e
    simp only [] at this
    omega
theorem covL_ne {n : Nat} {R : Bin} {i j : Nat} (hi : i < (covL n R).length) (hj : j < (covL n R).length) (h : i ≠ j) : (covL n R)[i] ≠ (covL n R)[j] := by
  have hp := List.pairwise_iff_getElem.1 (covL_nodup n R)
  rcases Nat.lt_or_gt_of_ne h with h | h
  · exact hp i j hi hj h
  · exact fun e => hp j i hj hi h e.symm
theorem cov_all {n : Nat} {R : Bin} (hR : Rel n R) {l : List (Nat × Nat)} (h : ∀ p, p ∈ l ↔ p ∈ covL n R) : addL noR l = R := by
  have h1 := addL_rel hR l fun p hp => covL_R hR ((h p).1 hp)
  refine Sub.antisymm h1.2 (cov_gen hR h1.1.tr fun a b hab => ?_)
  exact addL_mem l _ (a, b) ((h _).2 ((mem_covL hR).2 hab))
theorem covL_le (n : Nat) (R : Bin) : (covL n R).length ≤ n * n := by
  unfold covL
  rw [List.length_flatMap]
  have : ∀ (l : List Nat), (l.map fun a => ((List.map (fun b => (a, b)) ((List.range n).filter fun b => isCov n R a b))).length).sum ≤ l.length * n := by
    intro l
    induction l with
    | nil => simp
    | cons a l ih =>
      have := List.length_filter_le (fun b => isCov n R a b) (List.range n)
      simp only [List.map_cons, List.sum_cons, List.length_cons, List.length_map, Nat.succ_mul, List.length_range] at *
      omega
  have := this (List.range n)
  simpa using this

theorem pairsR_sub {n : Nat} {S R : Bin} (h : Sub S R) : pairsR n S = (pairsR n R).filter fun p => S p.1.toNat p.2.toNat := by
  unfold pairsR
  rw [List.filter_flatMap]
  congr 1
  funext a
  rw [List.filter_map, List.filter_filter]
  congr 1
  apply List.filter_congr
  intro b _
  cases hs : S a b with
  | false => simp [hs]
  | true => simp [hs, h a b hs]
theorem pairsR_lt {n : Nat} {S R : Bin} (hR : Rel n R) (h : Sub S R) {x y : Nat} (hx : R x y = true) (hy : S x y = false) : (pairsR n S).length < (pairsR n R).length := by
  rw [pairsR_sub h, List.length_filter_lt_length_iff_exists]
  exact ⟨((x : Int), (y : Int)), mem_pairsR.2 ⟨x, y, rfl, (hR.dom _ _ hx).1, (hR.dom _ _ hx).2, hx⟩, by simp [hy]⟩
end Go.Proofs.YtnnnbmkhgcpjoaaDoor
