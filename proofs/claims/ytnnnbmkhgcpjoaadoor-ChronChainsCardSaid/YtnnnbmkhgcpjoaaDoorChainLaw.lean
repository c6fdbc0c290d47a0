/- PLAIN: chains: each event before the next one; events without relations. -/
import Derived.Test.YtnnnbmkhgcpjoaaDoorLevLaw
import Derived.Test.YtnnnbmkhgcpjoaaDoorAddLaw
namespace Go.Proofs.YtnnnbmkhgcpjoaaDoor
open Go.RowKit Go.Ab

/-- The first k events, each before the next one. -/
def chR (k : Nat) : Bin := fun a b => decide (a < b) && decide (b < k)
theorem chR_zero : chR 0 = noR := by funext a b; simp [chR, noR]
theorem chR_one : chR 1 = noR := by funext a b; simp [chR, noR]; omega
theorem chR_step (k : Nat) : addR (chR (k + 1)) k (k + 1) = chR (k + 2) := by
  funext a b
  apply Bool.eq_iff_iff.2
  simp only [addR, chR, Bool.or_eq_true, Bool.and_eq_true, decide_eq_true_eq, beq_iff_eq]
  omega
theorem chR_rel {n k : Nat} (h : k ≤ n) : Rel n (chR k) := by
  constructor
  · intro a b h; simp [chR] at h; omega
  · intro a; simp [chR]
  · intro a b c h1 h2; simp [chR] at *; omega
theorem chR_bef {n k : Nat} (h : k + 1 < n) : befC n (chR (k + 1)) (k : Nat) ((k + 1 : Nat) : Int) = 0 := by
  refine befC_zero.2 ⟨isEv_true (by omega) (by omega), isEv_true (by omega) (by omega), by omega, ?_⟩
  rw [isR_nat (by omega) (by omega)]
  simp [chR]

theorem cnt_free (n : Nat) : ∀ (k s : Nat), miss n s = k → cnt n noR k s = fact k
  | 0, _, _ => rfl
  | k + 1, s, h => by
    have hr : ∀ s x, readyS n noR s x = true := fun s x => by simp [readyS, noR]
    have hc : ∀ x ∈ (List.range n).filter (fun x => !s.testBit x), (if readyS n noR s x then cnt n noR k (s ||| 2 ^ x) else 0) = fact k := by
      intro x hx
      rw [List.mem_filter, List.mem_range] at hx
      have := miss_add hx.1 (by simpa using hx.2)
      rw [hr, if_pos rfl, cnt_free n k _ (by omega)]
    rw [cnt_succ, List.map_congr_left hc]
    have e : ((List.range n).filter fun x => !s.testBit x).length = k + 1 := by rw [← List.countP_eq_length_filter]; exact h
    rw [List.map_const', List.sum_replicate_nat, e]; rfl
theorem count_free (n : Nat) : countR n noR = fact n := cnt_free n n 0 (miss_zero n)

/-- What a chain of m events shows. -/
def chainOk (m : Nat) : Bool :=
  decide (countR m (chR m) = 1) && decide ((List.range m).map (levF m (chR m) (firstL m (chR m))) = List.range m) && decide (firstL m (chR m) = List.range m) && decide (firstL m noR = List.range m) &&
  decide ((pairsR m noR).length = 0) && decide ((pairsR m (chR m)).length = m * (m - 1) / 2)
theorem chain_all : ∀ m, m ≤ 16 → chainOk m = true := by
  have : (List.range 17).all chainOk = true := by decide +kernel
  intro m hm
  exact List.all_eq_true.1 this m (List.mem_range.2 (by omega))

/-- The order with two neighbours exchanged. -/
def swapL (m i : Nat) : List Nat := ((List.range m).set i (i + 1)).set (i + 1) i
def swapOk (m i : Nat) : Bool := decide (allowsR m (chR m) (zs (swapL m i)) = (false, 0)) && decide (allowsR m noR (zs (swapL m i)) = (true, 0))
theorem swap_all : ∀ m i, m ≤ 16 → i + 1 < m → swapOk m i = true := by
  have : ((List.range 17).all fun m => (List.range (m - 1)).all fun i => swapOk m i) = true := by decide +kernel
  intro m i hm hi
  exact List.all_eq_true.1 (List.all_eq_true.1 this m (List.mem_range.2 (by omega))) i (List.mem_range.2 (by omega))
end Go.Proofs.YtnnnbmkhgcpjoaaDoor
