/- PLAIN: the reference's loop over the times of a repeated pattern; relations as rows of bits. -/
import Derived.Test.YtapfoaiibjdfnaaDoorPatRel
import Derived.Test.YtapfoaiibjdfnaaDoorBits
namespace Go.Ab

/-- What the loop has, ahead of the round k. -/
def outK (X : Bin2) (n lo k : Nat) : Bin2 := if k ≤ lo then noB else sumB X n lo (k - lo - 1)
theorem outK_zero (X : Bin2) (n lo : Nat) : outK X n lo 0 = noB := by unfold outK; rw [if_pos (Nat.zero_le _)]
theorem outK_skip (X : Bin2) (n : Nat) {lo k : Nat} (h : k < lo) : outK X n lo (k + 1) = outK X n lo k := by
  unfold outK; rw [if_pos (by omega), if_pos (by omega)]
theorem outK_step (X : Bin2) (n : Nat) {lo k : Nat} (h : lo ≤ k) : orB (outK X n lo k) (powB X n k) = outK X n lo (k + 1) := by
  unfold outK
  rw [if_neg (by omega : ¬ k + 1 ≤ lo)]
  by_cases e : k ≤ lo
  · obtain rfl : k = lo := by omega
    rw [if_pos (Nat.le_refl _), no_orB, show k + 1 - k - 1 = 0 by omega]; rfl
  · rw [if_neg e, show k + 1 - lo - 1 = (k - lo - 1) + 1 by omega]
    show _ = orB _ (powB X n (lo + (k - lo - 1 + 1)))
    rw [show lo + (k - lo - 1 + 1) = k by omega]
theorem outK_mono {n : Nat} {X : Bin2} (h : Mono n X) (lo k : Nat) : Mono n (outK X n lo k) := by
  unfold outK; split
  · exact Mono.no n
  · exact Mono.sum h _ _
theorem outK_max (X : Bin2) (n : Nat) {mn mx : Int} {k : Nat} (h0 : 0 ≤ mn) (h1 : mn ≤ mx) (hk : (k : Int) = mx) : outK X n mn.toNat (k + 1) = sumB X n mn.toNat (extra n mn mx) := by
  unfold outK extra
  rw [if_neg (by omega), if_neg (by omega)]
  congr 1; omega
theorem outK_stable {n : Nat} (hn : n ≤ 32) {X : Bin2} (h : Mono n X) {mn mx : Int} {k : Nat} (h0 : 0 ≤ mn) (_h1 : mx = -1 ∨ mn ≤ mx) (hk : mn < k) (hx : mx = -1 ∨ (k : Int) ≤ mx) (he : outK X n mn.toNat k = outK X n mn.toNat (k + 1)) :
    outK X n mn.toNat (k + 1) = sumB X n mn.toNat (extra n mn mx) := by
  rw [← he]
  have e1 : outK X n mn.toNat k = sumB X n mn.toNat (k - mn.toNat - 1) := by unfold outK; rw [if_neg (by omega)]
  have e2 : outK X n mn.toNat (k + 1) = sumB X n mn.toNat (k - mn.toNat - 1 + 1) := by
    unfold outK; rw [if_neg (by omega)]; congr 1; omega
  rw [e1]
  have hs : sumB X n mn.toNat (k - mn.toNat - 1 + 1) = sumB X n mn.toNat (k - mn.toNat - 1) := by rw [← e2, ← he, e1]
  unfold extra
  by_cases hx0 : mx < 0
  · rw [if_pos hx0]
    by_cases hfar : n ≤ k - mn.toNat - 1
    · exact sum_far hn h _ _ hfar
    · exact (sum_stable hn h hs n (by omega)).symm
  · rw [if_neg hx0]
    exact (sum_stable hn h hs _ (by omega)).symm
theorem outK_far {n : Nat} (hn : n ≤ 32) {X : Bin2} (h : Mono n X) {lo k : Nat} (hk : lo + n + 1 ≤ k) : outK X n lo k = outK X n lo (k + 1) := by
  unfold outK
  rw [if_neg (by omega), if_neg (by omega), sum_far hn h lo (k - lo - 1) (by omega), sum_far hn h lo (k + 1 - lo - 1) (by omega)]

/-! ### Rows of bits -/

def rowM (X : Bin2) (a : Nat) : Nat := mask 33 (X a)
theorem rowM_inj {n : Nat} (hn : n ≤ 32) {X Y : Bin2} (hX : Mono n X) (hY : Mono n Y) (h : ∀ a, a ≤ n → rowM X a = rowM Y a) : X = Y := by
  apply bin_ext; intro a b
  constructor
  · intro hh
    have h1 := hX _ _ hh
    have := congrArg (fun v => Nat.testBit v b) (h a (by omega))
    simp only [rowM, testBit_mask] at this
    rw [hh] at this
    simp only [show b < 33 by omega, decide_true, Bool.true_and] at this
    exact this.symm
  · intro hh
    have h1 := hY _ _ hh
    have := congrArg (fun v => Nat.testBit v b) (h a (by omega))
    simp only [rowM, testBit_mask] at this
    rw [hh] at this
    simp only [show b < 33 by omega, decide_true, Bool.true_and] at this
    exact this
theorem rowM_out {n : Nat} {X : Bin2} (hX : Mono n X) {a : Nat} (h : n < a) : rowM X a = 0 := by
  have : X a = fun _ => false := by
    funext b
    cases hh : X a b with
    | false => rfl
    | true => have := hX _ _ hh; omega
  rw [rowM, this, mask_zero]
theorem rowM_or (X Y : Bin2) (a : Nat) : rowM X a ||| rowM Y a = rowM (orB X Y) a := by
  unfold rowM; rw [mask_or]; rfl
theorem rowM_no (a : Nat) : rowM noB a = 0 := mask_zero 33
theorem rowM_id {n a : Nat} (hn : n ≤ 32) (h : a ≤ n) : rowM (idB n) a = 2 ^ a := by
  rw [two_pow_mask (n := 33) (by omega)]
  exact mask_congr fun i _ => by
    apply Bool.eq_iff_iff.2
    rw [idB_iff, beq_iff_eq]
    omega
theorem rowM_bit (X : Bin2) {a b : Nat} (hb : b < 33) : (rowM X a).testBit b = X a b := by
  rw [rowM, testBit_mask]; simp [hb]

/-- The part of a row that has been collected over these places. -/
def partB (Y : Bin2) (pre : List Nat) : Nat := mask 33 fun c => pre.any fun b => Y b c
theorem partB_nil (Y : Bin2) : partB Y [] = 0 := mask_zero 33
theorem partB_snoc (Y : Bin2) (pre : List Nat) (b : Nat) : partB Y (pre ++ [b]) = partB Y pre ||| rowM Y b := by
  unfold partB rowM
  rw [mask_or]
  exact mask_congr fun i _ => by simp
theorem partB_all (X Y : Bin2) (a : Nat) : partB Y ((List.range 33).filter (X a)) = rowM (comp X Y) a := by
  unfold partB rowM comp
  exact mask_congr fun i _ => by rw [List.any_filter]
theorem evs_rowM (X : Bin2) (a : Nat) : evs (rowM X a) = (List.range 33).filter (X a) := evs_mask 33 (by decide) _
theorem partB_upto {n : Nat} (hn : n ≤ 32) {X : Bin2} (hX : Mono n X) (Y : Bin2) (a : Nat) : partB Y ((List.range (n + 1)).filter (X a)) = rowM (comp X Y) a := by
  rw [← partB_all]
  congr 1
  have h33 : 33 = (n + 1) + (32 - n) := by omega
  have e : ((List.range (32 - n)).map (fun x => n + 1 + x)).filter (X a) = [] := by
    rw [List.filter_eq_nil_iff]
    intro b hb hh
    obtain ⟨j, _, rfl⟩ := List.mem_map.1 hb
    have := hX _ _ hh; omega
  have e2 : List.range 33 = List.range (n + 1) ++ (List.range (32 - n)).map (fun x => n + 1 + x) := by
    rw [← List.range_add]; exact congrArg _ h33
  rw [e2, List.filter_append, e, List.append_nil]
theorem filter_snoc (p : Nat → Bool) (b : Nat) : (List.range (b + 1)).filter p = (List.range b).filter p ++ (if p b = true then [b] else []) := by
  rw [List.range_succ, List.filter_append]
  congr 1
  by_cases h : p b = true <;> simp [h]
end Go.Ab
