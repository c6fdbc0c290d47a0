/- ablautlaw13.ChronAdds: the walk. -/
import Derived.Test.YtnnnbmkhgcpjoaaDoorSaid
import Derived.Test.YtnnnbmkhgcpjoaaDoorAddLaw
import Derived.Test.YtnnnbmkhgcpjoaaDoorArgs
namespace Go.Proofs.YtnnnbmkhgcpjoaaDoor
open Go.RowKit Go.Ab

set_option maxRecDepth 100000 in
set_option maxHeartbeats 8000000 in
theorem adds_law (w : World) (hT : Tab w) (n : Nat) (hn : n < 256) (v : Value) (l : List (Nat × Nat)) (hv : Rd w v l.length 2 (b8s l)) (hl : ∀ p ∈ l, p.1 < 256 ∧ p.2 < 256) (x y : Nat) (hx : x < 256) (hy : y < 256) :
    Calls Tryd.prog 13 #[.int .u8 n, v, .int .u8 x, .int .u8 y] w fun e w' => e = .returned (.bool true) ∧ Ext w w' := by
  have hw0 : 0 < w.heap.size := by
    have := hT 0 (by decide)
    apply Nat.lt_of_not_le; intro h
    simp [World.cell?, Array.getElem?_eq_none h] at this
  have hr8 : n % 8 < 8 := Nat.mod_lt _ (by decide)
  have hm0 : ((n : Int).tmod 8) = ((n % 8 : Nat) : Int) := rfl
  obtain ⟨r, hr⟩ : ∃ r, n % 8 = r := ⟨_, rfl⟩
  rw [hr] at hr8 hm0
  clear hr
  obtain ⟨m, hm⟩ : ∃ m, 1 + r = m := ⟨_, rfl⟩
  have hm1 : (1 : Int) + (r : Int) = (m : Int) := by omega
  have hm8 : m ≤ 8 := by omega
  have hm64 : m ≤ 64 := by omega
  have h1m : 1 ≤ m := by omega
  have ham : x % m < m := Nat.mod_lt _ (by omega)
  have hbm : y % m < m := Nat.mod_lt _ (by omega)
  have mx : ((x : Int).tmod (m : Int)) = ((x % m : Nat) : Int) := rfl
  have my : ((y : Int).tmod (m : Int)) = ((y % m : Nat) : Int) := rfl
  obtain ⟨a, ha⟩ : ∃ a, x % m = a := ⟨_, rfl⟩
  obtain ⟨b, hb⟩ : ∃ b, y % m = b := ⟨_, rfl⟩
  rw [ha] at ham mx
  rw [hb] at hbm my
  have hmz : ((m : Int) == 0) = false := by rw [beq_eq_false_iff_ne]; omega
  have MX := Lib.hid mx; have MY := Lib.hid my
  clear mx my ha hb hm
  go_enter Tryd.func13, Tryd.ntmps13
  go_wp2_with fail
  clear hm0 hm1
  refine (said_any m h1m hm64 w hT v l hv hl).mono ?_
  rintro e w1 ⟨rfl, hE1, ho⟩
  have hRel := saidR_rel m (l.take 40)
  obtain ⟨R, hRR⟩ : ∃ R, saidR m (l.take 40) = R := ⟨_, rfl⟩
  rw [hRR] at ho hRel
  have hT1 := hT.keep hE1 id
  clear hRR hv hl
  have h0w := ho.lt
  have mx := MX.out
  have my := MY.out
  go_wp2
  go_quiet (fail)
  clear mx my
  have ho2 := ho.keep (Turn.drewN (Turn.refl (fun _ => False) w1) nq) id
  have hE2 : Ext w (w1.drewN nq) := hE1.drewN nq
  have hs2 : w.heap.size < (w1.drewN nq).heap.size := h0w
  generalize w1.drewN nq = w2 at ho2 hE2 hs2 ⊢
  clear ho hE1 hT1 h0w
  go_wp2_with fail
  refine (copy_ok _ m _ _ w2 ho2).mono ?_
  rintro e w3 ⟨rfl, hE3, oP3⟩
  change OrdR w3 w2.heap.size m R at oP3
  have ho3 := ho2.keep hE3 id
  go_wp2_with fail
  refine (copy_ok _ m _ _ w3 ho3).mono ?_
  rintro e w4 ⟨rfl, hE4, oQ4⟩
  change OrdR w4 w3.heap.size m R at oQ4
  have oP4 := oP3.keep hE4 id
  have ho4 := ho3.keep hE4 id
  have hE04 := (hE2.trans hE3).trans hE4
  have lP := oP3.lt
  have lQ := oQ4.lt
  obtain ⟨pP, hpP⟩ : ∃ p, w2.heap.size = p := ⟨_, rfl⟩
  obtain ⟨pQ, hpQ⟩ : ∃ p, w3.heap.size = p := ⟨_, rfl⟩
  rw [hpP] at oP4 oP3 lP hs2 ⊢
  rw [hpQ] at oQ4 lP lQ ⊢
  clear hpP hpQ oP3 ho2 ho3 hE2 hE3 hE4
  have hT4 := hT.keep hE04 id
  have hc0 := count_pos hRel
  have hc1 := count_le8 R hm8
  go_wp2_with fail
  refine (count_any _ m R (by omega) w4 ho4 hT4).mono ?_
  rintro e w5 ⟨rfl, hE5⟩
  have ho5 := ho4.keep hE5 id
  have oP5 := oP4.keep hE5 id
  have oQ5 := oQ4.keep hE5 id
  have hE05 := hE04.trans hE5
  have hT5 := hT.keep hE05 id
  have l5 := hE05.size
  have lP5 := oP5.lt
  have lQ5 := oQ5.lt
  clear ho4 oP4 oQ4 hT4 hE04 hE5
  obtain ⟨c, hc⟩ : ∃ c, countR m R = c := ⟨_, rfl⟩
  rw [hc] at hc0 hc1 ⊢
  have hc0' : ¬ (c : Int) < 1 := by omega
  have hfr := freeR_nat (R := R) ham hbm
  go_wp2_with fail
  refine (free_R _ m R hm64 w5 ho5 a b).mono ?_
  rintro e _ ⟨rfl, rfl⟩
  have hworks := works_any w5 hT5
  by_cases hab : a = b
  · -- the same event
    have q1 : freeR m R a b = false := by rw [hfr]; simp [hab]
    have q2 : isR m R b a = false := by rw [isR_nat hbm ham, hab]; exact hRel.irr b
    have q3 : ((a : Int) == (b : Int)) = true := by simp [hab]
    rw [q1]
    have HAB := Lib.hid hab
    clear hab hfr
    go_wp2_with fail
    refine (is_R _ m R hm64 w5 ho5 b a).mono ?_
    rintro e _ ⟨rfl, rfl⟩
    rw [q2]
    go_wp2_with fail
    refine hworks.mono ?_
    rintro e wh ⟨rfl, hEh⟩
    go_wp2
    go_ret
    exact ⟨rfl, hE05.trans hEh⟩
  · have q3 : ((a : Int) == (b : Int)) = false := by rw [beq_eq_false_iff_ne]; omega
    by_cases hba : R b a = true
    · have q1 : freeR m R a b = false := by rw [hfr, hba]; simp
      have q2 : isR m R b a = true := by rw [isR_nat hbm ham, hba]
      have q4 : ((b : Int) == (a : Int)) = false := by rw [beq_eq_false_iff_ne]; omega
      have q5 : befC m R b a = 0 := befC_zero.2 ⟨isEv_true (by omega) (by omega), isEv_true (by omega) (by omega), by omega, by rw [isR_nat ham hbm]; exact hRel.asym hba⟩
      have q6 : befN m R b a = R := by rw [befN, if_pos q5]; exact addR_same hRel hba
      rw [q1]
      have Q6 := Lib.hid q6; have HAB := Lib.hid hab; have HBA := Lib.hid hba; have HC := Lib.hid hc
      clear hab hfr q6 hba hc
      go_wp2_with fail
      refine (is_R _ m R hm64 w5 ho5 b a).mono ?_
      rintro e _ ⟨rfl, rfl⟩
      rw [q2]
      go_wp2_with fail
      refine (before_R pP m R hm64 hRel w5 oP5 hT5 (by omega) b a).mono ?_
      rintro e w6 ⟨rfl, ht6, oP6⟩
      rw [q5]
      rw [Q6.out] at oP6
      have hE6 : Ext w w6 := hE05.after ht6 (fun b' h1 h2 => by omega)
      have hT6 := hT.keep hE6 id
      go_wp2_with fail
      refine (count_any _ m R (by omega) w6 oP6 hT6).mono ?_
      rintro e w7 ⟨rfl, hE7⟩
      rw [HC.out]
      go_wp2_with fail
      refine (works_any w7 (hT6.keep hE7 id)).mono ?_
      rintro e wh ⟨rfl, hEh⟩
      go_wp2
      go_ret
      exact ⟨rfl, (hE6.trans hE7).trans hEh⟩
    · have hba' : R b a = false := by simpa using hba
      by_cases hab1 : R a b = true
      · have q1 : freeR m R a b = false := by rw [hfr, hab1]; simp
        have q2 : isR m R b a = false := by rw [isR_nat hbm ham, hba']
        have q5 : befC m R a b = 0 := befC_zero.2 ⟨isEv_true (by omega) (by omega), isEv_true (by omega) (by omega), by omega, by rw [isR_nat hbm ham]; exact hba'⟩
        have q6 : befN m R a b = R := by rw [befN, if_pos q5]; exact addR_same hRel hab1
        rw [q1]
        have Q6 := Lib.hid q6; have HAB := Lib.hid hab; have HBA := Lib.hid hba'; have HAB1 := Lib.hid hab1; have HC := Lib.hid hc
        clear hab hfr q6 hba hba' hab1 hc
        go_wp2_with fail
        refine (is_R _ m R hm64 w5 ho5 b a).mono ?_
        rintro e _ ⟨rfl, rfl⟩
        rw [q2]
        go_wp2_with fail
        refine (before_R pP m R hm64 hRel w5 oP5 hT5 (by omega) a b).mono ?_
        rintro e w6 ⟨rfl, ht6, oP6⟩
        rw [q5]
        rw [Q6.out] at oP6
        have hE6 : Ext w w6 := hE05.after ht6 (fun b' h1 h2 => by omega)
        have hT6 := hT.keep hE6 id
        go_wp2_with fail
        refine (count_any _ m R (by omega) w6 oP6 hT6).mono ?_
        rintro e w7 ⟨rfl, hE7⟩
        rw [HC.out]
        go_wp2_with fail
        refine (works_any w7 (hT6.keep hE7 id)).mono ?_
        rintro e wh ⟨rfl, hEh⟩
        go_wp2
        go_ret
        exact ⟨rfl, (hE6.trans hE7).trans hEh⟩
      · have hab' : R a b = false := by simpa using hab1
        have q1 : freeR m R a b = true := by rw [hfr, hab', hba']; simp [hab]
        have q5 : befC m R a b = 0 := befC_zero.2 ⟨isEv_true (by omega) (by omega), isEv_true (by omega) (by omega), by omega, by rw [isR_nat hbm ham]; exact hba'⟩
        have q6 : befN m R a b = addR R a b := by rw [befN, if_pos q5]; rfl
        have q7 : befC m R b a = 0 := befC_zero.2 ⟨isEv_true (by omega) (by omega), isEv_true (by omega) (by omega), by omega, by rw [isR_nat ham hbm]; exact hab'⟩
        have q8 : befN m R b a = addR R b a := by rw [befN, if_pos q7]; rfl
        have hsum := count_add hRel ham hbm hab hab' hba'
        have r1 := addR_rel hRel ham hbm hab hba'
        have r2 := addR_rel hRel hbm ham (Ne.symm hab) hab'
        have d1 := count_pos r1
        have d2 := count_pos r2
        obtain ⟨R1, hR1⟩ : ∃ R1, addR R a b = R1 := ⟨_, rfl⟩
        obtain ⟨R2, hR2⟩ : ∃ R2, addR R b a = R2 := ⟨_, rfl⟩
        rw [hR1] at q6 hsum r1 d1
        rw [hR2] at q8 hsum r2 d2
        rw [hc] at hsum
        obtain ⟨c1, hc1'⟩ : ∃ c1, countR m R1 = c1 := ⟨_, rfl⟩
        obtain ⟨c2, hc2'⟩ : ∃ c2, countR m R2 = c2 := ⟨_, rfl⟩
        rw [hc1'] at hsum d1
        rw [hc2'] at hsum d2
        rw [q1]
        have Q6 := Lib.hid q6; have Q8 := Lib.hid q8; have HC := Lib.hid hc; have HC1 := Lib.hid hc1'; have HC2 := Lib.hid hc2'; have HSUM := Lib.hid hsum
        clear hab hfr q6 q8 hba hba' hab1 hab' hc hR1 hR2 hc1' hc2' hsum
        go_wp2_with fail
        refine (before_R pP m R hm64 hRel w5 oP5 hT5 (by omega) a b).mono ?_
        rintro e w6 ⟨rfl, ht6, oP6⟩
        rw [q5]
        rw [Q6.out] at oP6
        have hE6 : Ext w w6 := hE05.after ht6 (fun b' h1 h2 => by omega)
        have hT6 := hT.keep hE6 id
        have oQ6 := oQ5.keep ht6 (by omega)
        have ho6 := ho5.keep ht6 (by omega)
        go_wp2_with fail
        refine (before_R pQ m R hm64 hRel w6 oQ6 hT6 (by omega) b a).mono ?_
        rintro e w7 ⟨rfl, ht7, oQ7⟩
        rw [q7]
        rw [Q8.out] at oQ7
        have hE7 : Ext w w7 := hE6.after ht7 (fun b' h1 h2 => by omega)
        have hT7 := hT.keep hE7 id
        have oP7 := oP6.keep ht7 (by omega)
        have ho7 := ho6.keep ht7 (by omega)
        clear ht6 ht7 oP6 oQ6 ho6 hT6 hE6
        go_wp2_with fail
        refine (count_any _ m R1 (by omega) w7 oP7 hT7).mono ?_
        rintro e w8 ⟨rfl, hE8⟩
        rw [HC1.out]
        have hT8 := hT7.keep hE8 id
        have oQ8 := oQ7.keep hE8 id
        have ho8 := ho7.keep hE8 id
        go_wp2_with fail
        refine (count_any _ m R2 (by omega) w8 oQ8 hT8).mono ?_
        rintro e w9 ⟨rfl, hE9⟩
        rw [HC2.out]
        have hT9 := hT8.keep hE9 id
        have ho9 := ho8.keep hE9 id
        go_wp2_with fail
        refine (count_any _ m R (by omega) w9 ho9 hT9).mono ?_
        rintro e wa ⟨rfl, hEa⟩
        rw [HC.out]
        have hTa := hT9.keep hEa id
        have hs := HSUM.out
        have s1 : (c1 : Int) + (c2 : Int) = (c : Int) := by omega
        have s2 : ¬ (c1 : Int) < 1 := by omega
        have s3 : (1 : Int) ≤ (c1 : Int) := by omega
        have s4 : (1 : Int) ≤ (c2 : Int) := by omega
        have s5 : c1 ≤ 40320 := by omega
        have s6 : c2 ≤ 40320 := by omega
        clear hs
        go_wp2_with fail
        refine (works_any wa hTa).mono ?_
        rintro e wh ⟨rfl, hEh⟩
        go_wp2
        go_ret
        exact ⟨rfl, (((hE7.trans hE8).trans hE9).trans hEa).trans hEh⟩

theorem adds_card (w : World) (hT : Tab w) (n : Int) (hn : (Lit.int .u8 n).wf = true) (v : Value) (l : List (Int × Int)) (hv : Rd w v l.length 2 (prsK .u8 l)) (hl : ∀ p ∈ l, (Lit.int .u8 p.1).wf = true ∧ (Lit.int .u8 p.2).wf = true)
    (x y : Int) (hx : (Lit.int .u8 x).wf = true) (hy : (Lit.int .u8 y).wf = true) :
    Calls Tryd.prog 13 #[.int .u8 n, v, .int .u8 x, .int .u8 y] w fun e w' => e = .returned (.bool true) ∧ Ext w w' := by
  obtain ⟨m, h1, h2, h3⟩ := nat_pairs hl
  rw [← h1, h2] at hv
  have bn := bounds_u8 hn
  have bx := bounds_u8 hx
  have by' := bounds_u8 hy
  obtain ⟨n, rfl⟩ := Int.eq_ofNat_of_zero_le bn.1
  obtain ⟨x, rfl⟩ := Int.eq_ofNat_of_zero_le bx.1
  obtain ⟨y, rfl⟩ := Int.eq_ofNat_of_zero_le by'.1
  exact adds_law w hT n (by omega) v m hv h3 x y (by omega) (by omega)
end Go.Proofs.YtnnnbmkhgcpjoaaDoor
