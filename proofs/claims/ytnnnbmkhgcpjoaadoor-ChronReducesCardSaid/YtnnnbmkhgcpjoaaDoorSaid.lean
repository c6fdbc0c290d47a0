/- ablautlaw13.Said. -/
import Derived.Test.YtnnnbmkhgcpjoaaDoorCopy
namespace Go.Proofs.YtnnnbmkhgcpjoaaDoor
open Go.RowKit Go.Ab

/-- A list of pairs of bytes, as cells. -/
def b8s (l : List (Nat × Nat)) : List Value := l.flatMap fun p => [Value.int .u8 p.1, Value.int .u8 p.2]
theorem b8s_get {l : List (Nat × Nat)} {k : Nat} (h : k < l.length) : (b8s l).getD (k * 2) undef = .int .u8 l[k].1 ∧ (b8s l).getD (k * 2 + 1) undef = .int .u8 l[k].2 := by
  induction l generalizing k with
  | nil => simp at h
  | cons p l ih =>
    cases k with
    | zero => simp [b8s]
    | succ k =>
      have := ih (k := k) (by simpa using h)
      simp only [b8s, List.flatMap_cons, List.cons_append, List.nil_append] at this ⊢
      rw [show (k + 1) * 2 = k * 2 + 1 + 1 by omega]
      simpa using this

/-- What has been said. -/
def saidR (n : Nat) (l : List (Nat × Nat)) : Nat → Nat → Bool := l.foldl (fun R p => befN n R ((p.1 % n : Nat) : Int) ((p.2 % n : Nat) : Int)) (fun _ _ => false)
theorem saidR_rel (n : Nat) (l : List (Nat × Nat)) : Rel n (saidR n l) := by
  have aux : ∀ (l : List (Nat × Nat)) R, Rel n R → Rel n (l.foldl (fun R p => befN n R ((p.1 % n : Nat) : Int) ((p.2 % n : Nat) : Int)) R) := by
    intro l
    induction l with
    | nil => intro R h; exact h
    | cons p l ih => intro R h; exact ih _ (befN_rel h _ _)
  exact aux l _ (Rel.empty n)
theorem saidR_snoc (n : Nat) (l : List (Nat × Nat)) (p : Nat × Nat) : saidR n (l ++ [p]) = befN n (saidR n l) ((p.1 % n : Nat) : Int) ((p.2 % n : Nat) : Int) := by simp [saidR]

set_option maxRecDepth 100000 in
set_option maxHeartbeats 8000000 in
theorem said_any (n : Nat) (h1 : 1 ≤ n) (hn : n ≤ 64) (w : World) (hT : Tab w) (v : Value) (l : List (Nat × Nat)) (hv : Rd w v l.length 2 (b8s l)) (hl : ∀ p ∈ l, p.1 < 256 ∧ p.2 < 256) :
    Calls Tryd.prog 24 #[.int .i64 n, v] w fun e w' => e = .returned (.pointer (some ⟨w.heap.size, 0, none⟩)) ∧ Ext w w' ∧ OrdR w' w.heap.size n (saidR n (l.take 40)) := by
  have hw0 : 0 < w.heap.size := by
    have := hT 0 (by decide)
    apply Nat.lt_of_not_le; intro h
    simp [World.cell?, Array.getElem?_eq_none h] at this
  obtain ⟨hl1, hm1, ap, cp, rfl, hR⟩ := hv
  unfold maxLen at hm1
  have hn1 : ((n : Int) == 0) = false := by simp; omega
  go_enter Tryd.func24, Tryd.ntmps24
  go_wp2_with fail
  refine (new_R n hn w).mono ?_
  rintro e w1 ⟨rfl, hE1, ho1⟩
  have HR := Lib.hid hR
  clear hR
  go_wp2
  refine wp_loop (fun a W => ∃ (k : Nat), k ≤ l.length ∧ k ≤ 40 ∧ a.defers = [] ∧ (a.tmps.size = 94 ∧ a.tmps.getD 0 undef = .int .i64 n ∧ a.tmps.getD 1 undef = .slice ap l.length cp ∧ a.tmps.getD 4 undef = .pointer none ∧ a.tmps.getD 5 undef = .pointer (some ⟨w.heap.size, 0, none⟩) ∧ a.tmps.getD 7 undef = .int .i64 k) ∧
      OrdR W w.heap.size n (saidR n (l.take k)) ∧ Turn (· = w.heap.size) w1 W)
    (fun a _ => l.length - (intOf (a.tmps.getD 7 undef)).toNat) ?_ ?_
  · exact ⟨0, Nat.zero_le _, Nat.zero_le _, rfl, ⟨rfl, rfl, rfl, rfl, rfl, rfl⟩, ho1, Turn.refl _ _⟩
  · rintro ⟨t, _⟩ W ⟨k, hk, hk40, hds, ⟨hsz, f0, f1, f4, f5, f7⟩, ho, ht⟩
    subst hds
    obtain ⟨u, hu⟩ := frame_fun hsz
    have hu' : t = #[u 0, u 1, u 2, u 3, u 4, u 5, u 6, u 7, u 8, u 9, u 10, u 11, u 12, u 13, u 14, u 15, u 16, u 17, u 18, u 19, u 20, u 21, u 22, u 23, u 24, u 25, u 26, u 27, u 28, u 29, u 30, u 31, u 32, u 33, u 34, u 35, u 36, u 37, u 38, u 39, u 40, u 41, u 42, u 43, u 44, u 45, u 46, u 47, u 48, u 49, u 50, u 51, u 52, u 53, u 54, u 55, u 56, u 57, u 58, u 59, u 60, u 61, u 62, u 63, u 64, u 65, u 66, u 67, u 68, u 69, u 70, u 71, u 72, u 73, u 74, u 75, u 76, u 77, u 78, u 79, u 80, u 81, u 82, u 83, u 84, u 85, u 86, u 87, u 88, u 89, u 90, u 91, u 92, u 93] := hu
    clear hu
    subst hu'
    change u 0 = _ at f0
    change u 1 = _ at f1
    change u 4 = _ at f4
    change u 5 = _ at f5
    change u 7 = _ at f7
    rw [f0, f1, f4, f5, f7]
    clear f0 f1 f4 f5 f7 hsz
    have hlt0 := ho.lt
    have hE : Ext w W := hE1.after ht (fun b' q1 q2 => by omega)
    have hTW := hT.keep hE id
    by_cases hlt : k < l.length
    · by_cases h40 : k < 40
      · obtain ⟨g, off, rfl, hg, hc⟩ := HR.out (by omega)
        have c1 := hE.cell_some (hc (k * 2) (by omega)) id
        have c2 := hE.cell_some (hc (k * 2 + 1) (by omega)) id
        have hp := hl l[k] (List.getElem_mem hlt)
        rw [(b8s_get hlt).1] at c1
        rw [(b8s_get hlt).2, ← Nat.add_assoc] at c2
        have hsn : saidR n (l.take (k + 1)) = befN n (saidR n (l.take k)) ((l[k].1 % n : Nat) : Int) ((l[k].2 % n : Nat) : Int) := by
          rw [List.take_succ_eq_append_getElem hlt, saidR_snoc]
        have hrel := saidR_rel n (l.take k)
        obtain ⟨R, hRR⟩ : ∃ R, saidR n (l.take k) = R := ⟨_, rfl⟩
        obtain ⟨x, hx⟩ : ∃ x, l[k].1 = x := ⟨_, rfl⟩
        obtain ⟨y, hy⟩ : ∃ y, l[k].2 = y := ⟨_, rfl⟩
        rw [hRR] at hsn hrel ho
        rw [hx, hy] at hsn
        rw [hx] at c1
        rw [hy] at c2
        rw [hx, hy] at hp
        have HS := Lib.hid hsn
        clear hsn hRR hx hy hc
        have hkl : (k : Int) < (l.length : Int) := by omega
        have hk4 : (k : Int) < 40 := by omega
        have hr1 : ((x : Int).tmod n) = ((x % n : Nat) : Int) := rfl
        have hr2 : ((y : Int).tmod n) = ((y % n : Nat) : Int) := rfl
        obtain ⟨a, ha⟩ : ∃ a, x % n = a := ⟨_, rfl⟩
        obtain ⟨b, hb⟩ : ∃ b, y % n = b := ⟨_, rfl⟩
        have han : a < n := by rw [← ha]; exact Nat.mod_lt _ (by omega)
        have hbn : b < n := by rw [← hb]; exact Nat.mod_lt _ (by omega)
        rw [ha] at hr1
        rw [hb] at hr2
        rw [ha, hb] at HS
        have e1 : isEv (n : Int) (a : Int) = true := isEv_true (by omega) (by omega)
        have e2 : isEv (n : Int) (b : Int) = true := isEv_true (by omega) (by omega)
        have hi1 : isR n R b a = R b a := by simp [isR, e1, e2]
        have hcl : ∀ W', Turn (· = w.heap.size) W W' → OrdR W' w.heap.size n (befN n R a b) → OrdR W' w.heap.size n (saidR n (l.take (k + 1))) ∧ Turn (· = w.heap.size) w1 W' := fun W' q1 q2 => ⟨by rw [HS.out]; exact q2, ht.trans q1⟩
        have HC := Lib.hid hcl
        have hbc : befC n R a b = if a = b ∨ R b a = true then 9 else 0 := by
          unfold befC; rw [e1, e2, hi1]; by_cases q : a = b <;> cases q' : R b a <;> simp [q, q'] <;> omega
        clear hcl ha hb
        by_cases hab : a = b
        · have q1 : ((a : Int) == (b : Int)) = true := by simp [hab]
          have q2 : befC n R a b = 9 := by rw [hbc, if_pos (.inl hab)]
          have HX := Lib.hid hab
          clear hab hbc hi1 e1 e2
          go_wp2
          go_quiet (fail)
          go_wp2_with fail
          refine (before_R _ n R hn hrel _ (ho.keep (Turn.drewN (Turn.refl (fun _ => False) W) _) id) (hTW.keep (Turn.drewN (Turn.refl (fun _ => False) W) _) id) (by omega) a b).mono ?_
          rintro e W2 ⟨rfl, ht2, ho2⟩
          rw [q2]
          go_wp2
          have q := HC.out _ (Turn.trans (Turn.drewN (Turn.refl _ W) _) ht2) ho2
          exact ⟨⟨k + 1, by omega, by omega, trivial, ⟨rfl, rfl, rfl, rfl, rfl, rfl⟩, q.1, q.2⟩, by simp [intOf]; omega⟩
        · have q1 : ((a : Int) == (b : Int)) = false := by simp; omega
          by_cases hrb : R b a = true
          · have q2 : befC n R a b = 9 := by rw [hbc, if_pos (.inr hrb)]
            rw [hrb] at hi1
            have HX := Lib.hid hab
            clear hab hbc e1 e2 hrb
            go_wp2
            go_quiet (fail)
            have hoD : ∀ m, OrdR (W.drewN m) w.heap.size n R := fun m => ho.keep (Turn.drewN (Turn.refl (fun _ => False) W) _) id
            have HD := Lib.hid hoD
            clear hoD
            go_wp2_with fail
            refine (is_R _ n R hn _ (HD.out _) b a).mono ?_
            rintro e _ ⟨rfl, rfl⟩
            rw [hi1]
            go_wp2_with fail
            refine (before_R _ n R hn hrel _ (HD.out _) (hTW.keep (Turn.drewN (Turn.refl (fun _ => False) W) _) id) (by omega) a b).mono ?_
            rintro e W2 ⟨rfl, ht2, ho2⟩
            rw [q2]
            go_wp2
            have q := HC.out _ (Turn.trans (Turn.drewN (Turn.refl _ W) _) ht2) ho2
            exact ⟨⟨k + 1, by omega, by omega, trivial, ⟨rfl, rfl, rfl, rfl, rfl, rfl⟩, q.1, q.2⟩, by simp [intOf]; omega⟩
          · have q2 : befC n R a b = 0 := by rw [hbc, if_neg (by rintro (h | h); exact hab h; exact hrb h)]
            have hrb' : R b a = false := by simpa using hrb
            rw [hrb'] at hi1
            have hrel2 := befN_rel hrel (a : Int) (b : Int)
            have hR2 : befN n R a b a b = true := by rw [befN, if_pos q2]; simp [addR]
            have hi2 : isR n (befN n R a b) a b = true := by simp [isR, e1, e2, hR2]
            have hi3 : isR n (befN n R a b) b a = false := by simp [isR, e1, e2, hrel2.asym hR2]
            have HX := Lib.hid hab
            clear hab hbc e1 e2 hrb hrb' hR2
            go_wp2
            go_quiet (fail)
            have hoD : ∀ m, OrdR (W.drewN m) w.heap.size n R := fun m => ho.keep (Turn.drewN (Turn.refl (fun _ => False) W) _) id
            have HD := Lib.hid hoD
            clear hoD
            go_wp2_with fail
            refine (is_R _ n R hn _ (HD.out _) b a).mono ?_
            rintro e _ ⟨rfl, rfl⟩
            rw [hi1]
            go_wp2_with fail
            refine (before_R _ n R hn hrel _ (HD.out _) (hTW.keep (Turn.drewN (Turn.refl (fun _ => False) W) _) id) (by omega) a b).mono ?_
            rintro e W2 ⟨rfl, ht2, ho2⟩
            rw [q2]
            go_wp2_with fail
            refine (is_R _ n _ hn _ ho2 a b).mono ?_
            rintro e _ ⟨rfl, rfl⟩
            rw [hi2]
            go_wp2_with fail
            refine (is_R _ n _ hn _ ho2 b a).mono ?_
            rintro e _ ⟨rfl, rfl⟩
            rw [hi3]
            go_wp2
            have q := HC.out _ (Turn.trans (Turn.drewN (Turn.refl _ W) _) ht2) ho2
            exact ⟨⟨k + 1, by omega, by omega, trivial, ⟨rfl, rfl, rfl, rfl, rfl, rfl⟩, q.1, q.2⟩, by simp [intOf]; omega⟩
      · obtain rfl : k = 40 := by omega
        go_wp2
        go_goals
        go_ret
        exact ⟨rfl, hE, ho⟩
    · obtain rfl : k = l.length := by omega
      rw [List.take_length] at ho
      go_wp2
      go_goals
      go_ret
      exact ⟨rfl, hE, by rw [List.take_of_length_le (by omega)]; exact ho⟩
end Go.Proofs.YtnnnbmkhgcpjoaaDoor
