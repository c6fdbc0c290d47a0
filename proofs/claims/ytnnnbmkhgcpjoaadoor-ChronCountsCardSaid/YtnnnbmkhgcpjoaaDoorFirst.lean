/- chron.Order over a relation; First. -/
import Derived.Test.YtnnnbmkhgcpjoaaDoorBefore
import Derived.Test.YtnnnbmkhgcpjoaaDoorReduced
import Derived.Test.YtnnnbmkhgcpjoaaDoorRel
namespace Go.Proofs.YtnnnbmkhgcpjoaaDoor
open Go.RowKit Go.Ab

/-- Block b is the chronology of n events that holds R. -/
def OrdR (w : World) (b n : Nat) (R : Nat → Nat → Bool) : Prop := Ord w b true n (bfR n R) (afR n R)
theorem OrdR.keep {S : Nat → Prop} {A B : World} {b n : Nat} {R : Nat → Nat → Bool} (h : OrdR A b n R) (ht : Turn S A B) (hS : ¬ S b) : OrdR B b n R := Ord.keep h ht hS
theorem fitsR {n : Nat} (hn : n ≤ 64) (R : Nat → Nat → Bool) : Fits n (bfR n R) (afR n R) := ⟨hn, fun _ => mask_lt64 hn _, fun _ => mask_lt64 hn _⟩

theorem Tryd.infoInt : (Tryd.prog.info? 3).map (fun i => (i.zero, i.size, i.bytes)) = some (some (.int .i64 0), 1, 8) := by kernel_rfl

theorem shr_bit0 (v y : Nat) (hv : v < 18446744073709551616) : (bits .and .u64 ((v : Int) / 2 ^ y) 1 == 0) = !v.testBit y := by
  have h := shr_bit v y hv
  have e : ((v : Int) / 2 ^ y) = ((v / 2 ^ y : Nat) : Int) := by simp
  have h1 : v / 2 ^ y ≤ v := Nat.div_le_self _ _
  have e1 : (1 : Int) = ((1 : Nat) : Int) := rfl
  rw [e, e1, u64_and_nat _ _ (by omega) (by decide), Nat.and_one_is_mod, Nat.testBit_eq_decide_div_mod_eq]
  by_cases h : v / 2 ^ y % 2 = 1
  · rw [h]; simp
  · have : v / 2 ^ y % 2 = 0 := by omega
    rw [this]; simp

theorem testBit_not64 (d i : Nat) (hd : d < 18446744073709551616) : (18446744073709551615 - d).testBit i = (decide (i < 64) && !d.testBit i) := by
  have := Nat.testBit_two_pow_sub_succ (n := 64) (x := d) hd i
  simpa using this

/-- a &^ d == 0, of sets of the first n numbers. -/
theorem andNot_zero {n : Nat} (hn : n ≤ 64) (p q : Nat → Bool) : (bits .andNot .u64 ((mask n p : Nat) : Int) ((mask n q : Nat) : Int) == 0) = (List.range n).all fun a => !p a || q a := by
  have h1 := mask_lt64 hn p
  have h2 := mask_lt64 hn q
  rw [u64_andNot_nat _ _ h1 h2, Bool.eq_iff_iff, beq_iff_eq]
  simp only [List.all_eq_true, List.mem_range, Bool.or_eq_true, Bool.not_eq_true']
  constructor
  · intro h a ha
    have h0 : mask n p &&& (18446744073709551615 - mask n q) = 0 := by exact_mod_cast h
    have := congrArg (fun v => v.testBit a) h0
    simp only [Nat.testBit_and, testBit_not64 _ _ h2, testBit_mask, Nat.zero_testBit, ha, decide_true, Bool.true_and, show a < 64 by omega] at this
    cases hp : p a <;> simp_all
  · intro h
    have : mask n p &&& (18446744073709551615 - mask n q) = 0 := by
      apply Nat.eq_of_testBit_eq
      intro i
      rw [Nat.testBit_and, testBit_not64 _ _ h2, testBit_mask, testBit_mask, Nat.zero_testBit]
      by_cases hi : i < n
      · rcases h i hi with h | h <;> simp [h, hi]
      · simp [hi]
    rw [this]; rfl

/-- The set of those in l. -/
def setL (n : Nat) (l : List Nat) : Nat := mask n (fun i => l.contains i)
theorem setL_nil (n : Nat) : setL n [] = 0 := by simp [setL, mask_zero]
theorem setL_snoc {n x : Nat} (hx : x < n) (l : List Nat) : setL n l ||| 2 ^ x = setL n (l ++ [x]) := by
  rw [setL, two_pow_mask hx, mask_or]
  refine mask_congr fun i _ => ?_
  simp only [List.contains_eq_mem, List.mem_append, List.mem_singleton]
  by_cases h : i ∈ l <;> by_cases h' : i = x <;> simp [h, h']

theorem firstGo_le {n : Nat} {R : Nat → Nat → Bool} : ∀ (k : Nat) (l : List Nat), (firstGo n R k l).length ≤ l.length + k
  | 0, l => by simp [firstGo]
  | k + 1, l => by
    unfold firstGo
    split
    · rename_i x _
      have := firstGo_le (n := n) (R := R) k (l ++ [x])
      simp at this; omega
    · omega

set_option maxHeartbeats 4000000 in
theorem first_any (b n : Nat) (R : Nat → Nat → Bool) (hn : n ≤ 64) (hR : Rel n R) (w : World) (ho : OrdR w b n R) :
    Calls Tryd.prog 30 #[.pointer (some ⟨b, 0, none⟩)] w fun e w' => ∃ v, e = .returned v ∧ Ext w w' ∧ w'.ownsRow w.heap.size 3 1 v (firstL n R).length (ints (zs (firstL n R))) ∧ (firstL n R).length = n := by
  have hlt := ho.lt
  go_enter Tryd.func30, Tryd.ntmps30
  go_wp2
  go_loopw [3, 4] (fun v dv wr => ∃ l : List Nat, l.length ≤ n ∧ dv = .int .u64 (setL n l) ∧ firstGo n R (n - l.length) l = firstL n R ∧ wr.ownsRow w.heap.size 3 1 v l.length (ints (zs l)) ∧ Ext w wr) (fun v _ _ => n - (match v with | .slice _ k _ => k | _ => 0))
  case atStart => exact ⟨[], by simp, by simp [setL_nil], rfl, by simpa [ints, zs] using World.ownsRow_nil _ _ _ _, Turn.refl _ _⟩
  case round =>
    obtain ⟨l, hl, rfl, hgo, hO, hE⟩ := hrel
    obtain ⟨ao, cp, rfl⟩ := own_slice hO
    have hol := ho.keep hE id
    by_cases hlt2 : l.length < n
    · obtain ⟨x, hx⟩ := nextR_some hR hlt2
      obtain ⟨hxn, hrx, hry⟩ := nextR_spec hx
      have HX := Lib.hid hx; have HG := Lib.hid hgo
      clear hx hgo
      go_wp2_with (go_at_call 37; refine (len_any b n _ hol.n).mono ?_; rintro e w' ⟨rfl, rfl⟩)
      obtain ⟨wo, rfl⟩ : ∃ wo : World, wo = wr := ⟨_, rfl⟩
      go_loopw [3, 4, 13] (fun v dv jv wi => ∃ j : Nat, j ≤ x ∧ jv = .int .i64 j ∧ v = .slice ao l.length cp ∧ dv = .int .u64 (setL n l) ∧ wi = wo) (fun _ _ jv _ => x - (intOf jv).toNat)
      case atStart => exact ⟨0, Nat.zero_le _, rfl, rfl, rfl, rfl⟩
      case round =>
        obtain ⟨j, hj, rfl, rfl, rfl, rfl⟩ := hrel
        have hj64 : (j : Int) < 64 := by omega
        have hj63 : j < 64 := by omega
        have cB := hol.bf j hj63
        have b1 := shr_bit0 (setL n l) j (mask_lt64 hn _)
        have b2 : (bits .andNot .u64 ((bfR n R j : Nat) : Int) ((setL n l : Nat) : Int) == 0) = (List.range n).all fun a => !R a j || l.contains a := andNot_zero hn _ _
        have b3 : (setL n l).testBit j = l.contains j := by rw [setL, testBit_mask]; simp; omega
        rw [b3] at b1
        by_cases hjx : j = x
        · subst hjx
          have HR := hrx
          simp only [rdy, Bool.and_eq_true] at HR
          have b4 := setL_snoc hxn l
          rw [HR.1] at b1
          rw [HR.2] at b2
          have o1 := u64_or_shl (setL n l) j (mask_lt64 hn _) hj63
          rw [b4] at o1
          clear hrx hry b3 b4 HR
          go_wp2_with (at_builtin; refine append_row rfl (.tmp 32) (.tmp 34) 23 rfl w.heap.size 3 _ 1 8 Tryd.underlying23 Tryd.infoInt rfl (by decide) _ _ _ rfl (own_ext hO ((Turn.refl _ _).alloc _)) ⟨_, 0, none⟩ 1 1 [.int .i64 j] rfl rfl new_cells ?c2 ?c3 ?c4 ?c5 ?_)
          case c2 => intro u hu; simp at hu; subst hu; rfl
          case c3 => unfold maxLen; omega
          case c4 => omega
          case c5 => have := hE.size; simp; omega
          intro ao2 c2 w2 hO2 hT2 _
          have hE2 : Ext w w2 := (hE.alloc _).after hT2 (fun b' h1 e => by have := (hO.lt _ e).1; omega)
          clear hT2 hO hE cB hol ho
          go_wp2
          go_roundw
          case rel =>
            refine ⟨l ++ [j], by simp; omega, rfl, ?_, by simpa [zs, ints] using hO2, hE2⟩
            rw [← HG.out, show n - l.length = (n - (l ++ [j]).length) + 1 by simp; omega]
            simp only [firstGo, HX.out]
          case measure => simp; omega
        · have hjlt : j < x := by omega
          have HR := hry j hjlt
          have HJ := Lib.hid hjx
          clear hrx hry b3 hjx
          simp only [rdy, Bool.and_eq_false_iff, Bool.not_eq_false'] at HR
          by_cases hc : l.contains j = true
          · rw [hc] at b1
            clear HR b2 hc
            go_wp2
            go_roundw
            case rel => exact ⟨j + 1, by omega, by go_num, rfl, rfl, by first | rfl | trivial⟩
            case measure => simp [intOf]; omega
          · rw [HR.resolve_left hc] at b2
            have hc' : l.contains j = false := by simpa using hc
            rw [hc'] at b1
            clear HR hc hc'
            go_wp2
            go_roundw
            case rel => exact ⟨j + 1, by omega, by go_num, rfl, rfl, by first | rfl | trivial⟩
            case measure => simp [intOf]; omega
    · go_wp2_with (go_at_call 37; refine (len_any b n _ hol.n).mono ?_; rintro e w' ⟨rfl, rfl⟩)
      go_ret
      have e0 : n - l.length = 0 := by omega
      rw [e0] at hgo
      simp only [firstGo] at hgo
      subst hgo
      exact ⟨_, rfl, hE, hO, by omega⟩
end Go.Proofs.YtnnnbmkhgcpjoaaDoor
