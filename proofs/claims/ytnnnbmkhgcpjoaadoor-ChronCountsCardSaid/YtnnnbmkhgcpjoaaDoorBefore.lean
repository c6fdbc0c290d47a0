/- chron.Order.Before. -/
import Derived.Test.YtnnnbmkhgcpjoaaDoorOrd
import Derived.Test.YtnnnbmkhgcpjoaaDoorBridge
namespace Go.Proofs.YtnnnbmkhgcpjoaaDoor
open Go.RowKit Go.Ab
theorem _root_.Go.Proofs.YtnnnbmkhgcpjoaaDoor.SetBox.lt {w : World} {bx v : Nat} (h : SetBox w bx v) : bx < w.heap.size := (Array.getElem?_eq_some_iff.1 h).1
attribute [local go_sem] Oper.semAt_some wide_fn wide_depth

theorem or_step (f : Nat → Nat) (v : Nat) (pre : List Nat) (i : Nat) : upd (fun k => if k ∈ pre then f k ||| v else f k) i ((if i ∈ pre then f i ||| v else f i) ||| v) = fun k => if k ∈ pre ++ [i] then f k ||| v else f k := by
  funext k
  unfold upd
  by_cases hk : k = i
  · subst hk
    by_cases hp : k ∈ pre
    · simp [hp, Nat.or_assoc]
    · simp [hp]
  · simp [hk]
theorem or_lt64 {a b : Nat} (ha : a < 18446744073709551616) (hb : b < 18446744073709551616) : a ||| b < 18446744073709551616 := Nat.or_lt_two_pow (n := 64) ha hb
theorem pow_lt64 {x : Nat} (hx : x < 64) : 2 ^ x < 18446744073709551616 := Nat.pow_lt_pow_right (a := 2) (n := 64) (by decide) hx

set_option maxHeartbeats 4000000 in
set_option maxRecDepth 100000 in
theorem before_ok (b : Nat) (n : Nat) (bf af : Nat → Nat) (w : World) (ho : Ord w b true n bf af) (hf : Fits n bf af) (hT : Tab w) (hbt : b ≠ 0) (x y : Nat) (hx : x < n) (hy : y < n) (hxy : x ≠ y) (hl : (af y).testBit x = false) :
    Calls Tryd.prog 17 #[.pointer (some ⟨b, 0, none⟩), .int .i64 x, .int .i64 y] w fun e w' => e = .returned (.int .i64 0) ∧ Turn (· = b) w w' ∧
      Ord w' b true n (fun i => if i ∈ evs (af y ||| 2 ^ y) then bf i ||| (bf x ||| 2 ^ x) else bf i) (fun i => if i ∈ evs (bf x ||| 2 ^ x) then af i ||| (af y ||| 2 ^ y) else af i) := by
  have hlt := ho.lt
  have hlt1 : b < w.heap.size + 1 := by omega
  have hlt2 : b < w.heap.size + 1 + 1 := by omega
  have hlt3 : b < w.heap.size + 2 := by omega
  have hn64 := hf.1
  have e1 : isEv (n : Int) (x : Int) = true := isEv_true (by omega) (by omega)
  have e2 : isEv (n : Int) (y : Int) = true := isEv_true (by omega) (by omega)
  have e3 : isB n af y x = false := by simp [isB, e1, e2, hl]
  have e4 : ((x : Int) == (y : Int)) = false := by simp; omega
  have hx1 : (x : Int) < 64 := by omega
  have hy1 : (y : Int) < 64 := by omega
  have ho1 : Ord (w.alloc (.cells #[.pointer (some ⟨b, 0, none⟩)] 25)) b true n bf af := ho.keep ((Turn.refl (fun _ => False) w).alloc _) id
  have hm := ho.made
  have c1 := ho.bf x (by omega)
  have c2 := ho.af y (by omega)
  refine calls_of_wp_marks Tryd.func17 rfl ?_
  simp only [Tryd.ntmps17, List.size_toArray, List.length_cons, List.length_nil, Nat.reduceAdd, Nat.reduceSub, Array.replicate_succ, Array.replicate_zero, List.push_toArray, List.append_toArray, List.nil_append, List.cons_append]
  go_wp2_with (first | (go_at_call 38; refine (event_any b n _ _ ho1.n).mono ?_; rintro e w' ⟨rfl, rfl⟩) | (go_at_call 31; refine (is_any b true n bf af _ ho1 hf _ _).mono ?_; rintro e w' ⟨rfl, rfl⟩))
  have o1 := u64_or_shl (bf x) x (hf.2.1 x) (by omega)
  have o2 := u64_or_shl (af y) y (hf.2.2 y) (by omega)
  have HS : Hid (∀ B, Ext (w.alloc (.cells #[.pointer (some ⟨b, 0, none⟩)] 25)) B → B.cell? ⟨w.heap.size, 0, none⟩ = some (.pointer (some ⟨b, 0, none⟩)) ∧ B.cell? ⟨b, 2 + x, none⟩ = some (.int .u64 (bf x)) ∧ B.cell? ⟨b, 66 + y, none⟩ = some (.int .u64 (af y))) :=
    Lib.hid fun B hB => ⟨hB.cell_some (World.cell?_alloc_new _ _ _ 0) id, hB.cell_some (ho1.bf x (by omega)) id, hB.cell_some (ho1.af y (by omega)) id⟩
  go_cut [7, 8] from 11 (fun s7 s8 wc => ∃ pe pl, s7 = .pointer (some ⟨pe, 0, none⟩) ∧ s8 = .pointer (some ⟨pl, 0, none⟩) ∧ pe ≠ pl ∧ w.heap.size < pe ∧ w.heap.size < pl ∧
      Ext (w.alloc (.cells #[.pointer (some ⟨b, 0, none⟩)] 25)) wc ∧ SetBox wc pe (bf x ||| 2 ^ x) ∧ SetBox wc pl (af y ||| 2 ^ y))
  case first =>
    go_region_held3 (fun w' => w'.cell? ⟨w.heap.size, 0, none⟩ = some (.pointer (some ⟨b, 0, none⟩)) ∧ w'.cell? ⟨b, 2 + x, none⟩ = some (.int .u64 (bf x)) ∧ w'.cell? ⟨b, 66 + y, none⟩ = some (.int .u64 (af y)))
      ((refine HS.out _ ?_; repeat' (first | exact Turn.refl _ _ | refine Turn.drew ?_ | refine Turn.alloc ?_ _ | refine Turn.setCell ?_ (.inl (by simp)) _))) (first | fail)
    · go_wp2
      go_meet
      case rel => exact ⟨w.heap.size + 1, w.heap.size + 1 + 1, rfl, rfl, by omega, by omega, by omega, (((Turn.refl _ _).alloc _).alloc _).drew, drew_keep (new_keep (new_at (by simp))), drew_keep (new_at (by simp))⟩
    · go_wp2
      go_meet
      case rel => exact ⟨w.heap.size + 1 + 1, w.heap.size + 1, rfl, rfl, by omega, by omega, by omega, (((Turn.refl _ _).alloc _).alloc _).drew, drew_keep (new_at (by simp)), drew_keep (new_keep (new_at (by simp)))⟩
  case rest =>
    obtain ⟨pe, pl, rfl, rfl, hne, hpe, hpl, hext, hbe, hbl⟩ := hcut
    have hoc : Ord wc b true n bf af := ho1.keep hext id
    have hobox : wc.heap[w.heap.size]? = some (.cells #[.pointer (some ⟨b, 0, none⟩)] 25 (0, 0)) := hext.heap (new_at rfl) id
    have ce := hbe.cell
    clear HS o1 o2 c1 c2 hm e1 e2 e3 e4 hlt1 hlt2 hlt3 ho1
    go_wp2_with (go_at_call 39; refine (events_any _ _).mono ?_; rintro e w' ⟨rfl, rfl⟩)
    have hb0 : SetBox (wc.alloc (.cells #[.int .u64 ((bf x ||| 2 ^ x : Nat) : Int)] 55)) wc.heap.size (bf x ||| 2 ^ x) := new_at rfl
    have hE0 : Ext wc (wc.alloc (.cells #[.int .u64 ((bf x ||| 2 ^ x : Nat) : Int)] 55)) := (Turn.refl _ _).alloc _
    generalize hW0 : wc.alloc (.cells #[.int .u64 ((bf x ||| 2 ^ x : Nat) : Int)] 55) = W0 at hb0 hE0 ⊢
    have hbe_lt := hbe.lt
    have hs0 : W0.heap.size = wc.heap.size + 1 := by rw [← hW0]; simp
    have hTc : Tab wc := (hT.keep ((Turn.refl (fun _ => False) w).alloc _) id).keep hext id
    have hwc : Ext w wc := ((Turn.refl (fun _ => False) w).alloc _).trans hext
    have hev : (bf x ||| 2 ^ x) < 18446744073709551616 := or_lt64 (hf.2.1 x) (pow_lt64 (by omega))
    have hlv : (af y ||| 2 ^ y) < 18446744073709551616 := or_lt64 (hf.2.2 y) (pow_lt64 (by omega))
    clear hW0
    refine wp_range (xs := evs (bf x ||| 2 ^ x)) (S := (· = wc.heap.size)) (K := fun b' => b' = wc.heap.size ∨ b' = 0) rfl (enters_of Tryd.func47 (by kernel_rfl) rfl)
      (events_iter _ hev wc.heap.size (by omega) W0 hb0 (hTc.keep hE0 id)) (fun _ h => .inl h) (fun b' h => by omega) (fun _ => rfl)
      (fun pre W => Ord W b true n bf (fun i => if i ∈ pre then af i ||| (af y ||| 2 ^ y) else af i) ∧ W.heap[w.heap.size]? = some (.cells #[.pointer (some ⟨b, 0, none⟩)] 25 (0, 0)) ∧ SetBox W pe (bf x ||| 2 ^ x) ∧ SetBox W pl (af y ||| 2 ^ y) ∧ Turn (· = b) w W)
      (fun _ _ _ => False) ?hI ?hIx ?h0 (fun i t => (t.setIfInBounds 62 (.int .i64 i)).setIfInBounds 9 (.int .i64 i)) ?assign ?body ?done ?stop
    case hI =>
      have hbl_lt := hbl.lt
      rintro pre A B ⟨i1, i2, i3, i4, i5⟩ ht
      exact ⟨i1.keep ht (by omega), ht.heap i2 (by omega), ht.heap i3 (by omega), ht.heap i4 (by omega), i5.after ht (fun b' h1 h2 => by omega)⟩
    case hIx => exact fun _ _ _ _ h _ => h
    case h0 =>
      intro W hW _
      have hE : Ext wc W := hE0.trans hW
      exact ⟨by simpa using hoc.keep hE id, hE.heap hobox id, hE.heap hbe id, hE.heap hbl id, Ext.of (hwc.trans hE)⟩
    case assign =>
      intro i W K hK
      gi_wp2
      exact hK
    case body =>
      rintro pre i rest W hx' hsz ht ⟨i1, i2, i3, i4, i5⟩
      simp only [List.setIfInBounds_toArray, List.set_cons_zero, List.set_cons_succ]
      have hi64 : i < 64 := (mem_evs.1 (by rw [hx']; simp)).1
      have hi1 : (i : Int) < 64 := by omega
      obtain ⟨av, hav⟩ : ∃ av, (if i ∈ pre then af i ||| (af y ||| 2 ^ y) else af i) = av := ⟨_, rfl⟩
      have cO := cell_of_one i2
      have cL := i4.cell
      have cA := i1.af i hi64
      have fA := i1.free (66 + i)
      simp only [hav] at cA
      have havl : av < 18446744073709551616 := by
        rw [← hav]; split
        · exact or_lt64 (hf.2.2 i) hlv
        · exact hf.2.2 i
      have oA : bits .or .u64 (av : Int) ((af y ||| 2 ^ y : Nat) : Int) = ((av ||| (af y ||| 2 ^ y) : Nat) : Int) := u64_or_nat _ _ havl hlv
      have HX := Lib.hid hx'
      have HA := Lib.hid hav
      clear hx' hav ce hT hwc hTc ht hE0 hext hobox ho hoc
      gi_wp2
      refine wpIn_region_still_tail 11 (by kernel_rfl) (by kernel_rfl) (by kernel_rfl) (by rintro ⟨_, _, h⟩; exact h) ?_
      simp only [List.take_succ_cons, List.take_zero, List.drop_succ_cons, List.drop_zero]
      repeat still_step
      refine wpStill_nil ?_
      go_wp2
      refine ⟨((Turn.refl _ W).drew).setCell (.inr (by dsimp only; omega)) _, ?_, ?_, ?_, ?_, ?_⟩
      · rw [← or_step, HA.out]
        exact Ord.setAf (w := W.drew) i1 i _ hi64
      · exact set_keep (A := W.drew) i2 (by dsimp only; omega)
      · exact set_keep (A := W.drew) i3 (by dsimp only; omega)
      · exact set_keep (A := W.drew) i4 (by dsimp only; omega)
      · exact (i5.drew).setCell (.inr rfl) _
    case done =>
      rintro W ⟨i1, i2, i3, i4, i5⟩ ht hD
      have hbl_lt := hbl.lt
      have hTW : Tab W := hT.keep i5 (fun h => hbt h.symm)
      have cl := i4.cell
      have hlo := hbl.lt
      have hW0W : W0.heap.size ≤ W.heap.size := ht.size
      have hDlt : W0.heap.size < W.heap.size := (Array.getElem?_eq_some_iff.1 hD).1
      clear hT hwc hTc ht hE0 hext hobox ho hoc hbe hbl hb0 ce
      go_wp2_with (go_at_call 39; refine (events_any _ _).mono ?_; rintro e w' ⟨rfl, rfl⟩)
      have hb1 : SetBox (W.alloc (.cells #[.int .u64 ((af y ||| 2 ^ y : Nat) : Int)] 55)) W.heap.size (af y ||| 2 ^ y) := new_at rfl
      have hE1 : Ext W (W.alloc (.cells #[.int .u64 ((af y ||| 2 ^ y : Nat) : Int)] 55)) := (Turn.refl _ _).alloc _
      have hs1 : (W.alloc (.cells #[.int .u64 ((af y ||| 2 ^ y : Nat) : Int)] 55)).heap.size = W.heap.size + 1 := by simp
      generalize W.alloc (.cells #[.int .u64 ((af y ||| 2 ^ y : Nat) : Int)] 55) = W1 at hb1 hE1 hs1 ⊢
      refine wp_range (xs := evs (af y ||| 2 ^ y)) (S := (· = W.heap.size)) (K := fun b' => b' = W.heap.size ∨ b' = 0) rfl (enters_of Tryd.func47 (by kernel_rfl) rfl)
        (events_iter _ hlv W.heap.size (by omega) W1 hb1 (hTW.keep hE1 id)) (fun _ h => .inl h) (fun b' h => by omega) (fun _ => rfl)
        (fun pre V => Ord V b true n (fun i => if i ∈ pre then bf i ||| (bf x ||| 2 ^ x) else bf i) (fun i => if i ∈ evs (bf x ||| 2 ^ x) then af i ||| (af y ||| 2 ^ y) else af i) ∧ V.heap[w.heap.size]? = some (.cells #[.pointer (some ⟨b, 0, none⟩)] 25 (0, 0)) ∧ SetBox V pe (bf x ||| 2 ^ x) ∧ Turn (· = b) w V ∧ V.heap[W0.heap.size]? = some (.deferred (some [])))
        (fun _ _ _ => False) ?hI2 ?hIx2 ?h02 (fun i t => (t.setIfInBounds 76 (.int .i64 i)).setIfInBounds 10 (.int .i64 i)) ?assign2 ?body2 ?done2 ?stop2
      case hI2 =>
        rintro pre A B ⟨i1, i2, i3, i5, i6⟩ ht
        exact ⟨i1.keep ht (by omega), ht.heap i2 (by omega), ht.heap i3 (by omega), i5.after ht (fun b' h1 h2 => by omega), ht.heap i6 (by omega)⟩
      case hIx2 => exact fun _ _ _ _ h _ => h
      case h02 =>
        intro V hV _
        have hE : Ext W V := hE1.trans hV
        exact ⟨by simpa using i1.keep hE id, hE.heap i2 id, hE.heap i3 id, i5.after hE (fun _ _ h => h.elim), hE.heap hD id⟩
      case assign2 =>
        intro i V K hK
        gi_wp2
        exact hK
      case body2 =>
        rintro pre i rest V hx' hsz ht ⟨i1, i2, i3, i5, i6⟩
        simp only [List.setIfInBounds_toArray, List.set_cons_zero, List.set_cons_succ]
        have hi64 : i < 64 := (mem_evs.1 (by rw [hx']; simp)).1
        have hi1 : (i : Int) < 64 := by omega
        obtain ⟨av, hav⟩ : ∃ av, (if i ∈ pre then bf i ||| (bf x ||| 2 ^ x) else bf i) = av := ⟨_, rfl⟩
        have cO := cell_of_one i2
        have cL := i3.cell
        have cA := i1.bf i hi64
        have fA := i1.free (2 + i)
        simp only [hav] at cA
        have havl : av < 18446744073709551616 := by
          rw [← hav]; split
          · exact or_lt64 (hf.2.1 i) hev
          · exact hf.2.1 i
        have oA : bits .or .u64 (av : Int) ((bf x ||| 2 ^ x : Nat) : Int) = ((av ||| (bf x ||| 2 ^ x) : Nat) : Int) := u64_or_nat _ _ havl hev
        have HX := Lib.hid hx'
        have HA := Lib.hid hav
        clear hx' hav hTW ht hE1 hD cl hb1
        gi_wp2
        refine wpIn_region_still_tail 11 (by kernel_rfl) (by kernel_rfl) (by kernel_rfl) (by rintro ⟨_, _, h⟩; exact h) ?_
        simp only [List.take_succ_cons, List.take_zero, List.drop_succ_cons, List.drop_zero]
        repeat still_step
        refine wpStill_nil ?_
        go_wp2
        refine ⟨((Turn.refl _ V).drew).setCell (.inr (by dsimp only; omega)) _, ?_, ?_, ?_, ?_, ?_⟩
        · rw [← or_step, HA.out]
          exact Ord.setBf (w := V.drew) i1 i _ hi64
        · exact set_keep (A := V.drew) i2 (by dsimp only; omega)
        · exact set_keep (A := V.drew) i3 (by dsimp only; omega)
        · exact (i5.drew).setCell (.inr rfl) _
        · exact set_keep (A := V.drew) i6 (by dsimp only; omega)
      case done2 =>
        rintro V ⟨i1, i2, i3, i5, i6⟩ ht hD2
        clear ht hE1 hb1 hTW cl
        go_wp2
        refine bodyPostM_ret (base := w.heap.size) (Marks.cons (Marks.cons trivial (by omega) (by first | exact i6 | (rw [← hs0]; exact i6)) (by simp)) (by omega) (by first | exact hD2 | (rw [← hs1]; exact hD2)) (by simp; omega)) (fun w' => results_tmp rfl _ _ _) ?_
        intro w' h1 _
        exact ⟨rfl, i5.after h1 (fun b' h2 h3 => by have := h3.1; omega), i1.keep h1 (Shut.not i1 rfl)⟩
      case stop2 => exact fun _ _ _ _ _ _ h => h.elim
    case stop => exact fun _ _ _ _ _ _ h => h.elim
end Go.Proofs.YtnnnbmkhgcpjoaaDoor
