/- slices.Backward over patterns. -/
import Derived.Test.YtapfoaiibjdfnaaDoorAllowed
import Derived.Test.YtapfoaiibjdfnaaDoorOwn
namespace Go.Proofs.YtapfoaiibjdfnaaDoor
open Go.RowKit Go.Ab
attribute [local go_sem] Oper.semAt_some wide_fn wide_depth

/-- What comes, from the last to the first. -/
def xsB (cs : Nat → List Value) : Nat → List (Nat × List Value)
  | 0 => []
  | k + 1 => (k, cs k) :: xsB cs k
/-- These seven cells lie there. -/
def CellsOk (w : World) (ao : Option Addr) (K : Nat → Prop) (i : Nat) (c : List Value) : Prop :=
  ∃ g off k pl mi nt mn mx xo n cap, ao = some ⟨g, off, none⟩ ∧ K g ∧ w.rangeAt g (off + i * 7) c ∧ c = patCells k pl mi nt mn mx xo n cap

set_option maxRecDepth 100000 in
set_option maxHeartbeats 4000000 in
theorem backward_iter {w : World} {bx N cap : Nat} {ao : Option Addr} {cs : Nat → List Value} {K : Nat → Prop} (hK : K bx) (hb : w.heap[bx]? = some (.cells #[.slice ao N cap] 25 (0, 0))) (hN : N ≤ maxLen) (hel : ∀ i, i < N → CellsOk w ao K i (cs i)) :
    Iter Tryd.prog 82 #[.pointer (some ⟨bx, 0, none⟩)] (fun x : Nat × List Value => #[.int .i64 (x.1 : Int), .agg x.2.toArray]) (xsB cs N) (fun _ => False) K w := by
  intro l J Jx W ht hJ hJx hY h0
  unfold maxLen at hN
  have hbW : W.heap[bx]? = some (.cells #[.slice ao N cap] 25 (0, 0)) := ht.heap hb (fun h => h hK)
  have hz0 : IntKind.i64.wrap ((N : Int) - 1) = (N : Int) - 1 := IntWalk.i64_in _ (by omega)
  have c0 := cell_of_one hbW
  refine callsIn_wide.1 (callsIn_of_wp (n := 0) Tryd.func82 rfl trivial ?_ rfl)
  simp only [Tryd.ntmps82, List.size_toArray, List.length_cons, List.length_nil, Nat.reduceAdd, Nat.reduceSub, Array.replicate_succ, Array.replicate_zero, List.push_toArray, List.append_toArray, List.nil_append, List.cons_append]
  gi_wp2
  clear hz0 c0
  gi_loopw [3] (fun v3 wr => ∃ (c : Nat) (z : Int) (pre : List (Nat × List Value)), c ≤ N ∧ z + 1 = c ∧ v3 = .int .i64 z ∧ xsB cs N = pre ++ xsB cs c ∧ J pre wr ∧ Turn (fun b => ¬ K b) w wr)
    (fun v3 _ => (intOf v3 + 1).toNat)
  case atStart => exact ⟨N, (N : Int) - 1, [], Nat.le_refl _, by omega, rfl, rfl, h0, ht⟩
  case round =>
    obtain ⟨c, z, pre, hc, hz, rfl, hxs, hJs, htr⟩ := hrel
    cases c with
    | zero =>
      obtain rfl : z = -1 := by omega
      have hfin : J (xsB cs N) wr := by rw [hxs]; simpa [xsB] using hJs
      clear hxs
      gi_wp2
      go_end0
      exact ⟨⟨_, rfl⟩, .inl hfin⟩
    | succ k =>
      obtain rfl : z = (k : Int) := by omega
      obtain ⟨g, off, qk, pl, mi, nt, mn, mx, xo, n', cap', rfl, hKg, hra, hcs⟩ := hel k (by omega)
      have hra2 := rangeAt_turn htr hra (fun h => h hKg)
      obtain ⟨c0, c1, c2, c3, c4, c5, c6⟩ := patCells_at hra2 hcs
      have hb2 : wr.heap[bx]? = some (.cells #[.slice (some ⟨g, off, none⟩) N cap] 25 (0, 0)) := htr.heap hb (fun h => h hK)
      have cb := cell_of_one hb2
      have hx2 : xsB cs N = pre ++ (k, cs k) :: xsB cs k := hxs
      obtain ⟨fn, tmps, assign, body, hy, hR⟩ := hY pre _ _ wr hx2 hJs
      rw [hcs] at hy
      unfold patCells at hy
      dsimp only at hy
      have h1 : (k : Int) < (N : Int) := by omega
      have h2 : (0 : Int) ≤ (k : Int) := by omega
      have HX := Lib.hid hx2; have HT := Lib.hid htr; have HR := Lib.hid hR; have HN := Lib.hid hN; have HCS := Lib.hid hcs
      clear hx2 hxs htr hR hz hra hra2 hcs hel
      gi_wp2
      refine HR.out.mono ?_
      rintro e W3 (⟨rfl, hJ3, hk3⟩ | ⟨rfl, hJx3⟩)
      · have ht3 := HT.out.trans hk3
        clear hy hJs c0 c1 c2 c3 c4 c5 c6 cb
        gi_wp2
        go_roundw
        case rel => exact ⟨k, (k : Int) - 1, pre ++ [(k, cs k)], by omega, by omega, by first | rfl | go_num, by rw [HX.out]; simp, hJ3, ht3⟩
        case measure => first | (simp [intOf]; done) | (simp [intOf]; omega)
      · clear hy
        gi_wp2
        refine bodyPost_ret (results_none rfl _ _ _) rfl ?_
        exact ⟨⟨_, rfl⟩, .inr ⟨pre, _, _, HX.out, hJx3⟩⟩

theorem backward_any (ao : Option Addr) (N cap : Nat) (w : World) :
    Calls Tryd.prog 57 #[.slice ao N cap] w fun e w' => e = .returned (.func (.func 82) #[] #[.pointer (some ⟨w.heap.size, 0, none⟩)]) ∧ w' = w.alloc (.cells #[.slice ao N cap] 25) := by
  go_enter Tryd.func57, Tryd.ntmps57
  go_wp2
  go_ret
  exact ⟨rfl, rfl⟩
end Go.Proofs.YtapfoaiibjdfnaaDoor
