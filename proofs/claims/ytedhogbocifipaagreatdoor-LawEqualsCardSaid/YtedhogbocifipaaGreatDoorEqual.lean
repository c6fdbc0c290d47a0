/- pats.Equal. -/
import Derived.Test.YtedhogbocifipaaGreatDoorGa26
set_option maxRecDepth 100000
set_option maxHeartbeats 8000000
namespace Go.Proofs.YtedhogbocifipaaGreatDoor
open Go.RowKit Go.Ab
attribute [local go_sem] Oper.semAt_some wide_fn wide_depth

mutual
theorem like_all : ∀ p : Pat, LikeOk p
 | .node k pl mi nt mn mx l => like_step k pl mi nt mn mx l (like_alls l)
theorem like_alls : ∀ l : List Pat, ∀ p ∈ l, LikeOk p
 | [], _, h => by cases h
 | q :: l, p, h => (List.mem_cons.1 h).elim (fun e => e ▸ like_all q) (fun h => like_alls l p h)
end

def equalV (p q : Pat) : Bool := decide (chkP p = 0) && decide (chkP q = 0) && likeP p q

theorem equal_any {K : Nat → Prop} {w : World} {p q : Pat} {cs ds : List Value} (hp : PatAt K w p cs) (hq : PatAt K w q ds) (hK : ∀ g, K g → g < w.heap.size) (hT : Tab w) :
  Calls Tryz.prog 71 #[.agg cs.toArray, .agg ds.toArray] w fun e w' => e = .returned (.bool (equalV p q)) ∧ Ext w w' := by
 have hck := fun (V : World) (hE : Ext w V) => check_any (K := K) (hp.ext hE) (fun g hg => Nat.lt_of_lt_of_le (hK g hg) hE.size) (hT.keep hE id)
 have hcq := fun (V : World) (hE : Ext w V) => check_any (K := K) (hq.ext hE) (fun g hg => Nat.lt_of_lt_of_le (hK g hg) hE.size) (hT.keep hE id)
 have hlk := fun (V : World) (hE : Ext w V) => like_all p K V q cs ds (hp.ext hE) (hq.ext hE)
 obtain ⟨ao, cap, rfl, hlc, hcm, _⟩ := patAt_cells hp
 obtain ⟨bo, bcap, rfl, hlc', hcm', _⟩ := patAt_cells hq
 clear hp hq hlc hcm hlc' hcm' hT hK
 obtain ⟨z, hz⟩ : ∃ z, chkP p = z := ⟨_, rfl⟩
 obtain ⟨y, hy⟩ : ∃ z, chkP q = z := ⟨_, rfl⟩
 obtain ⟨lb, hlb⟩ : ∃ b, likeP p q = b := ⟨_, rfl⟩
 have HE : Hid (equalV p q = (decide (z = 0) && decide (y = 0) && lb)) := Lib.hid (by unfold equalV; rw [hz, hy, hlb])
 have HCK := Lib.hid hck; have HCQ := Lib.hid hcq; have HLK := Lib.hid hlk
 rw [hz] at HCK
 rw [hy] at HCQ
 rw [hlb] at HLK
 clear hck hcq hlk hz hy hlb
 unfold patCells at HCK HCQ HLK ⊢
 go_enter Tryz.func71, Tryz.ntmps71
 go_wp2_with fail
 refine (HCK.out _ (((Turn.refl _ w).alloc _).alloc _)).mono ?_
 rintro e w2 ⟨rfl, hE2⟩
 have hE02 : Ext w w2 := Turn.trans (((Turn.refl _ w).alloc _).alloc _) hE2
 have hx : w2.heap[w.heap.size]? = some (.cells #[.int .i64 p.k, .int .u32 (p.pl : Int), .int .u32 (p.mi : Int), .bool p.nt, .int .i64 p.mn, .int .i64 p.mx, .slice ao p.l.length cap] 27 (0, 0)) := hE2.keep (new_keep (new_at rfl))
 have hx' : w2.heap[w.heap.size + 1]? = some (.cells #[.int .i64 q.k, .int .u32 (q.pl : Int), .int .u32 (q.mi : Int), .bool q.nt, .int .i64 q.mn, .int .i64 q.mx, .slice bo q.l.length bcap] 27 (0, 0)) := hE2.keep (new_at (by simp))
 have cX := fun j => cell_of_row _ _ j _ _ _ hx
 have cY := fun j => cell_of_row _ _ j _ _ _ hx'
 clear hE2
 by_cases hz0 : z = 0
 ·have hz1 : (z == 0) = true := by rw [beq_iff_eq]; exact hz0
  go_wp2_with fail
  refine (HCQ.out _ hE02).mono ?_
  rintro e w3 ⟨rfl, hE3⟩
  have hE03 := hE02.trans hE3
  have hx3 := hE3.keep hx
  have hx3' := hE3.keep hx'
  clear hE3 cX cY hx hx'
  have cX := fun j => cell_of_row _ _ j _ _ _ hx3
  have cY := fun j => cell_of_row _ _ j _ _ _ hx3'
  by_cases hy0 : y = 0
  ·have hy1 : (y == 0) = true := by rw [beq_iff_eq]; exact hy0
   go_wp2_with fail
   refine (HLK.out _ hE03).mono ?_
   rintro e w4 ⟨rfl, hE4⟩
   have hE04 := hE03.trans hE4
   clear hE4 cX cY hx3 hx3'
   go_wp2
   go_ret
   exact ⟨by rw [HE.out, decide_eq_true hz0, decide_eq_true hy0, Bool.true_and, Bool.true_and]; rfl, hE04⟩
  ·have hy1 : (y == 0) = false := by rw [beq_eq_false_iff_ne]; exact hy0
   go_wp2
   go_ret
   exact ⟨by rw [HE.out, decide_eq_false hy0, Bool.and_false, Bool.false_and]; rfl, hE03⟩
 ·have hz1 : (z == 0) = false := by rw [beq_eq_false_iff_ne]; exact hz0
  go_wp2
  go_ret
  exact ⟨by rw [HE.out, decide_eq_false hz0, Bool.false_and, Bool.false_and]; rfl, hE02⟩
end Go.Proofs.YtedhogbocifipaaGreatDoor
