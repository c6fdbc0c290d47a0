/- ablautlaw13.ChronNews: the walk. -/
import Derived.Test.YtnnnbmkhgcpjoaaDoorAgree
import Derived.Test.YtnnnbmkhgcpjoaaDoorArgs
namespace Go.Proofs.YtnnnbmkhgcpjoaaDoor
open Go.RowKit Go.Ab

theorem rel_no (n : Nat) : Rel n noR := Rel.empty n

set_option maxRecDepth 100000 in
set_option maxHeartbeats 8000000 in
theorem news_law (w : World) (hT : Tab w) (n x y : Int) :
    Calls Tryd.prog 8 #[.int .i64 n, .agg #[.int .i64 x, .int .i64 y]] w fun e w' => e = .returned (.bool true) ∧ Ext w w' := by
  go_enter Tryd.func8, Tryd.ntmps8
  by_cases hn : n < 0 ∨ 64 < n
  · go_wp2_with fail
    have hE0 : Ext w (w.alloc (.cells #[.int .i64 x, .int .i64 y] 33)) := (Turn.refl _ _).alloc _
    have hb0 : (w.alloc (.cells #[.int .i64 x, .int .i64 y] 33)).heap[w.heap.size]? = some (.cells #[.int .i64 x, .int .i64 y] 33 (0, 0)) := new_at rfl
    generalize (w.alloc (.cells #[.int .i64 x, .int .i64 y] 33)) = w0 at hE0 hb0 ⊢
    have c0 : w0.cell? ⟨w.heap.size, 0, none⟩ = some (.int .i64 x) := by rw [World.cell?, hb0]; rfl
    have c1 : w0.cell? ⟨w.heap.size, 1, none⟩ = some (.int .i64 y) := by rw [World.cell?, hb0]; rfl
    refine (new_bad n hn _).mono ?_
    rintro e _ ⟨rfl, rfl⟩
    go_wp2_with fail
    refine (refNew_bad n hn _).mono ?_
    rintro e _ ⟨rfl, rfl⟩
    go_wp2_with fail
    refine (agree_nil x y).mono ?_
    rintro e w1 ⟨rfl, hE1⟩
    go_wp2_with fail
    refine (works_any w1 ((hT.keep hE0 id).keep hE1 id)).mono ?_
    rintro e w2 ⟨rfl, hE2⟩
    go_wp2
    go_ret
    exact ⟨rfl, (hE0.trans hE1).trans hE2⟩
  · obtain ⟨n, rfl⟩ := Int.eq_ofNat_of_zero_le (show 0 ≤ n by omega)
    have hn64 : n ≤ 64 := by omega
    go_wp2_with fail
    have hE0 : Ext w (w.alloc (.cells #[.int .i64 x, .int .i64 y] 33)) := (Turn.refl _ _).alloc _
    have hb0 : (w.alloc (.cells #[.int .i64 x, .int .i64 y] 33)).heap[w.heap.size]? = some (.cells #[.int .i64 x, .int .i64 y] 33 (0, 0)) := new_at rfl
    generalize (w.alloc (.cells #[.int .i64 x, .int .i64 y] 33)) = w0 at hE0 hb0 ⊢
    refine (new_R n hn64 w0).mono ?_
    rintro e w1 ⟨rfl, hE1, ho⟩
    have hb1 := hE1.keep hb0
    go_wp2_with fail
    refine (refNew_ok n hn64 w1).mono ?_
    rintro e w2 ⟨rfl, hE2, hr⟩
    have ho2 := OrdR.keep ho hE2 id
    have hb2 := hE2.keep hb1
    have c0 : w2.cell? ⟨w.heap.size, 0, none⟩ = some (.int .i64 x) := by rw [World.cell?, hb2]; rfl
    have c1 : w2.cell? ⟨w.heap.size, 1, none⟩ = some (.int .i64 y) := by rw [World.cell?, hb2]; rfl
    have hT2 := ((hT.keep hE0 id).keep hE1 id).keep hE2 id
    go_wp2_with fail
    refine (agree_ok hn64 (rel_no n) ho2 hr hT2 x y).mono ?_
    rintro e w3 ⟨rfl, hE3⟩
    go_wp2_with fail
    refine (works_any w3 (hT2.keep hE3 id)).mono ?_
    rintro e w4 ⟨rfl, hE4⟩
    go_wp2
    go_ret
    exact ⟨rfl, (((hE0.trans hE1).trans hE2).trans hE3).trans hE4⟩
theorem news_card (w : World) (hT : Tab w) (n x y : Int) :
    Calls Tryd.prog 8 #[.int .i64 n, .agg #[.int .i64 x, .int .i64 y]] w fun e w' => e = .returned (.bool true) ∧ Ext w w' := news_law w hT n x y
end Go.Proofs.YtnnnbmkhgcpjoaaDoor
