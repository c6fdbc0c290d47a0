/- chron.Order: nil, and the one that New did not make. -/
import Derived.Test.YtnnnbmkhgcpjoaaDoorWorks
import Derived.Test.YtnnnbmkhgcpjoaaDoorCopy
namespace Go.Proofs.YtnnnbmkhgcpjoaaDoor
open Go.RowKit Go.Ab
attribute [local go_sem] Oper.semAt_some wide_fn wide_depth

/-- No chronology: nil, or not made by New. -/
def ZOrd (w : World) (p : Option Addr) : Prop := p = none ∨ ∃ b, p = some ⟨b, 0, none⟩ ∧ Ord w b false 0 (fun _ => 0) (fun _ => 0)
theorem ZOrd.ext {A B : World} {p : Option Addr} (h : ZOrd A p) (ht : Ext A B) : ZOrd B p := by
  rcases h with h | ⟨b, h1, h2⟩
  · exact .inl h
  · exact .inr ⟨b, h1, h2.keep ht id⟩

theorem len_z {w : World} {p : Option Addr} (h : ZOrd w p) : Calls Tryd.prog 37 #[.pointer p] w fun e w' => e = .returned (.int .i64 0) ∧ w = w' := by
  rcases h with rfl | ⟨b, rfl, h⟩
  · exact len_nil w
  · exact len_any b 0 w h.n
theorem event_z {w : World} {p : Option Addr} (h : ZOrd w p) (a : Int) : Calls Tryd.prog 38 #[.pointer p, .int .i64 a] w fun e w' => e = .returned (.bool false) ∧ w = w' := by
  rcases h with rfl | ⟨b, rfl, h⟩
  · exact event_nil a w
  · have := event_any b 0 a w h.n
    rwa [isEv_not (by omega)] at this
theorem is_z {w : World} {p : Option Addr} (h : ZOrd w p) (x y : Int) : Calls Tryd.prog 31 #[.pointer p, .int .i64 x, .int .i64 y] w fun e w' => e = .returned (.bool false) ∧ w = w' := by
  go_enter Tryd.func31, Tryd.ntmps31
  go_wp2_with (go_at_call 38; refine (event_z h _).mono ?_; rintro e w' ⟨rfl, rfl⟩)
  go_ret
  exact ⟨rfl, rfl⟩
theorem free_z {w : World} {p : Option Addr} (h : ZOrd w p) (x y : Int) : Calls Tryd.prog 33 #[.pointer p, .int .i64 x, .int .i64 y] w fun e w' => e = .returned (.bool false) ∧ w = w' := by
  go_enter Tryd.func33, Tryd.ntmps33
  go_wp2_with (go_at_call 38; refine (event_z h _).mono ?_; rintro e w' ⟨rfl, rfl⟩)
  go_ret
  exact ⟨rfl, rfl⟩
theorem copy_z {w : World} {p : Option Addr} (h : ZOrd w p) : Calls Tryd.prog 34 #[.pointer p] w fun e w' => e = .returned (.pointer none) ∧ w = w' := by
  rcases h with rfl | ⟨b, rfl, h⟩
  · go_enter Tryd.func34, Tryd.ntmps34
    go_wp2
    go_ret
    exact ⟨rfl, rfl⟩
  · have hm := h.made
    go_enter Tryd.func34, Tryd.ntmps34
    go_wp2
    go_ret
    exact ⟨rfl, rfl⟩
theorem allows_z {w : World} {p : Option Addr} (h : ZOrd w p) : Calls Tryd.prog 21 #[.pointer p, .slice none 0 0] w fun e w' => e = .returned (.tuple #[.bool false, .int .i64 1]) ∧ w = w' := by
  rcases h with rfl | ⟨b, rfl, h⟩
  · go_enter Tryd.func21, Tryd.ntmps21
    go_wp2
    go_ret2
    exact ⟨rfl, rfl⟩
  · have hm := h.made
    go_enter Tryd.func21, Tryd.ntmps21
    go_wp2
    go_ret2
    exact ⟨rfl, rfl⟩
theorem first_z {w : World} {p : Option Addr} (h : ZOrd w p) : Calls Tryd.prog 30 #[.pointer p] w fun e w' => e = .returned (.slice none 0 0) ∧ w = w' := by
  go_enter Tryd.func30, Tryd.ntmps30
  go_wp2
  refine wp_loop_rounds 1 ?_; rw [rounds_succ]
  go_wp2_with (go_at_call 37; refine (len_z h).mono ?_; rintro e w' ⟨rfl, rfl⟩)
  go_ret
  exact ⟨rfl, rfl⟩

set_option maxHeartbeats 4000000 in
theorem before_z {w : World} {p : Option Addr} (h : ZOrd w p) (x y : Int) : Calls Tryd.prog 17 #[.pointer p, .int .i64 x, .int .i64 y] w fun e w' => e = .returned (.int .i64 1) ∧ Ext w w' := by
  rcases h with rfl | ⟨b, rfl, h⟩
  · refine calls_of_wp_marks Tryd.func17 rfl ?_
    simp only [Tryd.ntmps17, List.size_toArray, List.length_cons, List.length_nil, Nat.reduceAdd, Nat.reduceSub, Array.replicate_succ, Array.replicate_zero, List.push_toArray, List.append_toArray, List.nil_append, List.cons_append]
    go_wp2
    go_goals
    refine bodyPostM_ret (base := w.heap.size) trivial (fun w' => results_tmp rfl _ _ _) ?_
    intro w' h1 _
    exact ⟨rfl, Turn.after ((Turn.refl (fun _ => False) w).alloc _) h1 fun b' h2 h3 => by have := h3.1; omega⟩
  · have ho1 := h.keep ((Turn.refl (fun _ => False) w).alloc (.cells #[.pointer (some ⟨b, 0, none⟩)] 25)) id
    have hm := ho1.made
    have hlt := h.lt
    refine calls_of_wp_marks Tryd.func17 rfl ?_
    simp only [Tryd.ntmps17, List.size_toArray, List.length_cons, List.length_nil, Nat.reduceAdd, Nat.reduceSub, Array.replicate_succ, Array.replicate_zero, List.push_toArray, List.append_toArray, List.nil_append, List.cons_append]
    go_wp2
    go_goals
    refine bodyPostM_ret (base := w.heap.size) trivial (fun w' => results_tmp rfl _ _ _) ?_
    intro w' h1 _
    exact ⟨rfl, Turn.after ((Turn.refl (fun _ => False) w).alloc _) h1 fun b' h2 h3 => by have := h3.1; omega⟩
set_option maxHeartbeats 4000000 in
theorem count_z {w : World} {p : Option Addr} (h : ZOrd w p) : Calls Tryd.prog 19 #[.pointer p] w fun e w' => e = .returned (.tuple #[.int .i64 0, .int .i64 1]) ∧ Ext w w' := by
  rcases h with rfl | ⟨b, rfl, h⟩
  · refine calls_of_wp_marks Tryd.func19 rfl ?_
    simp only [Tryd.ntmps19, List.size_toArray, List.length_cons, List.length_nil, Nat.reduceAdd, Nat.reduceSub, Array.replicate_succ, Array.replicate_zero, List.push_toArray, List.append_toArray, List.nil_append, List.cons_append]
    go_wp2
    go_goals
    refine bodyPostM_ret (base := w.heap.size) trivial (fun w' => results_tmp2 rfl _ _ _) ?_
    intro w' h1 _
    exact ⟨rfl, Turn.after ((Turn.refl (fun _ => False) w).alloc _) h1 fun b' h2 h3 => by have := h3.1; omega⟩
  · have ho1 := h.keep ((Turn.refl (fun _ => False) w).alloc (.cells #[.pointer (some ⟨b, 0, none⟩)] 25)) id
    have hm := ho1.made
    have hlt := h.lt
    refine calls_of_wp_marks Tryd.func19 rfl ?_
    simp only [Tryd.ntmps19, List.size_toArray, List.length_cons, List.length_nil, Nat.reduceAdd, Nat.reduceSub, Array.replicate_succ, Array.replicate_zero, List.push_toArray, List.append_toArray, List.nil_append, List.cons_append]
    go_wp2
    go_goals
    refine bodyPostM_ret (base := w.heap.size) trivial (fun w' => results_tmp2 rfl _ _ _) ?_
    intro w' h1 _
    exact ⟨rfl, Turn.after ((Turn.refl (fun _ => False) w).alloc _) h1 fun b' h2 h3 => by have := h3.1; omega⟩
set_option maxHeartbeats 4000000 in
theorem pairs_z {w : World} {p : Option Addr} (h : ZOrd w p) : Calls Tryd.prog 28 #[.pointer p] w fun e w' => e = .returned (.slice none 0 0) ∧ Ext w w' := by
  have hE0 : Ext w (w.alloc (.cells #[.slice none 0 0] 22)) := (Turn.refl _ _).alloc _
  have h1 := h.ext hE0
  refine calls_of_wp_marks Tryd.func28 rfl ?_
  simp only [Tryd.ntmps28, List.size_toArray, List.length_cons, List.length_nil, Nat.reduceAdd, Nat.reduceSub, Array.replicate_succ, Array.replicate_zero, List.push_toArray, List.append_toArray, List.nil_append, List.cons_append]
  go_wp2_with (go_at_call 37; refine (len_z h1).mono ?_; rintro e w' ⟨rfl, rfl⟩)
  refine wp_loop_rounds 1 ?_; rw [rounds_succ]
  go_wp2
  refine bodyPostM_ret (base := w.heap.size) trivial (fun w' => results_tmp rfl _ _ _) ?_
  intro w' h1 _
  exact ⟨rfl, Turn.after ((Turn.refl (fun _ => False) w).alloc _) h1 fun b' h2 h3 => by have := h3.1; omega⟩
theorem reduced_z {w : World} {p : Option Addr} (h : ZOrd w p) : Calls Tryd.prog 25 #[.pointer p] w fun e w' => e = .returned (.slice none 0 0) ∧ Ext w w' := by
  go_enter Tryd.func25, Tryd.ntmps25
  go_wp2_with fail
  refine (pairs_z h).mono ?_
  rintro e w1 ⟨rfl, hE⟩
  go_wp2
  refine wp_loop_rounds 1 ?_; rw [rounds_succ]
  go_wp2
  go_ret
  exact ⟨rfl, hE⟩
set_option maxHeartbeats 4000000 in
theorem levels_z {w : World} {p : Option Addr} (h : ZOrd w p) : Calls Tryd.prog 29 #[.pointer p] w fun e w' => ∃ a c, e = .returned (.slice a 0 c) ∧ Ext w w' := by
  refine calls_of_wp_marks Tryd.func29 rfl ?_
  simp only [Tryd.ntmps29, List.size_toArray, List.length_cons, List.length_nil, Nat.reduceAdd, Nat.reduceSub, Array.replicate_succ, Array.replicate_zero, List.push_toArray, List.append_toArray, List.nil_append, List.cons_append]
  go_wp2_with (first | (go_at_call 37; refine (len_z h).mono ?_; rintro e w' ⟨rfl, rfl⟩) | (at_make; refine make_row1 rfl (.tmp 8) (.tmp 8) 23 rfl w.heap.size 3 _ 8 Tryd.underlying23 Tryd.infoInt rfl .i64 .i64 0 0 0 rfl rfl rfl rfl ?c1 ?c2 (Nat.le_refl _) ?_))
  case c1 => omega
  case c2 => unfold maxLen; omega
  intro w1 hO1 hE1
  go_wp2_with fail
  have hEa := (hE1.alloc (.cells #[.slice (some ⟨w.heap.size, 0, none⟩) 0 0] 23))
  refine (first_z (h.ext hEa)).mono ?_
  rintro e _ ⟨rfl, rfl⟩
  go_wp2
  refine wp_loop_rounds 1 ?_; rw [rounds_succ]
  go_wp2
  refine bodyPostM_ret (base := w.heap.size) trivial (fun w' => results_tmp rfl _ _ _) ?_
  intro w' h1 _
  exact ⟨_, _, rfl, hEa.after h1 fun b' h2 h3 => by have := h3.1; omega⟩
end Go.Proofs.YtnnnbmkhgcpjoaaDoor
