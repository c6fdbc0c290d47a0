/- chron.Order.Copy. -/
import Derived.Test.YtnnnbmkhgcpjoaaDoorWorks
import Derived.Deep.WholeRow
namespace Go.Proofs.YtnnnbmkhgcpjoaaDoor
open Go.RowKit Go.Ab

theorem ordArr_one (mk : Bool) (n : Nat) (bf af : Nat → Nat) : (ordArr mk n bf af).all (·.oneCell') = true := by
  rw [Array.all_eq_true']
  intro v hv
  simp only [ordArr, chCells, List.mem_toArray, List.mem_cons, List.mem_append, List.mem_map] at hv
  rcases hv with rfl | rfl | ⟨_, _, rfl⟩ | ⟨_, _, rfl⟩ <;> rfl

set_option maxRecDepth 100000 in
set_option maxHeartbeats 2000000 in
theorem copy_ok (b n : Nat) (bf af : Nat → Nat) (w : World) (ho : Ord w b true n bf af) :
    Calls Tryd.prog 34 #[.pointer (some ⟨b, 0, none⟩)] w fun e w' => e = .returned (.pointer (some ⟨w.heap.size, 0, none⟩)) ∧ Ext w w' ∧ Ord w' w.heap.size true n bf af := by
  have cm := ho.made
  have z1 := zero_ord
  have z2 := ordArr_size true n bf af
  have z3 := ordArr_ne true n bf af
  have z4 := ordArr_size false 0 (fun _ => 0) (fun _ => 0)
  have z5 := ordArr_ne false 0 (fun _ => 0) (fun _ => 0)
  have z7 := run_storeCells_new (P := Tryd.prog) w 58 (ordArr false 0 (fun _ => 0) (fun _ => 0)) (ordArr true n bf af) (by rw [z2]; kernel_rfl) (by rw [z4, z2]) (ordArr_one _ _ _ _)
  go_enter Tryd.func34, Tryd.ntmps34
  go_wp2_with (refine wpList_load_row rfl 58 (.tmp 14) rfl b rfl _ _ _ _ ho Tryd.underlying58 rfl (by rw [z2]; kernel_rfl) ?_)
  go_ret
  exact ⟨rfl, (Turn.refl _ _).alloc _, World.alloc_heap_new _ _⟩
end Go.Proofs.YtnnnbmkhgcpjoaaDoor
