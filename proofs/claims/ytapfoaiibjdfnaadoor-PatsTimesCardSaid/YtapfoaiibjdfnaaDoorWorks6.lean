/- ablautlaw06.works. -/
import Derived.Test.YtapfoaiibjdfnaaDoorWorksV
import Derived.Test.YtapfoaiibjdfnaaDoorMake
import Derived.Test.YtapfoaiibjdfnaaDoorPlaces
import Derived.Test.YtapfoaiibjdfnaaDoorGood
namespace Go.Proofs.YtapfoaiibjdfnaaDoor
open Go.RowKit Go.Ab
attribute [local go_sem] Oper.semAt_some wide_fn wide_depth

theorem rd_block {w : World} {g n cap sz : Nat} {xs : List Value} {t : TypeId} (h : w.heap[g]? = some (.cells xs.toArray t (0, 0))) (hl : xs.length = n * sz) (hn : n ≤ maxLen) : Rd w (.slice (some ⟨g, 0, none⟩) n cap) n sz xs := by
  refine ⟨hl, hn, _, cap, rfl, fun _ => ⟨g, 0, rfl, (Array.getElem?_eq_some_iff.1 h).1, fun j hj => ?_⟩⟩
  rw [Nat.zero_add]
  have : j < xs.length := by omega
  simp [World.cell?, h, this]
theorem patAt_leaf (K : Nat → Prop) (w : World) (k : Int) {pl mi : Nat} (nt : Bool) (mn mx : Int) (h1 : pl < 4294967296) (h2 : mi < 4294967296) : PatAt K w (.node k pl mi nt mn mx []) (patCells k pl mi nt mn mx none 0 0) := by
  unfold PatAt
  exact ⟨none, 0, rfl, h1, h2, by simp, by simp [maxLen], by unfold PatsAt; trivial⟩
theorem flatten_get : ∀ (css : List (List Value)), (∀ c ∈ css, c.length = 7) → ∀ j i, j < css.length → i < 7 → css.flatten[j * 7 + i]? = (css.getD j [])[i]?
  | [], _, j, i, h, _ => by simp at h
  | c :: css, h7, 0, i, _, hi => by
    have := h7 c (List.mem_cons_self ..)
    rw [List.flatten_cons, List.getElem?_append_left (by omega)]
    simp
  | c :: css, h7, j + 1, i, hj, hi => by
    have h1 := h7 c (List.mem_cons_self ..)
    rw [List.flatten_cons, List.getElem?_append_right (by omega), show (j + 1) * 7 + i - c.length = j * 7 + i by omega, flatten_get css (fun x hx => h7 x (List.mem_cons_of_mem _ hx)) j i (by simpa using hj) hi]
    simp
/-- Patterns in a block of their own. -/
theorem PatsAt.block {K : Nat → Prop} {w : World} {g : Nat} {t : TypeId} {l : List Pat} {css : List (List Value)} (h : w.heap[g]? = some (.cells css.flatten.toArray t (0, 0))) (hl : css.length = l.length) (h7 : ∀ c ∈ css, c.length = 7)
    (hp : ∀ j (hj : j < l.length), PatAt K w l[j] (css.getD j [])) (hK : K g) : PatsAt K w l (some ⟨g, 0, none⟩) 0 := by
  refine PatsAt.mk fun j hj => ⟨g, 0, css.getD j [], rfl, hK, (Array.getElem?_eq_some_iff.1 h).1, fun i v hv => ?_, hp j hj⟩
  have hc : (css.getD j []).length = 7 := by
    rw [List.getD_eq_getElem?_getD, List.getElem?_eq_getElem (by omega)]
    exact h7 _ (List.getElem_mem _)
  have hi : i < 7 := by rw [← hc]; exact (List.getElem?_eq_some_iff.1 hv).1
  have := flatten_get css h7 j i (by omega) hi
  rw [hv] at this
  rw [show 0 + (0 + j) * 7 + i = j * 7 + i by omega]
  simp only [World.cell?, h]
  simpa using this

def InHeap (W : World) (g : Nat) : Prop := g < W.heap.size
theorem InHeap.ext {A B : World} {g : Nat} (h : InHeap A g) (ht : Ext A B) : InHeap B g := Nat.lt_of_lt_of_le h ht.size
theorem seq_any' (ao : Option Addr) (n cap : Nat) (w : World) : Calls Tryd.prog 30 #[.slice ao n cap] w fun e w' => e = .returned (.agg #[.int .i64 3, .int .u32 0, .int .u32 0, .bool false, .int .i64 0, .int .i64 0, .slice ao n cap]) ∧ Ext w w' := seq_any ao n cap w
theorem v_any' (w : World) : Calls Tryd.prog 42 #[] w fun e w' => e = .returned (.agg #[.int .i64 1, .int .u32 4, .int .u32 0, .bool false, .int .i64 0, .int .i64 0, .slice none 0 0]) ∧ Ext w w' := v_any w
theorem c_any' (w : World) : Calls Tryd.prog 46 #[] w fun e w' => e = .returned (.agg #[.int .i64 1, .int .u32 2, .int .u32 0, .bool false, .int .i64 0, .int .i64 0, .slice none 0 0]) ∧ Ext w w' := c_any w
mutual
theorem PatAt.bound {K : Nat → Prop} {A : World} : ∀ {p : Pat} {cs : List Value}, PatAt K A p cs → PatAt (fun g => g < A.heap.size) A p cs
  | .node k pl mi nt mn mx l, cs, h => by
    unfold PatAt at h ⊢
    obtain ⟨ao, cap, h1, h2, h3, h4, h5, h6⟩ := h
    exact ⟨ao, cap, h1, h2, h3, h4, h5, PatsAt.bound h6⟩
theorem PatsAt.bound {K : Nat → Prop} {A : World} : ∀ {l : List Pat} {ao : Option Addr} {i : Nat}, PatsAt K A l ao i → PatsAt (fun g => g < A.heap.size) A l ao i
  | [], _, _, _ => by unfold PatsAt; trivial
  | p :: l, ao, i, h => by
    unfold PatsAt at h ⊢
    obtain ⟨⟨g, off, cs, h1, h2, h3, h4, h5⟩, h6⟩ := h
    exact ⟨⟨g, off, cs, h1, h3, h3, h4, PatAt.bound h5⟩, PatsAt.bound h6⟩
end

set_option maxRecDepth 100000 in
set_option maxHeartbeats 8000000 in
theorem works_any (w : World) (hT : Tab w) :
    Calls Tryd.prog 14 #[] w fun e w' => e = .returned (.bool true) ∧ Ext w w' := by
  have E : Ext w w := Turn.refl _ w
  go_enter Tryd.func14, Tryd.ntmps14
  go_wp2_with fail
  refine (a_any _).mono ?_
  rintro e w1 ⟨rfl, hN⟩
  replace E := E.trans hN
  clear hN
  go_wp2_with fail
  refine (p_any _).mono ?_
  rintro e w2 ⟨rfl, hN⟩
  replace E := E.trans hN
  clear hN
  go_wp2_with fail
  refine (a_any _).mono ?_
  rintro e w3 ⟨rfl, hN⟩
  replace E := E.trans hN
  clear hN
  go_wp2_with fail
  have hA : (w3.alloc (.cells #[.int .u32 4, .int .u32 2, .int .u32 2, .int .u32 5, .int .u32 4, .int .u32 2] 24)).heap[w3.heap.size]? = some (.cells #[.int .u32 4, .int .u32 2, .int .u32 2, .int .u32 5, .int .u32 4, .int .u32 2] 24 (0, 0)) := new_at rfl
  have hN : Ext w3 (w3.alloc (.cells #[.int .u32 4, .int .u32 2, .int .u32 2, .int .u32 5, .int .u32 4, .int .u32 2] 24)) := (Turn.refl _ w3).alloc _
  have hB : w3.heap.size < (w3.alloc (.cells #[.int .u32 4, .int .u32 2, .int .u32 2, .int .u32 5, .int .u32 4, .int .u32 2] 24)).heap.size := by simp
  replace E := E.trans hN
  clear hN
  generalize w3.alloc (.cells #[.int .u32 4, .int .u32 2, .int .u32 2, .int .u32 5, .int .u32 4, .int .u32 2] 24) = w4 at hA hB E  ⊢
  generalize w3.heap.size = gA at hA hB ⊢
  have WA : WordAt w4 (.slice (some ⟨gA, 0, none⟩) 3 3) [(4, 2), (2, 5), (4, 2)] := ⟨rd_block (xs := sndL [(4, 2), (2, 5), (4, 2)]) hA rfl (by decide), by simp [WdOk]⟩
  clear hA hB
  go_wp2_with fail
  refine (p_any _).mono ?_
  rintro e w5 ⟨rfl, hN⟩
  replace WA := WA.ext hN
  replace E := E.trans hN
  clear hN
  go_wp2_with fail
  refine (p_any _).mono ?_
  rintro e w6 ⟨rfl, hN⟩
  replace WA := WA.ext hN
  replace E := E.trans hN
  clear hN
  go_wp2_with fail
  refine (a_any _).mono ?_
  rintro e w7 ⟨rfl, hN⟩
  replace WA := WA.ext hN
  replace E := E.trans hN
  clear hN
  go_wp2_with fail
  have hA : (w7.alloc (.cells #[.int .u32 2, .int .u32 5, .int .u32 2, .int .u32 5, .int .u32 4, .int .u32 2] 24)).heap[w7.heap.size]? = some (.cells #[.int .u32 2, .int .u32 5, .int .u32 2, .int .u32 5, .int .u32 4, .int .u32 2] 24 (0, 0)) := new_at rfl
  have hN : Ext w7 (w7.alloc (.cells #[.int .u32 2, .int .u32 5, .int .u32 2, .int .u32 5, .int .u32 4, .int .u32 2] 24)) := (Turn.refl _ w7).alloc _
  have hB : w7.heap.size < (w7.alloc (.cells #[.int .u32 2, .int .u32 5, .int .u32 2, .int .u32 5, .int .u32 4, .int .u32 2] 24)).heap.size := by simp
  replace WA := WA.ext hN
  replace E := E.trans hN
  clear hN
  generalize w7.alloc (.cells #[.int .u32 2, .int .u32 5, .int .u32 2, .int .u32 5, .int .u32 4, .int .u32 2] 24) = w8 at hA hB E WA ⊢
  generalize w7.heap.size = gP at hA hB ⊢
  have WP : WordAt w8 (.slice (some ⟨gP, 0, none⟩) 3 3) [(2, 5), (2, 5), (4, 2)] := ⟨rd_block (xs := sndL [(2, 5), (2, 5), (4, 2)]) hA rfl (by decide), by simp [WdOk]⟩
  clear hA hB
  go_wp2_with fail
  refine (v_any' _).mono ?_
  rintro e w9 ⟨rfl, hN⟩
  replace WA := WA.ext hN
  replace WP := WP.ext hN
  replace E := E.trans hN
  clear hN
  go_wp2_with fail
  have hc := ends_any (K := fun _ => False) (patAt_leaf (fun _ => False) _ 1 false 0 0 (show 4 < 4294967296 by decide) (show 0 < 4294967296 by decide)) (fun _ h => h.elim) WA (hT.keep E id) 0
  have q := works_1
  simp only [wV, wApa] at q
  rw [q.1, q.2] at hc
  clear q
  refine hc.mono ?_
  clear hc
  rintro e w10 ⟨xX, rfl, hO, hN⟩
  replace WA := WA.ext hN
  replace WP := WP.ext hN
  replace E := E.trans hN
  have X := Rd.of_own hO
  obtain ⟨aX, cX, rfl⟩ := own_slice hO
  clear hO
  clear hN
  go_wp2_with fail
  refine (c_any' _).mono ?_
  rintro e w11 ⟨rfl, hN⟩
  replace WA := WA.ext hN
  replace WP := WP.ext hN
  replace X := X.ext hN
  replace E := E.trans hN
  clear hN
  go_wp2_with fail
  refine (rep_any (patAt_leaf (fun _ => False) _ 1 false 0 0 (show 2 < 4294967296 by decide) (show 0 < 4294967296 by decide)) 0 (-1)).mono ?_
  rintro e w12 ⟨ds, rfl, hP, hN⟩
  replace WA := WA.ext hN
  replace WP := WP.ext hN
  replace X := X.ext hN
  replace E := E.trans hN
  replace hP := PatAt.bound (p := .node 5 0 0 false 0 (-1) [.node 1 2 0 false 0 0 []]) hP
  clear hN
  go_wp2_with fail
  have hc := ends_any (K := fun g => g < w12.heap.size) (p := .node 5 0 0 false 0 (-1) [.node 1 2 0 false 0 0 []]) hP (fun _ h => h) WP (hT.keep E id) 0
  have q := works_2
  simp only [wC, wRep, wPpa] at q
  rw [q.1, q.2] at hc
  clear q
  refine hc.mono ?_
  clear hc
  rintro e w13 ⟨xY, rfl, hO, hN⟩
  replace WA := WA.ext hN
  replace WP := WP.ext hN
  replace X := X.ext hN
  replace E := E.trans hN
  have Y := Rd.of_own hO
  obtain ⟨aY, cY, rfl⟩ := own_slice hO
  clear hO
  clear hN
  clear hP
  go_wp2_with fail
  refine (c_any' _).mono ?_
  rintro e w14 ⟨rfl, hN⟩
  replace WA := WA.ext hN
  replace WP := WP.ext hN
  replace X := X.ext hN
  replace Y := Y.ext hN
  replace E := E.trans hN
  clear hN
  go_wp2_with fail
  refine (rep_any (patAt_leaf (fun _ => False) _ 1 false 0 0 (show 2 < 4294967296 by decide) (show 0 < 4294967296 by decide)) 0 (-1)).mono ?_
  rintro e w15 ⟨ds, rfl, hP, hN⟩
  replace WA := WA.ext hN
  replace WP := WP.ext hN
  replace X := X.ext hN
  replace Y := Y.ext hN
  replace E := E.trans hN
  replace hP := PatAt.bound (p := .node 5 0 0 false 0 (-1) [.node 1 2 0 false 0 0 []]) hP
  clear hN
  go_wp2_with fail
  have hc := begins_any (K := fun g => g < w15.heap.size) (p := .node 5 0 0 false 0 (-1) [.node 1 2 0 false 0 0 []]) hP (fun _ h => h) WP (hT.keep E id) 2
  have q := works_3
  simp only [wC, wRep, wPpa] at q
  rw [q.1, q.2] at hc
  clear q
  refine hc.mono ?_
  clear hc
  rintro e w16 ⟨xZ, rfl, hO, hN⟩
  replace WA := WA.ext hN
  replace WP := WP.ext hN
  replace X := X.ext hN
  replace Y := Y.ext hN
  replace E := E.trans hN
  have Z := Rd.of_own hO
  obtain ⟨aZ, cZ, rfl⟩ := own_slice hO
  clear hO
  clear hN
  clear hP
  go_wp2_with fail
  refine (c_any' _).mono ?_
  rintro e w17 ⟨rfl, hN⟩
  replace WA := WA.ext hN
  replace WP := WP.ext hN
  replace X := X.ext hN
  replace Y := Y.ext hN
  replace Z := Z.ext hN
  replace E := E.trans hN
  clear hN
  go_wp2_with fail
  refine (v_any' _).mono ?_
  rintro e w18 ⟨rfl, hN⟩
  replace WA := WA.ext hN
  replace WP := WP.ext hN
  replace X := X.ext hN
  replace Y := Y.ext hN
  replace Z := Z.ext hN
  replace E := E.trans hN
  clear hN
  go_wp2_with fail
  refine (c_any' _).mono ?_
  rintro e w19 ⟨rfl, hN⟩
  replace WA := WA.ext hN
  replace WP := WP.ext hN
  replace X := X.ext hN
  replace Y := Y.ext hN
  replace Z := Z.ext hN
  replace E := E.trans hN
  clear hN
  go_wp2_with fail
  refine (v_any' _).mono ?_
  rintro e w20 ⟨rfl, hN⟩
  replace WA := WA.ext hN
  replace WP := WP.ext hN
  replace X := X.ext hN
  replace Y := Y.ext hN
  replace Z := Z.ext hN
  replace E := E.trans hN
  clear hN
  go_wp2_with fail
  have hA : (w20.alloc (.cells #[.int .i64 1, .int .u32 2, .int .u32 0, .bool false, .int .i64 0, .int .i64 0, .slice none 0 0, .int .i64 1, .int .u32 4, .int .u32 0, .bool false, .int .i64 0, .int .i64 0, .slice none 0 0, .int .i64 1, .int .u32 2, .int .u32 0, .bool false, .int .i64 0, .int .i64 0, .slice none 0 0, .int .i64 1, .int .u32 4, .int .u32 0, .bool false, .int .i64 0, .int .i64 0, .slice none 0 0] 27)).heap[w20.heap.size]? = some (.cells #[.int .i64 1, .int .u32 2, .int .u32 0, .bool false, .int .i64 0, .int .i64 0, .slice none 0 0, .int .i64 1, .int .u32 4, .int .u32 0, .bool false, .int .i64 0, .int .i64 0, .slice none 0 0, .int .i64 1, .int .u32 2, .int .u32 0, .bool false, .int .i64 0, .int .i64 0, .slice none 0 0, .int .i64 1, .int .u32 4, .int .u32 0, .bool false, .int .i64 0, .int .i64 0, .slice none 0 0] 27 (0, 0)) := new_at rfl
  have hN : Ext w20 (w20.alloc (.cells #[.int .i64 1, .int .u32 2, .int .u32 0, .bool false, .int .i64 0, .int .i64 0, .slice none 0 0, .int .i64 1, .int .u32 4, .int .u32 0, .bool false, .int .i64 0, .int .i64 0, .slice none 0 0, .int .i64 1, .int .u32 2, .int .u32 0, .bool false, .int .i64 0, .int .i64 0, .slice none 0 0, .int .i64 1, .int .u32 4, .int .u32 0, .bool false, .int .i64 0, .int .i64 0, .slice none 0 0] 27)) := (Turn.refl _ w20).alloc _
  have hB : w20.heap.size < (w20.alloc (.cells #[.int .i64 1, .int .u32 2, .int .u32 0, .bool false, .int .i64 0, .int .i64 0, .slice none 0 0, .int .i64 1, .int .u32 4, .int .u32 0, .bool false, .int .i64 0, .int .i64 0, .slice none 0 0, .int .i64 1, .int .u32 2, .int .u32 0, .bool false, .int .i64 0, .int .i64 0, .slice none 0 0, .int .i64 1, .int .u32 4, .int .u32 0, .bool false, .int .i64 0, .int .i64 0, .slice none 0 0] 27)).heap.size := by simp
  replace WA := WA.ext hN
  replace WP := WP.ext hN
  replace X := X.ext hN
  replace Y := Y.ext hN
  replace Z := Z.ext hN
  replace E := E.trans hN
  clear hN
  generalize w20.alloc (.cells #[.int .i64 1, .int .u32 2, .int .u32 0, .bool false, .int .i64 0, .int .i64 0, .slice none 0 0, .int .i64 1, .int .u32 4, .int .u32 0, .bool false, .int .i64 0, .int .i64 0, .slice none 0 0, .int .i64 1, .int .u32 2, .int .u32 0, .bool false, .int .i64 0, .int .i64 0, .slice none 0 0, .int .i64 1, .int .u32 4, .int .u32 0, .bool false, .int .i64 0, .int .i64 0, .slice none 0 0] 27) = w21 at hA hB E WA WP X Y Z ⊢
  generalize w20.heap.size = gS at hA hB ⊢
  have PS : PatsAt (fun x => x = gS) w21 [(.node 1 2 0 false 0 0 []), (.node 1 4 0 false 0 0 []), (.node 1 2 0 false 0 0 []), (.node 1 4 0 false 0 0 [])] (some ⟨gS, 0, none⟩) 0 := PatsAt.block (css := [[.int .i64 1, .int .u32 2, .int .u32 0, .bool false, .int .i64 0, .int .i64 0, .slice none 0 0], [.int .i64 1, .int .u32 4, .int .u32 0, .bool false, .int .i64 0, .int .i64 0, .slice none 0 0], [.int .i64 1, .int .u32 2, .int .u32 0, .bool false, .int .i64 0, .int .i64 0, .slice none 0 0], [.int .i64 1, .int .u32 4, .int .u32 0, .bool false, .int .i64 0, .int .i64 0, .slice none 0 0]]) hA rfl (by simp) (fun j hj => by match j, hj with | 0, _ => exact patAt_leaf _ _ 1 false 0 0 (by decide) (by decide) | 1, _ => exact patAt_leaf _ _ 1 false 0 0 (by decide) (by decide) | 2, _ => exact patAt_leaf _ _ 1 false 0 0 (by decide) (by decide) | 3, _ => exact patAt_leaf _ _ 1 false 0 0 (by decide) (by decide)) rfl
  clear hA
  have PSB : InHeap w21 gS := hB
  clear hB
  go_wp2_with fail
  refine (seq_any' (some ⟨gS, 0, none⟩) 4 4 _).mono ?_
  rintro e w22 ⟨rfl, hN⟩
  replace WA := WA.ext hN
  replace WP := WP.ext hN
  replace X := X.ext hN
  replace Y := Y.ext hN
  replace Z := Z.ext hN
  replace PS := PS.ext hN
  replace PSB := PSB.ext hN
  replace E := E.trans hN
  clear hN
  go_wp2_with fail
  refine (p_any _).mono ?_
  rintro e w23 ⟨rfl, hN⟩
  replace WA := WA.ext hN
  replace WP := WP.ext hN
  replace X := X.ext hN
  replace Y := Y.ext hN
  replace Z := Z.ext hN
  replace PS := PS.ext hN
  replace PSB := PSB.ext hN
  replace E := E.trans hN
  clear hN
  go_wp2_with fail
  refine (a_any _).mono ?_
  rintro e w24 ⟨rfl, hN⟩
  replace WA := WA.ext hN
  replace WP := WP.ext hN
  replace X := X.ext hN
  replace Y := Y.ext hN
  replace Z := Z.ext hN
  replace PS := PS.ext hN
  replace PSB := PSB.ext hN
  replace E := E.trans hN
  clear hN
  go_wp2_with fail
  refine (p_any _).mono ?_
  rintro e w25 ⟨rfl, hN⟩
  replace WA := WA.ext hN
  replace WP := WP.ext hN
  replace X := X.ext hN
  replace Y := Y.ext hN
  replace Z := Z.ext hN
  replace PS := PS.ext hN
  replace PSB := PSB.ext hN
  replace E := E.trans hN
  clear hN
  go_wp2_with fail
  refine (a_any _).mono ?_
  rintro e w26 ⟨rfl, hN⟩
  replace WA := WA.ext hN
  replace WP := WP.ext hN
  replace X := X.ext hN
  replace Y := Y.ext hN
  replace Z := Z.ext hN
  replace PS := PS.ext hN
  replace PSB := PSB.ext hN
  replace E := E.trans hN
  clear hN
  go_wp2_with fail
  have hA : (w26.alloc (.cells #[.int .u32 2, .int .u32 5, .int .u32 4, .int .u32 2, .int .u32 2, .int .u32 5, .int .u32 4, .int .u32 2] 24)).heap[w26.heap.size]? = some (.cells #[.int .u32 2, .int .u32 5, .int .u32 4, .int .u32 2, .int .u32 2, .int .u32 5, .int .u32 4, .int .u32 2] 24 (0, 0)) := new_at rfl
  have hN : Ext w26 (w26.alloc (.cells #[.int .u32 2, .int .u32 5, .int .u32 4, .int .u32 2, .int .u32 2, .int .u32 5, .int .u32 4, .int .u32 2] 24)) := (Turn.refl _ w26).alloc _
  have hB : w26.heap.size < (w26.alloc (.cells #[.int .u32 2, .int .u32 5, .int .u32 4, .int .u32 2, .int .u32 2, .int .u32 5, .int .u32 4, .int .u32 2] 24)).heap.size := by simp
  replace WA := WA.ext hN
  replace WP := WP.ext hN
  replace X := X.ext hN
  replace Y := Y.ext hN
  replace Z := Z.ext hN
  replace PS := PS.ext hN
  replace PSB := PSB.ext hN
  replace E := E.trans hN
  clear hN
  generalize w26.alloc (.cells #[.int .u32 2, .int .u32 5, .int .u32 4, .int .u32 2, .int .u32 2, .int .u32 5, .int .u32 4, .int .u32 2] 24) = w27 at hA hB E WA WP X Y Z PS PSB ⊢
  generalize w26.heap.size = gQ at hA hB ⊢
  have WQ : WordAt w27 (.slice (some ⟨gQ, 0, none⟩) 4 4) [(2, 5), (4, 2), (2, 5), (4, 2)] := ⟨rd_block (xs := sndL [(2, 5), (4, 2), (2, 5), (4, 2)]) hA rfl (by decide), by simp [WdOk]⟩
  clear hA hB
  have hP : PatAt (fun x => x = gS) w27 (.node 3 0 0 false 0 0 [(.node 1 2 0 false 0 0 []), (.node 1 4 0 false 0 0 []), (.node 1 2 0 false 0 0 []), (.node 1 4 0 false 0 0 [])]) (patCells 3 0 0 false 0 0 (some ⟨gS, 0, none⟩) 4 4) := by
    unfold PatAt
    exact ⟨_, _, rfl, by decide, by decide, by decide, by decide, PS⟩
  go_wp2_with fail
  have hc := matches_any hP (fun x h => h ▸ PSB) WQ (hT.keep E id)
  have q := works_4
  simp only [wV, wC] at q
  rw [q.1, q.2] at hc
  clear q
  refine hc.mono ?_
  clear hc
  rintro e w28 ⟨rfl, hN⟩
  replace WA := WA.ext hN
  replace WP := WP.ext hN
  replace X := X.ext hN
  replace Y := Y.ext hN
  replace Z := Z.ext hN
  replace PS := PS.ext hN
  replace PSB := PSB.ext hN
  replace WQ := WQ.ext hN
  replace E := E.trans hN
  clear hP
  clear hN
  clear PS PSB WQ
  go_wp2_with fail
  refine (v_any' _).mono ?_
  rintro e w29 ⟨rfl, hN⟩
  replace WA := WA.ext hN
  replace WP := WP.ext hN
  replace X := X.ext hN
  replace Y := Y.ext hN
  replace Z := Z.ext hN
  replace E := E.trans hN
  clear hN
  go_wp2_with fail
  have hA : (w29.alloc (.cells #[.int .i64 1, .int .u32 4, .int .u32 0, .bool false, .int .i64 0, .int .i64 0, .slice none 0 0, .int .i64 6, .int .u32 0, .int .u32 0, .bool false, .int .i64 0, .int .i64 0, .slice none 0 0] 27)).heap[w29.heap.size]? = some (.cells #[.int .i64 1, .int .u32 4, .int .u32 0, .bool false, .int .i64 0, .int .i64 0, .slice none 0 0, .int .i64 6, .int .u32 0, .int .u32 0, .bool false, .int .i64 0, .int .i64 0, .slice none 0 0] 27 (0, 0)) := new_at rfl
  have hN : Ext w29 (w29.alloc (.cells #[.int .i64 1, .int .u32 4, .int .u32 0, .bool false, .int .i64 0, .int .i64 0, .slice none 0 0, .int .i64 6, .int .u32 0, .int .u32 0, .bool false, .int .i64 0, .int .i64 0, .slice none 0 0] 27)) := (Turn.refl _ w29).alloc _
  have hB : w29.heap.size < (w29.alloc (.cells #[.int .i64 1, .int .u32 4, .int .u32 0, .bool false, .int .i64 0, .int .i64 0, .slice none 0 0, .int .i64 6, .int .u32 0, .int .u32 0, .bool false, .int .i64 0, .int .i64 0, .slice none 0 0] 27)).heap.size := by simp
  replace WA := WA.ext hN
  replace WP := WP.ext hN
  replace X := X.ext hN
  replace Y := Y.ext hN
  replace Z := Z.ext hN
  replace E := E.trans hN
  clear hN
  generalize w29.alloc (.cells #[.int .i64 1, .int .u32 4, .int .u32 0, .bool false, .int .i64 0, .int .i64 0, .slice none 0 0, .int .i64 6, .int .u32 0, .int .u32 0, .bool false, .int .i64 0, .int .i64 0, .slice none 0 0] 27) = w30 at hA hB E WA WP X Y Z ⊢
  generalize w29.heap.size = gF at hA hB ⊢
  have PF : PatsAt (fun x => x = gF) w30 [(.node 1 4 0 false 0 0 []), (.node 6 0 0 false 0 0 [])] (some ⟨gF, 0, none⟩) 0 := PatsAt.block (css := [[.int .i64 1, .int .u32 4, .int .u32 0, .bool false, .int .i64 0, .int .i64 0, .slice none 0 0], [.int .i64 6, .int .u32 0, .int .u32 0, .bool false, .int .i64 0, .int .i64 0, .slice none 0 0]]) hA rfl (by simp) (fun j hj => by match j, hj with | 0, _ => exact patAt_leaf _ _ 1 false 0 0 (by decide) (by decide) | 1, _ => exact patAt_leaf _ _ 6 false 0 0 (by decide) (by decide)) rfl
  clear hA
  have PFB : InHeap w30 gF := hB
  clear hB
  go_wp2_with fail
  refine (seq_any' (some ⟨gF, 0, none⟩) 2 2 _).mono ?_
  rintro e w31 ⟨rfl, hN⟩
  replace WA := WA.ext hN
  replace WP := WP.ext hN
  replace X := X.ext hN
  replace Y := Y.ext hN
  replace Z := Z.ext hN
  replace PF := PF.ext hN
  replace PFB := PFB.ext hN
  replace E := E.trans hN
  clear hN
  have hP : PatAt (fun x => x = gF) w31 (.node 3 0 0 false 0 0 [(.node 1 4 0 false 0 0 []), (.node 6 0 0 false 0 0 [])]) (patCells 3 0 0 false 0 0 (some ⟨gF, 0, none⟩) 2 2) := by
    unfold PatAt
    exact ⟨_, _, rfl, by decide, by decide, by decide, by decide, PF⟩
  go_wp2_with fail
  have hc := find_any hP (fun x h => h ▸ PFB) WA (hT.keep E id) 0
  have q := works_5
  simp only [wV, wApa] at q
  rw [q] at hc
  clear q
  refine hc.mono ?_
  clear hc
  rintro e w32 ⟨hF, hN⟩
  replace WA := WA.ext hN
  replace WP := WP.ext hN
  replace X := X.ext hN
  replace Y := Y.ext hN
  replace Z := Z.ext hN
  replace PF := PF.ext hN
  replace PFB := PFB.ext hN
  replace E := E.trans hN
  clear hP
  obtain ⟨x, y, ok, rfl, hf⟩ := hF
  rw [if_pos rfl] at hf
  obtain ⟨rfl, rfl, rfl⟩ := works_8 hf
  clear hf
  clear hN
  clear PF PFB WA WP
  go_wp2_with fail
  have hA : (w32.alloc (.cells #[.int .i64 1] 3)).heap[w32.heap.size]? = some (.cells #[.int .i64 1] 3 (0, 0)) := new_at rfl
  have hN : Ext w32 (w32.alloc (.cells #[.int .i64 1] 3)) := (Turn.refl _ w32).alloc _
  have hB : w32.heap.size < (w32.alloc (.cells #[.int .i64 1] 3)).heap.size := by simp
  replace X := X.ext hN
  replace Y := Y.ext hN
  replace Z := Z.ext hN
  replace E := E.trans hN
  clear hN
  generalize w32.alloc (.cells #[.int .i64 1] 3) = w33 at hA hB E X Y Z ⊢
  generalize w32.heap.size = g1 at hA hB ⊢
  have R1 : Rd w33 (.slice (some ⟨g1, 0, none⟩) 1 1) [1].length 1 (natV [1]) := rd_block (xs := natV [1]) hA rfl (by decide)
  clear hA hB
  have hc := places_any X R1
  rw [decide_eq_true rfl] at hc
  refine hc.mono ?_
  clear hc
  rintro e w34 ⟨rfl, hN⟩
  clear R1
  replace X := X.ext hN
  replace Y := Y.ext hN
  replace Z := Z.ext hN
  replace E := E.trans hN
  clear hN
  go_wp2_with fail
  have hA : (w34.alloc (.cells #[.int .i64 0, .int .i64 1, .int .i64 2] 3)).heap[w34.heap.size]? = some (.cells #[.int .i64 0, .int .i64 1, .int .i64 2] 3 (0, 0)) := new_at rfl
  have hN : Ext w34 (w34.alloc (.cells #[.int .i64 0, .int .i64 1, .int .i64 2] 3)) := (Turn.refl _ w34).alloc _
  have hB : w34.heap.size < (w34.alloc (.cells #[.int .i64 0, .int .i64 1, .int .i64 2] 3)).heap.size := by simp
  replace X := X.ext hN
  replace Y := Y.ext hN
  replace Z := Z.ext hN
  replace E := E.trans hN
  clear hN
  generalize w34.alloc (.cells #[.int .i64 0, .int .i64 1, .int .i64 2] 3) = w35 at hA hB E X Y Z ⊢
  generalize w34.heap.size = g2 at hA hB ⊢
  have R1 : Rd w35 (.slice (some ⟨g2, 0, none⟩) 3 3) [0, 1, 2].length 1 (natV [0, 1, 2]) := rd_block (xs := natV [0, 1, 2]) hA rfl (by decide)
  clear hA hB
  have hc := places_any Y R1
  rw [decide_eq_true rfl] at hc
  refine hc.mono ?_
  clear hc
  rintro e w36 ⟨rfl, hN⟩
  clear R1
  replace X := X.ext hN
  replace Y := Y.ext hN
  replace Z := Z.ext hN
  replace E := E.trans hN
  clear hN
  go_wp2_with fail
  have hA : (w36.alloc (.cells #[.int .i64 0, .int .i64 1, .int .i64 2] 3)).heap[w36.heap.size]? = some (.cells #[.int .i64 0, .int .i64 1, .int .i64 2] 3 (0, 0)) := new_at rfl
  have hN : Ext w36 (w36.alloc (.cells #[.int .i64 0, .int .i64 1, .int .i64 2] 3)) := (Turn.refl _ w36).alloc _
  have hB : w36.heap.size < (w36.alloc (.cells #[.int .i64 0, .int .i64 1, .int .i64 2] 3)).heap.size := by simp
  replace X := X.ext hN
  replace Y := Y.ext hN
  replace Z := Z.ext hN
  replace E := E.trans hN
  clear hN
  generalize w36.alloc (.cells #[.int .i64 0, .int .i64 1, .int .i64 2] 3) = w37 at hA hB E X Y Z ⊢
  generalize w36.heap.size = g3 at hA hB ⊢
  have R1 : Rd w37 (.slice (some ⟨g3, 0, none⟩) 3 3) [0, 1, 2].length 1 (natV [0, 1, 2]) := rd_block (xs := natV [0, 1, 2]) hA rfl (by decide)
  clear hA hB
  have hc := places_any Z R1
  rw [decide_eq_true rfl] at hc
  refine hc.mono ?_
  clear hc
  rintro e w38 ⟨rfl, hN⟩
  clear R1
  replace X := X.ext hN
  replace Y := Y.ext hN
  replace Z := Z.ext hN
  replace E := E.trans hN
  clear hN
  clear X Y Z
  go_wp2_with fail
  refine (v_any' _).mono ?_
  rintro e w39 ⟨rfl, hN⟩
  replace E := E.trans hN
  clear hN
  go_wp2_with fail
  refine (rep_any (patAt_leaf (fun _ => False) _ 1 false 0 0 (show 4 < 4294967296 by decide) (show 0 < 4294967296 by decide)) 0 1).mono ?_
  rintro e w40 ⟨ds, rfl, hP, hN⟩
  replace E := E.trans hN
  replace hP := PatAt.bound (p := .node 5 0 0 false 0 1 [(.node 1 4 0 false 0 0 [])]) hP
  clear hN
  go_wp2_with fail
  have hc := isempty_any (K := fun g => g < w40.heap.size) (p := .node 5 0 0 false 0 1 [(.node 1 4 0 false 0 0 [])]) hP (fun _ h => h) (hT.keep E id)
  have q := works_6.1
  simp only [wV, wRep] at q
  rw [q] at hc
  clear q
  refine hc.mono ?_
  clear hc
  rintro e w41 ⟨rfl, hN⟩
  replace E := E.trans hN
  clear hP
  clear hN
  go_wp2_with fail
  have hc := check_any (patAt_leaf (fun _ => False) _ 1 false 1 0 (show 0 < 4294967296 by decide) (show 0 < 4294967296 by decide)) (fun _ h => h.elim) (hT.keep E id)
  have q := works_6.2
  rw [q] at hc
  clear q
  refine hc.mono ?_
  clear hc
  rintro e w42 ⟨rfl, hN⟩
  replace E := E.trans hN
  clear hN
  go_wp2
  go_ret
  exact ⟨rfl, E⟩
end Go.Proofs.YtapfoaiibjdfnaaDoor
