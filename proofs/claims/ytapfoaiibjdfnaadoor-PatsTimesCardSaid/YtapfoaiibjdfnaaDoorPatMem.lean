/- Patterns in memory. No program is named. -/
import Derived.Test.YtapfoaiibjdfnaaDoorSl
import Derived.Test.YtapfoaiibjdfnaaDoorPatRel
import Derived.Deep.MidRow
namespace Go.Ab
open Go.RowKit

/-- The seven cells of a node. -/
def patCells (k : Int) (pl mi : Nat) (nt : Bool) (mn mx : Int) (ao : Option Addr) (n cap : Nat) : List Value :=
  [.int .i64 k, .int .u32 pl, .int .u32 mi, .bool nt, .int .i64 mn, .int .i64 mx, .slice ao n cap]

mutual
/-- These cells are this pattern; all that it reaches lies in blocks of K. -/
def PatAt (K : Nat → Prop) (w : World) : Pat → List Value → Prop
  | .node k pl mi nt mn mx l, cs => ∃ ao cap, cs = patCells k pl mi nt mn mx ao l.length cap ∧ pl < 4294967296 ∧ mi < 4294967296 ∧ l.length ≤ cap ∧ cap ≤ maxLen ∧ PatsAt K w l ao 0
/-- These patterns lie one behind the other, from place i on. -/
def PatsAt (K : Nat → Prop) (w : World) : List Pat → Option Addr → Nat → Prop
  | [], _, _ => True
  | p :: l, ao, i => (∃ g off cs, ao = some ⟨g, off, none⟩ ∧ K g ∧ g < w.heap.size ∧ w.rangeAt g (off + i * 7) cs ∧ PatAt K w p cs) ∧ PatsAt K w l ao (i + 1)
end

theorem PatsAt.get {K : Nat → Prop} {w : World} : ∀ {l : List Pat} {ao : Option Addr} {i : Nat}, PatsAt K w l ao i → ∀ j (h : j < l.length), ∃ g off cs, ao = some ⟨g, off, none⟩ ∧ K g ∧ g < w.heap.size ∧ w.rangeAt g (off + (i + j) * 7) cs ∧ PatAt K w l[j] cs
  | [], _, _, _, j, h => by simp at h
  | p :: l, ao, i, h, 0, _ => by unfold PatsAt at h; exact h.1
  | p :: l, ao, i, h, j + 1, hj => by
    unfold PatsAt at h
    have := PatsAt.get h.2 j (by simpa using hj)
    rw [show i + (j + 1) = i + 1 + j by omega]
    exact this
theorem PatsAt.mk {K : Nat → Prop} {w : World} : ∀ {l : List Pat} {ao : Option Addr} {i : Nat}, (∀ j (h : j < l.length), ∃ g off cs, ao = some ⟨g, off, none⟩ ∧ K g ∧ g < w.heap.size ∧ w.rangeAt g (off + (i + j) * 7) cs ∧ PatAt K w l[j] cs) → PatsAt K w l ao i
  | [], _, _, _ => by unfold PatsAt; trivial
  | p :: l, ao, i, h => by
    unfold PatsAt
    refine ⟨h 0 (by simp), PatsAt.mk fun j hj => ?_⟩
    have := h (j + 1) (by simpa using hj)
    rw [show i + (j + 1) = i + 1 + j by omega] at this
    exact this

theorem rangeAt_turn {S : Nat → Prop} {A B : World} (ht : Turn S A B) {g o : Nat} {cs : List Value} (h : A.rangeAt g o cs) (hS : ¬ S g) : B.rangeAt g o cs := fun j v hv => ht.cell_some (h j v hv) hS

mutual
theorem PatAt.keep {K S : Nat → Prop} {A B : World} (ht : Turn S A B) (hS : ∀ g, K g → ¬ S g) : ∀ {p : Pat} {cs : List Value}, PatAt K A p cs → PatAt K B p cs
  | .node k pl mi nt mn mx l, cs, h => by
    unfold PatAt at h ⊢
    obtain ⟨ao, cap, h1, h2, h3, h4, h5, h6⟩ := h
    exact ⟨ao, cap, h1, h2, h3, h4, h5, PatsAt.keep ht hS h6⟩
theorem PatsAt.keep {K S : Nat → Prop} {A B : World} (ht : Turn S A B) (hS : ∀ g, K g → ¬ S g) : ∀ {l : List Pat} {ao : Option Addr} {i : Nat}, PatsAt K A l ao i → PatsAt K B l ao i
  | [], _, _, _ => by unfold PatsAt; trivial
  | p :: l, ao, i, h => by
    unfold PatsAt at h ⊢
    obtain ⟨⟨g, off, cs, h1, h2, h3, h4, h5⟩, h6⟩ := h
    exact ⟨⟨g, off, cs, h1, h2, Nat.lt_of_lt_of_le h3 ht.size, rangeAt_turn ht h4 (hS g h2), PatAt.keep ht hS h5⟩, PatsAt.keep ht hS h6⟩
end
theorem PatAt.ext {K : Nat → Prop} {A B : World} {p : Pat} {cs : List Value} (h : PatAt K A p cs) (ht : Ext A B) : PatAt K B p cs := h.keep ht fun _ _ h => h
theorem PatsAt.ext {K : Nat → Prop} {A B : World} {l : List Pat} {ao : Option Addr} {i : Nat} (h : PatsAt K A l ao i) (ht : Ext A B) : PatsAt K B l ao i := h.keep ht fun _ _ h => h
mutual
theorem PatAt.mono {K L : Nat → Prop} {A : World} (hK : ∀ g, K g → L g) : ∀ {p : Pat} {cs : List Value}, PatAt K A p cs → PatAt L A p cs
  | .node k pl mi nt mn mx l, cs, h => by
    unfold PatAt at h ⊢
    obtain ⟨ao, cap, h1, h2, h3, h4, h5, h6⟩ := h
    exact ⟨ao, cap, h1, h2, h3, h4, h5, PatsAt.mono hK h6⟩
theorem PatsAt.mono {K L : Nat → Prop} {A : World} (hK : ∀ g, K g → L g) : ∀ {l : List Pat} {ao : Option Addr} {i : Nat}, PatsAt K A l ao i → PatsAt L A l ao i
  | [], _, _, _ => by unfold PatsAt; trivial
  | p :: l, ao, i, h => by
    unfold PatsAt at h ⊢
    obtain ⟨⟨g, off, cs, h1, h2, h3, h4, h5⟩, h6⟩ := h
    exact ⟨⟨g, off, cs, h1, hK g h2, h3, h4, PatAt.mono hK h5⟩, PatsAt.mono hK h6⟩
end
end Go.Ab
