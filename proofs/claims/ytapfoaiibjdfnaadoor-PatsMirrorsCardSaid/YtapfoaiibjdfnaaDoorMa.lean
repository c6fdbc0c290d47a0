/- What a call turns ('Turn'); a range over a function whose iterator keeps a state of its own in cells; the marks among the deferred calls. No program is named. A region in a round's frame, by the plain walk of its operations. No program is named. Slices that are read, and slices that a call makes. No program is named. PLAIN: sets of numbers below 64 as the bits of a number; the bits of a number in increasing order. PLAIN: patterns, their errors, their sizes. PLAIN: what patterns match, as relations between places; a pattern that is repeated. Patterns in memory. No program is named. math/bits.TrailingZeros64. PLAIN: the reference's loop over the times of a repeated pattern; relations as rows of bits. pats.set.all: the iterator over the places of a set. pats.relation in memory; identity. pats.relation: then, or, power. pats.relation: or, power. PLAIN: what patterns are compiled to; valid patterns. Words in memory; what a sound satisfies. No program is named. -/
import Derived.RangeFuncNested
import Derived.RangeFuncLeaves
import Derived.RangeFuncCalls
import Derived.WalkKit
import Derived.OwnWalkIn
import Derived.TacticsInMore
import Derived.LoopNIn
import Derived.LoopIn
import Derived.Deep.QuietTactic
import Derived.BigQuiet
import Derived.StillTailTactics
import Derived.OrdersIn
import Derived.Deep.DeepCutAuto
import Derived.Deep.RegionHeld3
import Derived.BigRegion
import Derived.Lib.TrailingZeros
import Derived.Deep.MidRow
import Derived.Test.YtapfoaiibjdfnaaDoorProg
import Derived.WalkLawsBesides
import Derived.Handy
import Derived.Lib.Hide
import Derived.Shelf.Spec.TrailingZeros
import Derived.Laws.Rows
import Derived.Laws.Tables
import Derived.Deep.WholeRow
namespace Go.Ab
open Go.RowKit

/-- All blocks of A but those in S lie in B as they lay; the streams are as they were. -/
structure Turn (S : Nat → Prop) (A B : World) : Prop where
  os : B.os = A.os
  tape : B.tape = A.tape
  output : B.output = A.output
  size : A.heap.size ≤ B.heap.size
  block : ∀ b, b < A.heap.size → ¬ S b → B.heap[b]? = A.heap[b]?

theorem Turn.refl (S : Nat → Prop) (A : World) : Turn S A A := ⟨rfl, rfl, rfl, Nat.le_refl _, fun _ _ _ => rfl⟩
theorem Turn.trans {S : Nat → Prop} {A B C : World} (h : Turn S A B) (k : Turn S B C) : Turn S A C :=
  ⟨k.os.trans h.os, k.tape.trans h.tape, k.output.trans h.output, Nat.le_trans h.size k.size,
    fun b hb hS => (k.block b (Nat.lt_of_lt_of_le hb h.size) hS).trans (h.block b hb hS)⟩
theorem Turn.mono {S T : Nat → Prop} {A B : World} (h : Turn S A B) (hst : ∀ b, b < A.heap.size → S b → T b) : Turn T A B :=
  ⟨h.os, h.tape, h.output, h.size, fun b hb hT => h.block b hb fun hs => hT (hst b hb hs)⟩
theorem Turn.heap {S : Nat → Prop} {A B : World} (h : Turn S A B) {b : Nat} {o : Obj} (hb : A.heap[b]? = some o) (hS : ¬ S b) : B.heap[b]? = some o :=
  (h.block b (Array.getElem?_eq_some_iff.1 hb).1 hS).trans hb
theorem Turn.cell {S : Nat → Prop} {A B : World} (h : Turn S A B) {p : Addr} (hb : p.block < A.heap.size) (hS : ¬ S p.block) : B.cell? p = A.cell? p :=
  World.cell?_of_block (w := A) (h.block p.block hb hS)
theorem Turn.cell_some {S : Nat → Prop} {A B : World} (h : Turn S A B) {p : Addr} {v : Value} (hc : A.cell? p = some v) (hS : ¬ S p.block) : B.cell? p = some v := by
  have hb : p.block < A.heap.size := by
    apply Nat.lt_of_not_le; intro hle
    simp [World.cell?, Array.getElem?_eq_none hle] at hc
  rw [h.cell hb hS]; exact hc
theorem Turn.frozen {S : Nat → Prop} {A B : World} (h : Turn S A B) {p : Addr} (hb : p.block < A.heap.size) (hS : ¬ S p.block) : B.frozen? p = A.frozen? p :=
  World.frozen?_of_block (w := A) (h.block p.block hb hS)
theorem Turn.alloc {S : Nat → Prop} {A B : World} (h : Turn S A B) (o : Obj) : Turn S A (B.alloc o) :=
  h.trans ⟨rfl, rfl, rfl, by simp, fun b hb _ => Below.heap_alloc _ _ _ hb⟩
theorem Turn.drew {S : Nat → Prop} {A B : World} (h : Turn S A B) : Turn S A B.drew := ⟨h.os, h.tape, h.output, h.size, h.block⟩
theorem Turn.drewN {S : Nat → Prop} {A B : World} (h : Turn S A B) (n : Nat) : Turn S A (B.drewN n) := ⟨h.os, h.tape, h.output, h.size, h.block⟩
theorem Turn.setCell {S : Nat → Prop} {A B : World} (h : Turn S A B) {p : Addr} (hp : A.heap.size ≤ p.block ∨ S p.block) (u : Value) : Turn S A (B.setCell p u) :=
  ⟨h.os, h.tape, h.output, by simpa [World.setCell] using h.size, fun b hb hS => by
    rw [Below.heap_setCell _ _ _ _ (by rintro rfl; rcases hp with hp | hp; omega; exact hS hp)]
    exact h.block b hb hS⟩
theorem Turn.set1 (A : World) (b o : Nat) (v : Value) : Turn (fun x => x = b) A (A.setCell ⟨b, o, none⟩ v) := (Turn.refl (fun x => x = b) A).setCell (p := ⟨b, o, none⟩) (.inr rfl) v
theorem Turn.putObj {S : Nat → Prop} {A B : World} (h : Turn S A B) {r : Nat} (hp : A.heap.size ≤ r ∨ S r) (o : Obj) : Turn S A (B.putObj r o) :=
  ⟨h.os, h.tape, h.output, by simpa using h.size, fun b hb hS => by
    rw [World.putObj_heap_other (by rintro rfl; rcases hp with hp | hp; omega; exact hS hp)]
    exact h.block b hb hS⟩
theorem Turn.below {S : Nat → Prop} {A B : World} (h : Turn S A B) (hS : ∀ b, b < A.heap.size → ¬ S b) : Below A.heap.size A B :=
  ⟨h.os, h.tape, h.output, h.size, fun b hb => h.block b hb (hS b hb)⟩
theorem Turn.of_below {S : Nat → Prop} {A B : World} {n : Nat} (h : Below n A B) (hn : ∀ b, b < A.heap.size → n ≤ b → S b) : Turn S A B :=
  ⟨h.os, h.tape, h.output, h.size, fun b hb hS => h.block b (by apply Nat.lt_of_not_le; intro hle; exact hS (hn b hb hle))⟩
theorem Turn.grown {S : Nat → Prop} {A B C : World} {row : Option Nat} (h : Turn S A B) (hg : B.grownBy C row) (hr : ∀ k, row = some k → A.heap.size ≤ k ∨ S k) : Turn S A C :=
  ⟨hg.os.trans h.os, hg.tape.trans h.tape, hg.output.trans h.output, Nat.le_trans h.size hg.size, fun b hb hS => by
    rw [hg.block b (Nat.lt_of_lt_of_le hb h.size) (fun e => by rcases hr b e.symm with hh | hh; omega; exact hS hh)]
    exact h.block b hb hS⟩

/-- Nothing that was there has turned. -/
abbrev Ext (A B : World) : Prop := Turn (fun _ => False) A B
theorem Ext.of {S : Nat → Prop} {A B : World} (h : Ext A B) : Turn S A B := h.mono fun _ _ h => h.elim
theorem Ext.keep {A B : World} (h : Ext A B) {b : Nat} {o : Obj} (hb : A.heap[b]? = some o) : B.heap[b]? = some o := Turn.heap h hb (fun h => h)

/-- Two steps: what the second turns lies beyond w, or was turned by the first. -/
theorem Turn.after {S T : Nat → Prop} {w A B : World} (h : Turn S w A) (k : Turn T A B) (hT : ∀ b, b < w.heap.size → T b → S b) : Turn S w B :=
  ⟨k.os.trans h.os, k.tape.trans h.tape, k.output.trans h.output, Nat.le_trans h.size k.size,
    fun b hb hS => (k.block b (Nat.lt_of_lt_of_le hb h.size) fun ht => hS (hT b hb ht)).trans (h.block b hb hS)⟩

theorem ret_bool {a b : Bool} (h : a = b) : Ending.returned (.bool a) = .returned (.bool b) := by rw [h]
theorem ret_int {k : IntKind} {a b : Int} (h : a = b) : Ending.returned (.int k a) = .returned (.int k b) := by rw [h]
theorem ret_val {a b : Value} (h : a = b) : Ending.returned a = .returned b := by rw [h]

theorem new_at {A : World} {n : Nat} {o : Obj} (h : n = A.heap.size) : (A.alloc o).heap[n]? = some o := by subst h; exact World.alloc_heap_new _ _
theorem new_keep {A : World} {n : Nat} {o o' : Obj} (h : A.heap[n]? = some o') : (A.alloc o).heap[n]? = some o' :=
  (Below.heap_alloc _ _ _ (Array.getElem?_eq_some_iff.1 h).1).trans h
theorem drew_keep {A : World} {n : Nat} {o : Obj} (h : A.heap[n]? = some o) : A.drew.heap[n]? = some o := h
theorem set_keep {A : World} {n : Nat} {a : Addr} {v : Value} {o : Obj} (h : A.heap[n]? = some o) (hn : n ≠ a.block) : (A.setCell a v).heap[n]? = some o :=
  (Below.heap_setCell _ _ _ _ hn).trans h

theorem wide_fn (f : FuncId) : Fence.wide.fn f = True := rfl
theorem wide_depth : Fence.wide.depth = none := rfl

theorem u64_or_shl (a x : Nat) (ha : a < 18446744073709551616) (hx : x < 64) : bits .or .u64 (a : Int) (IntKind.u64.wrap (2 ^ x)) = ((a ||| 2 ^ x : Nat) : Int) := by
  have h1 : 2 ^ x < 18446744073709551616 := by
    have := Nat.pow_lt_pow_right (a := 2) (by decide) hx
    simpa using this
  have e : IntKind.u64.wrap (2 ^ x) = ((2 ^ x : Nat) : Int) := by
    rw [IntKind.wrap_u64]
    have e : ((2 : Int) ^ x) = ((2 ^ x : Nat) : Int) := by simp
    rw [e]
    generalize 2 ^ x = p at h1
    omega
  rw [e, u64_or_nat _ _ ha h1]

/-! ### The marks among the deferred calls -/

/-- Every deferred call is the mark of a loop whose block of calls lies empty, at or beyond base; no block twice. -/
def Marks (base : Nat) : List Deferred → World → Prop
  | [], _ => True
  | d :: ds, w => ∃ r, base ≤ r ∧ d = { target := .collected r, args := #[] } ∧ w.heap[r]? = some (.deferred (some [])) ∧ (∀ e ∈ ds, e.target ≠ .collected r) ∧ Marks base ds w

theorem Marks.keep {base : Nat} {S : Nat → Prop} : ∀ {ds : List Deferred} {A B : World}, Marks base ds A → Turn S A B → (∀ b, S b → ∀ o, A.heap[b]? = some o → o.isCells = true) → Marks base ds B
  | [], _, _, _, _, _ => trivial
  | d :: ds, A, B, ⟨r, h1, h2, h3, h4, h5⟩, ht, hS =>
    ⟨r, h1, h2, ht.heap h3 (fun hs => by have := hS r hs _ h3; simp [Obj.isCells] at this), h4, h5.keep ht hS⟩

/-- Behind turns of blocks that are not among the marks'. -/
theorem Marks.keep' {base : Nat} {S : Nat → Prop} : ∀ {ds : List Deferred} {A B : World}, Marks base ds A → Turn S A B → (∀ b, S b → ∀ e ∈ ds, e.target ≠ .collected b) → Marks base ds B
  | [], _, _, _, _, _ => trivial
  | d :: ds, A, B, ⟨r, h1, h2, h3, h4, h5⟩, ht, hS =>
    ⟨r, h1, h2, ht.heap h3 (fun hs => hS r hs d (List.mem_cons_self ..) (by rw [h2])), h4, h5.keep' ht (fun b hb e he => hS b hb e (List.mem_cons_of_mem _ he))⟩

theorem Marks.lt {base : Nat} : ∀ {ds : List Deferred} {A : World}, Marks base ds A → ∀ e ∈ ds, ∀ r, e.target = .collected r → r < A.heap.size
  | [], _, _, _, he, _, _ => by cases he
  | d :: ds, A, ⟨r, h1, h2, h3, h4, h5⟩, e, he, q, hq => by
    rcases List.mem_cons.1 he with rfl | he
    · rw [h2] at hq; simp at hq; subst hq; exact (Array.getElem?_eq_some_iff.1 h3).1
    · exact h5.lt e he q hq

theorem Marks.keepC {base N : Nat} {S : Nat → Prop} {ds : List Deferred} {A B : World} (h : Marks base ds A) (hN : ∀ e ∈ ds, ∀ r, e.target = .collected r → r < N) (ht : Turn S A B)
    (hS : ∀ b, S b → N ≤ b ∨ A.heap.size ≤ b ∨ ∃ o, A.heap[b]? = some o ∧ o.isCells = true) : Marks base ds B := by
  have aux : ∀ (ds : List Deferred), (∀ e ∈ ds, ∀ r, e.target = .collected r → r < N) → Marks base ds A → Marks base ds B := by
    intro ds
    induction ds with
    | nil => intro _ _; trivial
    | cons d ds ih =>
      rintro hN ⟨r, h1, h2, h3, h4, h5⟩
      refine ⟨r, h1, h2, ht.heap h3 (fun hs => ?_), h4, ih (fun e he => hN e (List.mem_cons_of_mem _ he)) h5⟩
      rcases hS r hs with h | h | ⟨o, ho, hc⟩
      · have := hN d (List.mem_cons_self ..) r (by rw [h2]); omega
      · have := (Array.getElem?_eq_some_iff.1 h3).1; omega
      · rw [h3] at ho; cases ho; simp [Obj.isCells] at hc
  exact aux ds hN h
theorem Marks.fresh {base : Nat} {ds : List Deferred} {A : World} {r : Nat} (h : Marks base ds A) (hr : A.heap.size ≤ r) : ∀ e ∈ ds, e.target ≠ .collected r := fun e he ht => by
  have := h.lt e he r ht; omega

theorem Marks.cons {base : Nat} {ds : List Deferred} {A : World} {r : Nat} (h : Marks base ds A) (hb : base ≤ r) (hr : A.heap[r]? = some (.deferred (some []))) (hn : ∀ e ∈ ds, e.target ≠ .collected r) :
    Marks base ({ target := .collected r, args := #[] } :: ds) A := ⟨r, hb, rfl, hr, hn, h⟩

/-- What the marks' closing turns: blocks from base on that are no cells. -/
def Shut (base : Nat) (w : World) (b : Nat) : Prop := base ≤ b ∧ ∀ o, w.heap[b]? = some o → o.isCells = false
theorem Shut.not {base : Nat} {w : World} {b : Nat} {o : Obj} (hb : w.heap[b]? = some o) (ho : o.isCells = true) : ¬ Shut base w b := fun h => by
  have := h.2 o hb; rw [ho] at this; cases this

theorem leavesM {P : Program} {fn : Func} {tmps : Array Value} {R : Ending → World → Prop} {v : Value} {base : Nat} :
    ∀ (ds : List Deferred) (w : World), Marks base ds w → (∀ w', Turn (Shut base w) w w' → w'.heap.size = w.heap.size → (results fn tmps).run P w' = .ok v w' ∧ R (.returned v) w') →
      LeavesInM Fence.wide 0 P fn tmps R ds .returning w
  | [], w, _, h => by
    obtain ⟨h1, h2⟩ := h w (Turn.refl _ _) rfl
    exact ⟨v, h1, h2⟩
  | d :: ds, w, ⟨r, hb, hd, hr, hn, hm⟩, h => by
    refine ⟨by simp, .inl ⟨r, _, by rw [hd], run_takeDeferred hr, ?_⟩⟩
    refine leavesM (v := v) ds _ (hm.keep' (S := (· = r)) ((Turn.refl (· = r) w).putObj (.inr rfl) _) (fun b e => by subst e; exact hn)) ?_
    intro w' ht hs
    have hput : Turn (Shut base w) w (w.putObj r (.deferred none)) := (Turn.refl _ w).putObj (.inr ⟨hb, fun o ho => by rw [hr] at ho; cases ho; rfl⟩) _
    refine h w' (hput.after ht fun b hlt hsh => ?_) (by rw [hs]; simp)
    refine ⟨hsh.1, fun o ho => ?_⟩
    by_cases hbr : b = r
    · subst hbr; rw [hr] at ho; cases ho; rfl
    · exact hsh.2 o (by rw [World.putObj_heap_other hbr]; exact ho)

/-- A function's contract from its body, where marks may stand among its deferred calls. -/
theorem calls_of_wp_marks {P : Program} {f : FuncId} {fn : Func} {c : Code} {args : Array Value} {w : World} {R : Ending → World → Prop}
    (hf : P.funcs[f]? = some fn) (hb : fn.body = some c)
    (h : c.wp P (bodyPostM Fence.wide 0 P fn R) { tmps := args ++ Array.replicate (fn.ntmps - args.size) undef, defers := [] } w) : Calls P f args w R :=
  callsIn_wide.1 (callsIn_of_wp_marks (n := 0) hf hb trivial (wpIn_wide.2 h))

theorem bodyPostM_ret {P : Program} {fn : Func} {R : Ending → World → Prop} {a : Act} {w : World} {v : Value} {base : Nat} (hm : Marks base a.defers w)
    (hr : ∀ w', (results fn a.tmps).run P w' = .ok v w') (hR : ∀ w', Turn (Shut base w) w w' → w'.heap.size = w.heap.size → R (.returned v) w') :
    bodyPostM Fence.wide 0 P fn R .ret a w := leavesM _ _ hm fun w' ht hs => ⟨hr w', hR w' ht hs⟩

theorem bodyPostM_end {P : Program} {fn : Func} {R : Ending → World → Prop} {a : Act} {w : World} {v : Value} {base : Nat} (hm : Marks base a.defers w)
    (hr : ∀ w', (results fn a.tmps).run P w' = .ok v w') (hR : ∀ w', Turn (Shut base w) w w' → w'.heap.size = w.heap.size → R (.returned v) w') :
    bodyPostM Fence.wide 0 P fn R .normal a w := leavesM _ _ hm fun w' ht hs => ⟨hr w', hR w' ht hs⟩

/-- A frame, by a function of its slots. -/
theorem frame_fun {t : Array Value} {n : Nat} (h : t.size = n) : ∃ u : Nat → Value, t = ((List.range n).map u).toArray :=
  ⟨fun i => t.getD i undef, by
    apply Array.ext
    · simp [h]
    · intro i h1 h2
      simp [Array.getD, h1]⟩

/-! ### An iterator, by what it does to yield -/

/-- THE ITERATOR gf, with what it has captured, hands out xs in their order. S: the blocks that it turns itself; K: those that a round must leave as they lie. -/
def Iter {α : Type} (P : Program) (gf : Nat) (lb : Array Value) (encs : α → Array Value) (xs : List α) (S K : Nat → Prop) (w : World) : Prop :=
  ∀ (l : Nat) (J Jx : List α → World → Prop) (W : World), Turn (fun b => ¬ K b) w W →
    (∀ pre A B, J pre A → Turn S A B → J pre B) → (∀ pre A B, Jx pre A → Turn S A B → Jx pre B) →
    (∀ pre x rest A, xs = pre ++ x :: rest → J pre A → YieldAt Fence.wide 0 P l (encs x) A fun e B =>
      (e = .returned (.bool true) ∧ J (pre ++ [x]) B ∧ Turn (fun b => ¬ K b) A B) ∨ (e = .returned (.bool false) ∧ Jx (pre ++ [x]) B)) →
    J [] W →
    Calls P gf (#[.func (.yield l) #[] #[]] ++ lb) W fun e B => (∃ v, e = .returned v) ∧ (J xs B ∨ ∃ pre x rest, xs = pre ++ x :: rest ∧ Jx (pre ++ [x]) B)

/-- HOW THE BODY OF A ROUND MAY BE LEFT. -/
def roundQ {α : Type} (K : Nat → Prop) (I : List α → World → Prop) (Ix : Code → List α → World → Prop) (xs : List α) (W : World) : Exit → Act → World → Prop
  | .normal, _, W' => Turn (fun b => ¬ K b) W W' ∧ I xs W'
  | .ret, _, W' => Turn (fun b => ¬ K b) W W' ∧ Ix .ret xs W'
  | .exit id, _, W' => Turn (fun b => ¬ K b) W W' ∧ Ix (.exit id) xs W'
  | .goto t, _, W' => Turn (fun b => ¬ K b) W W' ∧ Ix (.goto t) xs W'
  | .panic _, _, _ => False
  | .outgrown, _, _ => False

/-- 'for x := range seq { .. }'. D: the block of the rounds' deferred calls; D + 1: the loop's record. The body keeps K, D and D + 1; I abides what the iterator turns, the record's turns, new blocks. -/
theorem wp_range {α : Type} {P : Program} {g : Operand} {ps : Array Tmp} {assign body : Code} {Q : Exit → Act → World → Prop} {a : Act} {w : World}
    {gf : Nat} {lb : Array Value} (hg : a.eval g = .func (.func gf) #[] lb) (eg : ∀ args w, (callFunc gf args).run P w = .ok (.enter gf args) w)
    {encs : α → Array Value} {xs : List α} {S K : Nat → Prop} (hseq : Iter P gf lb encs xs S K w) (hSK : ∀ b, S b → K b) (hK : ∀ b, K b → b < w.heap.size) (hps : ∀ x, (encs x).size = ps.size)
    (I : List α → World → Prop) (Ix : Code → List α → World → Prop)
    (hI : ∀ pre A B, I pre A → Turn (fun b => S b ∨ b = w.heap.size + 1) A B → I pre B)
    (hIx : ∀ c pre A B, Ix c pre A → Turn (fun b => S b ∨ b = w.heap.size + 1) A B → Ix c pre B)
    (h0 : ∀ W, Ext w W → W.heap.size = w.heap.size + 2 → I [] W) (up : α → Array Value → Array Value)
    (hassign : ∀ (x : α) (W : World) (Kn : Act → World → Prop), Kn { tmps := up x a.tmps, defers := [] } W →
      assign.wpIn (Fence.wide.inRound (w.heap.size + 1)) 0 P (Exit.then Kn (fun _ _ _ => False)) { tmps := (ps.zip (encs x)).foldl (fun t (p, v) => t.setIfInBounds p v) a.tmps, defers := [] } W)
    (hbody : ∀ (pre : List α) (x : α) (rest : List α) (W : World), xs = pre ++ x :: rest → w.heap.size + 2 ≤ W.heap.size → Turn (fun b => ¬ K b ∨ S b) w W → I pre W →
      body.wpIn (Fence.wide.inRound (w.heap.size + 1)) 0 P (roundQ (fun b => K b ∨ b = w.heap.size ∨ b = w.heap.size + 1) I Ix (pre ++ [x]) W) { tmps := up x a.tmps, defers := [] } W)
    (hdone : ∀ W, I xs W → Turn (fun b => ¬ K b ∨ S b) w W → W.heap[w.heap.size]? = some (.deferred (some [])) → Q .normal { a with defers := { target := .collected w.heap.size, args := #[] } :: a.defers } W)
    (hstop : ∀ c pre x rest W, xs = pre ++ x :: rest → Ix c (pre ++ [x]) W → W.heap[w.heap.size]? = some (.deferred (some [])) → c.wp P Q { a with defers := { target := .collected w.heap.size, args := #[] } :: a.defers } W) :
    (Code.rangeFunc g ps assign body).wp P Q a w := by
  refine (wpIn_wide (n := 0)).1 (wpIn_rangeFunc ?_)
  intro fn _
  obtain ⟨rec, hrec⟩ : ∃ rec : LoopState → Option Code → Loop, rec = fun st pe => { state := st, pending := pe, fn, tmps := a.tmps, params := ps, assign, body, defers := w.heap.size } := ⟨_, rfl⟩
  obtain ⟨W1, hW1⟩ : ∃ W1, (w.alloc (.deferred (some []))).alloc (.loop (rec .ready none)) = W1 := ⟨_, rfl⟩
  have hL1 : W1.heap[w.heap.size + 1]? = some (.loop (rec .ready none)) := by
    rw [← hW1]; have := World.alloc_heap_new (w.alloc (.deferred (some []))) (.loop (rec .ready none)); rwa [World.size_alloc] at this
  have hD1 : W1.heap[w.heap.size]? = some (.deferred (some [])) := by
    rw [← hW1]; exact (Below.heap_alloc _ _ _ (by simp)).trans (World.alloc_heap_new w _)
  have hE1 : Ext w W1 := by rw [← hW1]; exact ((Turn.refl _ w).alloc _).alloc _
  have hs1 : W1.heap.size = w.heap.size + 2 := by rw [← hW1]; simp
  have hnl : ∀ b, S b → b ≠ w.heap.size + 1 ∧ b ≠ w.heap.size := fun b hb => by have := hK b (hSK b hb); omega
  refine ⟨w.heap.size + 1, [{ target := .collected w.heap.size, args := #[] }], W1, { target := .fn (.func gf) lb, args := #[.func (.yield (w.heap.size + 1)) #[] #[]] }, W1, gf,
    #[.func (.yield (w.heap.size + 1)) #[] #[]] ++ lb, W1, ?_, ?_, fun _ _ => trivial, ?_, fun h => by simp [Fence.wide] at h, ?_⟩
  · rw [← hW1, hrec]; exact run_enterLoop_outer _ _ _ _ _
  · simp only [resolve, hg]
    simp [go_sem]
  · simp [invoke, go_sem, eg]
  · refine callsIn_wide.2 ((hseq (w.heap.size + 1)
      (fun pre W => I pre W ∧ W.heap[w.heap.size + 1]? = some (.loop (rec .ready none)) ∧ W.heap[w.heap.size]? = some (.deferred (some [])) ∧ Turn (fun b => ¬ K b ∨ S b) w W ∧ w.heap.size + 2 ≤ W.heap.size)
      (fun pre W => ∃ c, Ix c pre W ∧ W.heap[w.heap.size + 1]? = some (.loop (rec .done (some c))) ∧ W.heap[w.heap.size]? = some (.deferred (some [])))
      W1 hE1.of ?_ ?_ ?_ ⟨h0 _ hE1 hs1, hL1, hD1, hE1.of, by omega⟩).mono ?_)
    · rintro pre A B ⟨h1, h2, h3, h4, h5⟩ ht
      exact ⟨hI _ _ _ h1 (ht.mono fun b _ hb => .inl hb), ht.heap h2 (fun hb => (hnl _ hb).1 rfl), ht.heap h3 (fun hb => (hnl _ hb).2 rfl), h4.after ht (fun b _ hb => .inr hb), Nat.le_trans h5 ht.size⟩
    · rintro pre A B ⟨c, h1, h2, h3⟩ ht
      exact ⟨c, hIx _ _ _ _ h1 (ht.mono fun b _ hb => .inl hb), ht.heap h2 (fun hb => (hnl _ hb).1 rfl), ht.heap h3 (fun hb => (hnl _ hb).2 rfl)⟩
    · -- one round
      rintro pre x rest W hx ⟨hi, hl, hd, ht, hsz⟩
      have hlt : w.heap.size + 1 < W.heap.size := by omega
      have hy := run_yield (P := P) (args := encs x) hl (by rw [hrec]; exact hps x)
      rw [hrec] at hy
      refine ⟨fn, _, assign, body, hy, roundIn_of_wpIn trivial (hassign x W _ ?_)⟩
      clear hy
      refine ⟨_, run_beginRound hl (by rw [hrec]), ?_⟩
      have hl2 : (W.putObj (w.heap.size + 1) (.loop { rec .ready none with state := .busy })).heap[w.heap.size + 1]? = some (.loop { rec .ready none with state := .busy }) := World.putObj_heap_same hlt
      have hd2 : (W.putObj (w.heap.size + 1) (.loop { rec .ready none with state := .busy })).heap[w.heap.size]? = some (.deferred (some [])) := (World.putObj_heap_other (by omega)).trans hd
      have hput : ∀ (X : World) o, Turn (fun b => S b ∨ b = w.heap.size + 1) X (X.putObj (w.heap.size + 1) o) := fun X o => (Turn.refl _ X).putObj (.inr (.inr rfl)) o
      have hputK : ∀ (X : World) o, Turn (fun b => ¬ K b) X (X.putObj (w.heap.size + 1) o) := fun X o => (Turn.refl _ X).putObj (.inr (fun hk => by have := hK _ hk; omega)) o
      refine wpIn_mono (hbody pre x rest _ hx (by simpa using hsz) (ht.after (hputK W _) (fun b _ hb => .inl hb)) (hI _ _ _ hi (hput W _))) ?_
      have fin : ∀ (jump : Option Code) (W3 : World), Turn (fun b => ¬ (K b ∨ b = w.heap.size ∨ b = w.heap.size + 1)) (W.putObj (w.heap.size + 1) (.loop { rec .ready none with state := .busy })) W3 →
          (Instr.endRound (w.heap.size + 1) jump).run P W3 = .ok (.bool jump.isNone) (W3.putObj (w.heap.size + 1) (.loop (rec (if jump.isNone then .ready else .done) jump))) ∧
          (W3.putObj (w.heap.size + 1) (.loop (rec (if jump.isNone then .ready else .done) jump))).heap[w.heap.size + 1]? = some (.loop (rec (if jump.isNone then .ready else .done) jump)) ∧
          (W3.putObj (w.heap.size + 1) (.loop (rec (if jump.isNone then .ready else .done) jump))).heap[w.heap.size]? = some (.deferred (some [])) ∧
          Turn (fun b => ¬ K b) W (W3.putObj (w.heap.size + 1) (.loop (rec (if jump.isNone then .ready else .done) jump))) := fun jump W3 hk3 => by
        have hl3 := hk3.heap hl2 (fun h => h (.inr (.inr rfl)))
        have hd3 := hk3.heap hd2 (fun h => h (.inr (.inl rfl)))
        have := run_endRound (P := P) jump hl3
        rw [hrec] at this ⊢
        refine ⟨this, World.putObj_heap_same (Array.getElem?_eq_some_iff.1 hl3).1, (World.putObj_heap_other (by omega)).trans hd3, ?_⟩
        exact ((hputK W _).trans (hk3.mono fun b _ hb hk => hb (.inl hk))).trans (hputK W3 _)
      rintro e a3 W3 hp
      cases e with
      | normal =>
        obtain ⟨hk3, hi3⟩ := hp
        obtain ⟨hr, hl4, hd4, ht4⟩ := fin none W3 hk3
        exact ⟨_, _, hr, .inl ⟨rfl, ⟨hI _ _ _ hi3 (hput W3 _), hl4, hd4, ht.after ht4 (fun b _ hb => .inl hb), Nat.le_trans hsz ht4.size⟩, ht4⟩⟩
      | ret =>
        obtain ⟨hk3, hi3⟩ := hp
        obtain ⟨hr, hl4, hd4, ht4⟩ := fin (some .ret) W3 hk3
        exact ⟨_, _, hr, .inr ⟨rfl, .ret, hIx _ _ _ _ hi3 (hput W3 _), hl4, hd4⟩⟩
      | exit id =>
        obtain ⟨hk3, hi3⟩ := hp
        obtain ⟨hr, hl4, hd4, ht4⟩ := fin (some (.exit id)) W3 hk3
        exact ⟨_, _, hr, .inr ⟨rfl, .exit id, hIx _ _ _ _ hi3 (hput W3 _), hl4, hd4⟩⟩
      | goto t =>
        obtain ⟨hk3, hi3⟩ := hp
        obtain ⟨hr, hl4, hd4, ht4⟩ := fin (some (.goto t)) W3 hk3
        exact ⟨_, _, hr, .inr ⟨rfl, .goto t, hIx _ _ _ _ hi3 (hput W3 _), hl4, hd4⟩⟩
      | panic ch => exact hp.elim
      | outgrown => exact hp.elim
    · -- behind the iterator
      have hput : ∀ (X : World) o, Turn (fun b => S b ∨ b = w.heap.size + 1) X (X.putObj (w.heap.size + 1) o) := fun X o => (Turn.refl _ X).putObj (.inr (.inr rfl)) o
      rintro e W2 ⟨⟨v, rfl⟩, (⟨hi, hl, hd, ht, hsz⟩ | ⟨pre, x, rest, hx, c, hi, hl, hd⟩)⟩
      · refine ⟨none, _, by have := run_endLoop (P := P) hl (by rw [hrec]; simp); rw [hrec] at this; exact this, ?_⟩
        exact hdone _ (hI _ _ _ hi (hput W2 _)) (ht.putObj (.inl (by omega)) _) ((World.putObj_heap_other (by omega)).trans hd)
      · refine ⟨some c, _, by have := run_endLoop (P := P) hl (by rw [hrec]; simp); rw [hrec] at this; exact this, ?_⟩
        exact (wpIn_wide (n := 0)).2 (hstop c pre x rest _ hx (hIx _ _ _ _ hi (hput W2 _)) ((World.putObj_heap_other (by omega)).trans hd))
end Go.Ab

namespace Go.Ab
open Go.RowKit
variable {P : Program} {ops : Array Oper} {Q : Exit → Act → World → Prop}

theorem oper_bridge {o : Oper} {a : Act} {w : World} {K : Act → World → Prop} {l n : Nat} (hd : ∀ c, o.op ≠ .defer c) (hQ : ¬ LetsOut Q)
    (h : o.wp P a w K Q ∨ (o.asks P a w ∧ LetsOut Q)) : o.wpIn (Fence.wide.inRound l) n P a w K Q := by
  have h := h.resolve_right fun h => hQ h.2
  refine ⟨fun _ _ => trivial, ?_⟩
  rw [Oper.semAt_eq _ _ _ hd]
  unfold Oper.wp at h
  generalize (execOp a.eval o).run P w = r at *
  cases r with
  | ok x w' =>
    cases x <;> simp only [Oper.upon, Oper.uponIn] at h ⊢ <;> first
      | exact h
      | exact ⟨fun hh => by simp [Fence.wide] at hh, (callsIn_wide.2 h).inRound l⟩
      | exact ⟨fun hh => by simp [Fence.wide] at hh, fun c cs _ => let ⟨v, w'', hR, hs⟩ := h c cs; ⟨v, w'', hR, stepsIn_wide.2 hs⟩⟩
  | halt x w' => cases x <;> simp only [Oper.upon, Oper.uponIn] at h ⊢ <;> exact h

/-- No operation of the region is a defer statement. -/
def noDefer (ops : Array Oper) : Bool := ops.all fun o => match o.op with | .defer _ => false | _ => true
theorem noDefer_spec (h : noDefer ops = true) {i : Nat} {o : Oper} (ho : ops[i]? = some o) (c : Call) : o.op ≠ .defer c := by
  intro e
  have := Array.all_eq_true.1 h i (Array.getElem?_eq_some_iff.1 ho).1
  rw [(Array.getElem?_eq_some_iff.1 ho).2, e] at this
  simp at this

theorem wpOp_bridge {l n : Nat} (hd : noDefer ops = true) (hQ : ¬ LetsOut Q) {i : Nat} {K K' : Act → World → Prop} {a : Act} {w : World} (hK : ∀ a w, K a w → K' a w)
    (h : wpOp P ops Q i K a w) : wpOpIn (Fence.wide.inRound l) n P ops Q i K' a w := by
  have h := wpOp_mono hK h
  unfold wpOp at h
  unfold wpOpIn
  split
  · rename_i hi; rw [hi] at h; exact h
  · rename_i o hi
    rw [hi] at h
    simp only at h
    split
    · rename_i hw; rw [if_pos hw] at h; exact oper_bridge (noDefer_spec hd hi) hQ h
    · rename_i hw; rw [if_neg hw] at h; exact ⟨fun _ _ => trivial, h⟩

theorem wpAny_bridge {l n : Nat} {md : Region.Mode} (hd : noDefer ops = true) (hQ : ¬ LetsOut Q) : ∀ (f : Nat) (listed : Array Bool) (a : Act) (w : World),
    wpAny P md ops Q f listed a w → wpAnyIn (Fence.wide.inRound l) n P md ops Q f listed a w
  | 0, _, _, _, h => h
  | f + 1, _, _, _, h => ⟨h.1, fun i hi => wpOp_bridge hd hQ (fun a w h => wpAny_bridge hd hQ f _ a w h) (h.2 i hi)⟩

theorem wpOps_bridge {l n : Nat} (hd : noDefer ops = true) (hQ : ¬ LetsOut Q) : ∀ (is : List Nat) (a : Act) (w : World),
    wpOps P ops Q is a w → wpOpsIn (Fence.wide.inRound l) n P ops Q is a w
  | [], _, _, h => h
  | i :: is, a, w, h => by
    rw [wpOps_cons] at h
    rw [wpOpsIn_cons]
    exact wpOp_bridge hd hQ (fun a w h => wpOps_bridge hd hQ is a w h) h

/-- A region in the text's order, in a round's frame. -/
theorem wpIn_region_plain {id l n : Nat} {a : Act} {w : World} {os : List Oper} (hd : noDefer os.toArray = true) (hQ : ¬ LetsOut Q)
    (h : wpList P os.toArray Q os a w) : (Code.region id os.toArray false).wpIn (Fence.wide.inRound l) n P Q a w :=
  wpIn_region (wpOps_bridge hd hQ _ _ _ (by
    have := wpOps_eq_wpList (P := P) (ops := os.toArray) (Q := Q) os 0 (by simp)
    rw [show List.range os.toArray.size = List.range' 0 os.length by simp [List.range_eq_range'], this]; exact h))

theorem wpIn_region_any' {id l n : Nat} {a : Act} {w : World} (hm : P.follows .mixedOrders = true) (hd : noDefer ops = true) (hQ : ¬ LetsOut Q)
    (h : wpAny P .any ops Q ops.size (Array.replicate ops.size false) a { w with drawn := w.drawn + 1 }) : (Code.region id ops true).wpIn (Fence.wide.inRound l) n P Q a w :=
  wpIn_region_any hm (wpAny_bridge hd hQ _ _ _ _ h)

/-- 'wp_region_still_tail' in a round's frame: the first m operations only read; the rest stand in one order, and are walked as everywhere. -/
theorem wpIn_region_still_tail {id k n : Nat} {a : Act} {w : World} {l : List Oper} (m : Nat) (hm : P.follows .mixedOrders = true) (hB : Region.lexTailB .any l.toArray m = true) (hd : noDefer l.toArray = true) (hQ : ¬ LetsOut Q)
    (h : wpStill P l.toArray w.drew (fun a' => wpList P l.toArray Q (l.drop m) a' w.drew) (l.take m) a) : (Code.region id l.toArray true).wpIn (Fence.wide.inRound k) n P Q a w := by
  simp only [Region.lexTailB, Bool.and_eq_true, decide_eq_true_eq] at hB
  obtain ⟨⟨⟨⟨hsel, hn⟩, hs⟩, hc⟩, hlex⟩ := hB
  have hn' : m < l.length := by simpa using hn
  have htl : (l.take m).length = m := by simp; omega
  have hdl : (l.drop m).length = l.toArray.size - m := by simp
  have inv0 : HeadInv .any l.toArray m (Array.replicate l.toArray.size false) :=
    ⟨by simp, fun j oj _ hl => (by rw [getD_replicate_false] at hl; cases hl), fun t _ ht => getD_in (by simpa using ht) (getD_replicate_false _ _)⟩
  have H := wpAnyL_lex (md := .any) (g := l.toArray.size - m) hsel hs hc hn (l.take m) 0 _ a (fun j hj => by
    have hj' : j < m := by rw [htl] at hj; exact hj
    simp [hj']) (by simpa using htl) inv0 (by rw [htl]; exact hlex) h
  refine wpIn_region_any' hm hd hQ ?_
  have := wpAny_of_head (Q' := Q) (g := l.toArray.size - m) (fun listed a' hL => by
    have := wpAny_of_seq (md := .any) (Q' := Q) (l.drop m) m listed a' { w with drawn := w.drawn + 1 } (fun j => by simp [List.getElem?_drop]) (by rw [hdl]; exact hL.1) hL.2
    rwa [hdl] at this) _ _ _ H
  rw [htl, show m + (l.toArray.size - m) = l.toArray.size by omega] at this
  exact this

/-- The same outside of rounds. -/
theorem region_still {id : Nat} {a : Act} {w : World} {l : List Oper} (m : Nat) (hm : P.follows .mixedOrders = true) (hB : Region.lexTailB .any l.toArray m = true)
    (h : wpStill P l.toArray w.drew (fun a' => wpList P l.toArray Q (l.drop m) a' w.drew) (l.take m) a) : (Code.region id l.toArray true).wp P Q a w :=
  wp_region_still_tail m hm hB h

theorem roundQ_shut {α : Type} {K : Nat → Prop} {I : List α → World → Prop} {Ix : Code → List α → World → Prop} {xs : List α} {W : World} : ¬ LetsOut (roundQ K I Ix xs W) := fun ⟨_, _, h⟩ => h
end Go.Ab

namespace Go.Ab
open Go.RowKit

/-- v is a slice of n elements of sz cells each, which read as xs. -/
def Rd (w : World) (v : Value) (n sz : Nat) (xs : List Value) : Prop :=
  xs.length = n * sz ∧ n ≤ maxLen ∧ ∃ ao cap, v = .slice ao n cap ∧ (0 < n → ∃ g off, ao = some ⟨g, off, none⟩ ∧ g < w.heap.size ∧ ∀ j, j < n * sz → w.cell? ⟨g, off + j, none⟩ = some (xs.getD j undef))

theorem Rd.keep {S : Nat → Prop} {A B : World} {v : Value} {n sz : Nat} {xs : List Value} (h : Rd A v n sz xs) (ht : Turn S A B) (hS : ∀ g off len cap, v = .slice (some ⟨g, off, none⟩) len cap → ¬ S g) : Rd B v n sz xs := by
  obtain ⟨h1, h2, ao, cap, hv, h3⟩ := h
  refine ⟨h1, h2, ao, cap, hv, fun hn => ?_⟩
  obtain ⟨g, off, ha, hg, hc⟩ := h3 hn
  exact ⟨g, off, ha, Nat.lt_of_lt_of_le hg ht.size, fun j hj => ht.cell_some (hc j hj) (hS g off n cap (by rw [hv, ha]))⟩
theorem Rd.ext {A B : World} {v : Value} {n sz : Nat} {xs : List Value} (h : Rd A v n sz xs) (ht : Ext A B) : Rd B v n sz xs := h.keep ht fun _ _ _ _ _ h => h
theorem Rd.drewN {A : World} {v : Value} {n sz : Nat} {xs : List Value} (h : Rd A v n sz xs) (m : Nat) : Rd (A.drewN m) v n sz xs := h.ext ((Turn.refl _ A).drewN m)

theorem Rd.of_own {w : World} {base : Nat} {e : TypeId} {sz : Nat} {v : Value} {n : Nat} {xs : List Value} (h : w.ownsRow base e sz v n xs) : Rd w v n sz xs := by
  have hl := h.1
  rcases h.2 with ⟨rfl, rfl⟩ | ⟨g, cap, cur, rfl, hb, hg, hnc, hcm, hcs, htake⟩
  · exact ⟨hl, by simp [maxLen], none, 0, rfl, fun h => by omega⟩
  · refine ⟨hl, Nat.le_trans hnc hcm, some ⟨g, 0, none⟩, cap, rfl, fun _ => ⟨g, 0, rfl, (Array.getElem?_eq_some_iff.1 hg).1, fun j hj => ?_⟩⟩
    rw [Nat.zero_add, h.cellAt j hj, List.getD_eq_getElem?_getD]
    have : j < xs.length := by omega
    simp [this]

theorem own_keep {S : Nat → Prop} {A B : World} {base : Nat} {e : TypeId} {sz : Nat} {v : Value} {n : Nat} {xs : List Value} (h : A.ownsRow base e sz v n xs) (ht : Turn S A B) (hS : ∀ g, v.ownBlock = some g → ¬ S g) : B.ownsRow base e sz v n xs := by
  obtain ⟨hl, h2⟩ := h
  refine ⟨hl, ?_⟩
  rcases h2 with ⟨rfl, rfl⟩ | ⟨g, cap, cur, rfl, hb, hg, hr⟩
  · exact .inl ⟨rfl, rfl⟩
  · exact .inr ⟨g, cap, cur, rfl, hb, ht.heap hg (hS g rfl), hr⟩
theorem own_ext {A B : World} {base : Nat} {e : TypeId} {sz : Nat} {v : Value} {n : Nat} {xs : List Value} (h : A.ownsRow base e sz v n xs) (ht : Ext A B) : B.ownsRow base e sz v n xs := own_keep h ht fun _ _ h => h
/-- What is owned lies in cells. -/
theorem own_turn {S : Nat → Prop} {A B : World} {base : Nat} {e : TypeId} {sz : Nat} {v : Value} {n : Nat} {xs : List Value} (h : A.ownsRow base e sz v n xs) (ht : Turn S A B) (hS : ∀ g o, A.heap[g]? = some o → o.isCells = true → ¬ S g) : B.ownsRow base e sz v n xs := by
  refine own_keep h ht fun g hg => ?_
  rcases h.2 with ⟨e, _⟩ | ⟨g', cap, cur, e, _, hc, _⟩
  · rw [e] at hg; simp [Value.ownBlock] at hg
  · rw [e] at hg; simp [Value.ownBlock] at hg; subst hg; exact hS _ _ hc rfl
theorem own_base {A : World} {base base' : Nat} {e : TypeId} {sz : Nat} {v : Value} {n : Nat} {xs : List Value} (h : A.ownsRow base e sz v n xs) (hb : base' ≤ base) : A.ownsRow base' e sz v n xs := by
  obtain ⟨hl, h2⟩ := h
  refine ⟨hl, ?_⟩
  rcases h2 with h | ⟨g, cap, cur, hv, hb', hr⟩
  · exact .inl h
  · exact .inr ⟨g, cap, cur, hv, Nat.le_trans hb hb', hr⟩

/-- Where the row lies behind an append: where it lay, or in a new block. -/
theorem append_block {P : Program} {w : World} {base : Nat} {t ty e : TypeId} {i : TypeInfo} {z : Value} (ht : P.underlying t = some (.slice e)) (hi : P.info? e = some i) (hz : i.zero = some z) (_hsz : 0 < i.size)
    {v : Value} {n : Nat} {xs : List Value} (hown : w.ownsRow base e i.size v n xs)
    (a : Addr) (m c : Nat) (news : List Value) (hl : news.length = m * i.size) (hnews : ∀ j u, news[j]? = some u → w.cell? (a.add j) = some u) (h1 : ∀ u ∈ news, u.oneCell' = true)
    (h63 : n + m ≤ maxLen) (hbytes : (n + m) * i.bytes ≤ 140737488355328) {v' : Value} {w' : World}
    (hr : (Builtin.append_ #[t, t] ty #[v, .slice (some a) m c]).run P w = .ok v' w') : v'.ownBlock = v.ownBlock ∨ v'.ownBlock = some w.heap.size := by
  have hsmall : n + m ≤ 9223372036854775807 := by simp only [maxLen] at h63; omega
  rcases hown.2 with ⟨rfl, rfl⟩ | ⟨g, cap, cur, rfl, hbg, hg, hnc, hcm, hcs, htake⟩
  · by_cases hm : m = 0
    · subst hm
      have hn : news = [] := List.eq_nil_of_length_eq_zero (by simpa using hl)
      subst hn
      have : (Builtin.append_ #[t, t] ty #[.slice none 0 0, .slice (some a) 0 c]).run P w = .ok (.slice none 0 0) w := by
        simp [Builtin.append_, run_underlying ht, sizeOf, typeInfo, hi, Builtin.lenOf, Builtin.firstCells, loadCells, loadCellsFrom]
      rw [this] at hr
      cases hr
      exact .inl rfl
    · have hr' := run_append_nil (P := P) w t ty e i z ht hi hz a m c news hl hnews (by omega) (by omega) (by have hb := hbytes; simp only [Nat.zero_add] at hb; omega)
      rw [hr'] at hr
      cases hr
      exact .inr rfl
  · by_cases hroom : n + m ≤ cap
    · have hfit : n * i.size + news.length ≤ cur.size := by rw [hl, hcs, ← Nat.add_mul]; exact Nat.mul_le_mul_right _ hroom
      have hr' := run_append_room (P := P) w t ty e i ht hi g n cap cur hg a m c news hl hnews h1 hroom hfit
      rw [hr'] at hr
      cases hr
      exact .inl rfl
    · have holds : ∀ j u, xs[j]? = some u → w.cell? ((⟨g, 0, none⟩ : Addr).add j) = some u := hown.cells (g := g) rfl
      have hr' := run_append_grow (P := P) w t ty e i z ht hi hz ⟨g, 0, none⟩ n cap xs hown.1 holds a m c news hl hnews (by omega) (by omega) (growslice_fits (by omega) hbytes)
      rw [hr'] at hr
      cases hr
      exact .inr rfl

/-- The value of a slice. -/
def IsSlice (v : Value) : Prop := ∃ ao n cap, v = .slice ao n cap
theorem own_slice {w : World} {base : Nat} {e : TypeId} {sz : Nat} {v : Value} {n : Nat} {xs : List Value} (h : w.ownsRow base e sz v n xs) : ∃ ao cap, v = .slice ao n cap := by
  rcases h.2 with ⟨rfl, rfl⟩ | ⟨g, cap, cur, rfl, _⟩
  · exact ⟨_, _, rfl⟩
  · exact ⟨_, _, rfl⟩

/-- append of m elements that lie in cells. -/
theorem append_row {P : Program} {w : World} {ops : Array Oper} {rest : List Oper} {o : Oper} {a : Act} {Q : Exit → Act → World → Prop} (hgd : o.guard = none) (s x : Operand) (t : TypeId)
    (ho : o.op = .call { callee := .builtin .append, args := #[s, x], argTypes := #[t, t] })
    (base : Nat) (e : TypeId) (z : Value) (size bytes : Nat) (ht : P.underlying t = some (.slice e)) (hinfo : (P.info? e).map (fun i => (i.zero, i.size, i.bytes)) = some (some z, size, bytes))
    (hzs : z.cells.size = size) (hsz : 0 < size)
    (v : Value) (n : Nat) (xs : List Value) (hs : a.eval s = v) (hown : w.ownsRow base e size v n xs)
    (ad : Addr) (m c : Nat) (news : List Value) (hx : a.eval x = .slice (some ad) m c) (hl : news.length = m * size) (hnews : ∀ j u, news[j]? = some u → w.cell? (ad.add j) = some u) (h1 : ∀ u ∈ news, u.oneCell' = true)
    (h63 : n + m ≤ maxLen) (hbytes : (n + m) * bytes ≤ 140737488355328) (hbase : base ≤ w.heap.size)
    (h : ∀ ao c' w', w'.ownsRow base e size (.slice ao (n + m) c') (n + m) (xs ++ news) → Turn (fun b => v.ownBlock = some b) w w' → ((Value.slice ao (n + m) c').ownBlock = v.ownBlock ∨ (Value.slice ao (n + m) c').ownBlock = some w.heap.size) → wpList P ops Q rest (a.put o.dst (.slice ao (n + m) c')) w') : wpList P ops Q (o :: rest) a w := by
  obtain ⟨i, hi, hz, hs1, hb1⟩ := info_parts hinfo
  subst hs1
  subst hb1
  refine wpList_plain hgd fun K hK => ?_
  obtain ⟨v', w', hr, h2, h3, h4⟩ := run_append_own (P := P) w base t o.type e i z _ _ ht hi hz rfl rfl hzs hsz v n xs hown ad m c news hl hnews h1 h63 hbytes hbase
  have h5 := append_block ht hi hz hsz hown ad m c news hl hnews h1 h63 hbytes hr
  unfold Oper.wp execOp
  simp only [ho, resolve, invoke, builtin, Sem.run_bind, Sem.run_pure, Result.andThen_ok, List.map_toArray, List.map_cons, List.map_nil, hs, hx, hr]
  obtain ⟨ao, c', rfl⟩ := own_slice h2
  exact hK _ _ (h ao c' w' h2 ((Turn.refl _ w).grown h3 (fun k e => .inr e)) h5)

/-- The cells of a block that was just laid. -/
theorem new_cells {w : World} {l : List Value} {t : TypeId} : ∀ j u, l[j]? = some u → (w.alloc (.cells l.toArray t)).cell? ((⟨w.heap.size, 0, none⟩ : Addr).add j) = some u := by
  intro j u hj
  have e : ((⟨w.heap.size, 0, none⟩ : Addr).add j) = ⟨w.heap.size, j, none⟩ := by
    unfold Addr.add; split
    · rename_i h; subst h; rfl
    · simp
  rw [e, World.cell?_alloc_new]
  simpa using hj
theorem new_cells' {w : World} {l : List Value} {t : TypeId} {n : Nat} (hn : n = w.heap.size) : ∀ j u, l[j]? = some u → (w.alloc (.cells l.toArray t)).cell? ((⟨n, 0, none⟩ : Addr).add j) = some u := by
  subst hn; exact new_cells
theorem madeCells_one (z : Value) (n : Nat) : (madeCells #[z] n).toList = List.replicate n z := by
  simp only [madeCells, Array.toList_map, Array.toList_range]
  apply List.ext_getElem
  · simp
  · intro i h1 h2
    simp [Nat.mod_one]

/-- make of n elements of one cell. -/
theorem make_row1 {P : Program} {w : World} {ops : Array Oper} {rest : List Oper} {o : Oper} {a : Act} {Q : Exit → Act → World → Prop}
    (hg : o.guard = none) (l c : Operand) (t : TypeId) (hop : o.op = Op.makeSlice t l c)
    (base : Nat) (e : TypeId) (z : Value) (bytes : Nat) (h1 : P.underlying t = some (.slice e)) (hinfo : (P.info? e).map (fun i => (i.zero, i.size, i.bytes)) = some (some z, 1, bytes)) (hz : z.cells = #[z])
    (kl kc : IntKind) (L C : Int) (n : Nat) (hl : a.eval l = .int kl L) (hc : a.eval c = .int kc C) (hL : L = (n : Int)) (hC : C = (n : Int)) (b2 : bytes * n ≤ 281474976710656) (b3 : n ≤ maxLen) (b4 : base ≤ w.heap.size)
    (hK : ∀ w', w'.ownsRow base e 1 (.slice (some ⟨w.heap.size, 0, none⟩) n n) n (List.replicate n z) → Ext w w' → wpList P ops Q rest (a.put o.dst (.slice (some ⟨w.heap.size, 0, none⟩) n n)) w') :
    wpList P ops Q (o :: rest) a w := by
  obtain ⟨i, hi, hz1, hs1, hb1⟩ := info_parts hinfo
  subst hb1
  refine wpList_make_full w hg l c t hop base e i z 1 h1 hi hz1 hs1 kl kc L C n hl hc hL hC b2 b3 b4 fun w' hO hG => ?_
  rw [hz, Nat.mul_one, madeCells_one] at hO
  exact hK w' hO ((Turn.refl _ w).grown hG (fun k e => by cases e))

/-- A store into a row of one-cell elements. -/
theorem own_store {w : World} {base g n cap : Nat} {e : TypeId} {xs : List Value} (h : w.ownsRow base e 1 (.slice (some ⟨g, 0, none⟩) n cap) n xs) (j : Nat) (u : Value) :
    (w.setCell ⟨g, j, none⟩ u).ownsRow base e 1 (.slice (some ⟨g, 0, none⟩) n cap) n (xs.set j u) := (h.stored j u).1
end Go.Ab

namespace Go.Ab

/-- The number whose bits below n are those where p holds. -/
def mask : Nat → (Nat → Bool) → Nat
  | 0, _ => 0
  | n + 1, p => mask n p + if p n then 2 ^ n else 0

theorem mask_lt (n : Nat) (p : Nat → Bool) : mask n p < 2 ^ n := by
  induction n with
  | zero => simp [mask]
  | succ n ih =>
    unfold mask
    rw [Nat.pow_succ]
    split <;> omega

theorem testBit_mask (n : Nat) (p : Nat → Bool) (i : Nat) : (mask n p).testBit i = (decide (i < n) && p i) := by
  induction n with
  | zero => simp [mask]
  | succ n ih =>
    unfold mask
    have hlt := mask_lt n p
    by_cases hp : p n = true
    · rw [if_pos hp, Nat.add_comm]
      rw [show 2 ^ n + mask n p = 2 ^ n * 1 + mask n p by omega]
      rw [Nat.testBit_two_pow_mul_add _ hlt]
      split
      · rename_i h; rw [ih]; simp [h, Nat.lt_succ_of_lt h]
      · rename_i h
        by_cases e : i = n
        · subst e; simp [hp]
        · obtain ⟨d, hd⟩ : ∃ d, i - n = d + 1 := ⟨i - n - 1, by omega⟩
          rw [hd, Nat.testBit_succ]
          simp; omega
    · rw [if_neg hp, Nat.add_zero, ih]
      by_cases e : i = n
      · subst e; simp at hp; simp [hp]
      · have : (i < n + 1) ↔ (i < n) := by omega
        simp [this]

theorem eq_mask {n v : Nat} {p : Nat → Bool} (hv : v < 2 ^ n) (h : ∀ i, i < n → v.testBit i = p i) : v = mask n p := by
  apply Nat.eq_of_testBit_eq
  intro i
  rw [testBit_mask]
  by_cases hi : i < n
  · simp [hi, h i hi]
  · rw [Nat.testBit_lt_two_pow (Nat.lt_of_lt_of_le hv (Nat.pow_le_pow_right (by decide) (by omega)))]
    simp [hi]

theorem mask_congr {n : Nat} {p q : Nat → Bool} (h : ∀ i, i < n → p i = q i) : mask n p = mask n q :=
  eq_mask (mask_lt n p) fun i hi => by rw [testBit_mask]; simp [hi, h i hi]

theorem mask_or (n : Nat) (p q : Nat → Bool) : mask n p ||| mask n q = mask n (fun i => p i || q i) :=
  eq_mask (Nat.or_lt_two_pow (mask_lt n p) (mask_lt n q)) fun i hi => by
    rw [Nat.testBit_or, testBit_mask, testBit_mask]; simp [hi]

theorem mask_and (n : Nat) (p q : Nat → Bool) : mask n p &&& mask n q = mask n (fun i => p i && q i) :=
  eq_mask (Nat.and_lt_two_pow _ (mask_lt n q)) fun i hi => by
    rw [Nat.testBit_and, testBit_mask, testBit_mask]; simp [hi]

theorem two_pow_mask {n x : Nat} (hx : x < n) : 2 ^ x = mask n (fun i => i == x) :=
  eq_mask (Nat.pow_lt_pow_right (by decide) hx) fun i _ => by
    rw [Nat.testBit_two_pow]
    by_cases h : x = i
    · subst h; simp
    · have : (i == x) = false := by simp; omega
      simp [h, this]

theorem mask_zero (n : Nat) : mask n (fun _ => false) = 0 := by
  induction n with
  | zero => rfl
  | succ n ih => simp [mask, ih]

theorem mask_eq_zero {n : Nat} {p : Nat → Bool} (h : mask n p = 0) (i : Nat) (hi : i < n) : p i = false := by
  have := testBit_mask n p i
  rw [h] at this
  simpa [hi] using this.symm

/-- Embedding a mask of n bits in a greater width changes nothing. -/
theorem mask_widen {n m : Nat} (hnm : n ≤ m) (p : Nat → Bool) : mask n p = mask m (fun i => decide (i < n) && p i) :=
  eq_mask (Nat.lt_of_lt_of_le (mask_lt n p) (Nat.pow_le_pow_right (by decide) hnm)) fun i _ => by rw [testBit_mask]

/-- The bits of a number, below 64, in increasing order. -/
def evs (v : Nat) : List Nat := (List.range 64).filter v.testBit

theorem evs_zero : evs 0 = [] := by simp [evs]

theorem mem_evs {v i : Nat} : i ∈ evs v ↔ i < 64 ∧ v.testBit i = true := by simp [evs]

theorem evs_mask (n : Nat) (hn : n ≤ 64) (p : Nat → Bool) : evs (mask n p) = (List.range n).filter p := by
  unfold evs
  have e : (64 : Nat) = n + (64 - n) := by omega
  rw [e, List.range_add, List.filter_append]
  have h1 : (List.range n).filter (mask n p).testBit = (List.range n).filter p := by
    apply List.filter_congr
    intro i hi
    rw [testBit_mask]; simp at hi; simp [hi]
  have h2 : (List.map (n + ·) (List.range (64 - n))).filter (mask n p).testBit = [] := by
    rw [List.filter_eq_nil_iff]
    intro i hi
    simp only [List.mem_map, List.mem_range] at hi
    obtain ⟨j, _, rfl⟩ := hi
    rw [testBit_mask]; simp; omega
  rw [h1, h2, List.append_nil]

theorem ctz_form (v : Nat) (h0 : v ≠ 0) (h : v < 2 ^ 64) : ∃ m, v = 2 ^ Lib.ctz 64 v * (2 * m + 1) ∧ Lib.ctz 64 v < 64 := by
  obtain ⟨m, hm, hk⟩ := Lib.ctzFrom_spec 64 v (by omega) h
  have e : Lib.ctz 64 v = Lib.ctzFrom 64 v := by simp [Lib.ctz, h0]
  rw [e]
  exact ⟨m, hm, hk⟩

theorem and_pred (k m : Nat) : 2 ^ k * (2 * m + 1) &&& (2 ^ k * (2 * m + 1) - 1) = 2 ^ (k + 1) * m := by
  have hp : 0 < 2 ^ k := Nat.two_pow_pos k
  have e1 : 2 ^ k * (2 * m + 1) - 1 = 2 ^ k * (2 * m) + (2 ^ k - 1) := by
    rw [Nat.mul_add, Nat.mul_one]; omega
  rw [e1]
  apply Nat.eq_of_testBit_eq
  intro i
  have hl : (2 ^ k - 1) < 2 ^ k := by omega
  rw [Nat.testBit_and, Nat.testBit_two_pow_mul_add _ hl, Nat.testBit_two_pow_mul, Nat.testBit_two_pow_mul]
  by_cases hik : i < k
  · have a1 : ¬ i ≥ k := by omega
    have a2 : ¬ i ≥ k + 1 := by omega
    simp [a1, a2]
  · rw [if_neg hik]
    by_cases e : i = k
    · subst e; simp [Nat.testBit_zero]; omega
    · obtain ⟨d, rfl⟩ : ∃ d, i = k + (d + 1) := ⟨i - k - 1, by omega⟩
      have d1 : k + (d + 1) - k = d + 1 := by omega
      have d2 : k + (d + 1) - (k + 1) = d := by omega
      rw [d1, d2, Nat.testBit_succ, Nat.testBit_succ]
      have c1 : (2 * m + 1) / 2 = m := by omega
      have c2 : 2 * m / 2 = m := by omega
      rw [c1, c2]
      have g1 : k + (d + 1) ≥ k := by omega
      have g2 : k + (d + 1) ≥ k + 1 := by omega
      simp [g1, g2]

theorem testBit_form (k m i : Nat) : (2 ^ k * (2 * m + 1)).testBit i = (decide (i = k) || (decide (k < i) && m.testBit (i - (k + 1)))) := by
  rw [Nat.testBit_two_pow_mul]
  by_cases hik : i < k
  · have a1 : ¬ i ≥ k := by omega
    have a2 : ¬ i = k := by omega
    have a3 : ¬ k < i := by omega
    simp [a1, a2, a3]
  · by_cases e : i = k
    · subst e; simp [Nat.testBit_zero]
    · obtain ⟨d, rfl⟩ : ∃ d, i = k + (d + 1) := ⟨i - k - 1, by omega⟩
      have d1 : k + (d + 1) - k = d + 1 := by omega
      have d2 : k + (d + 1) - (k + 1) = d := by omega
      rw [d1, d2, Nat.testBit_succ]
      have c1 : (2 * m + 1) / 2 = m := by omega
      rw [c1]
      have g1 : k + (d + 1) ≥ k := by omega
      have g2 : k < k + (d + 1) := by omega
      simp [g1, g2]

/-- The first bit, then those of v & (v - 1). -/
theorem evs_cons (v : Nat) (h0 : v ≠ 0) (h : v < 2 ^ 64) : evs v = Lib.ctz 64 v :: evs (v &&& (v - 1)) := by
  obtain ⟨m, hm, hk⟩ := ctz_form v h0 h
  generalize Lib.ctz 64 v = k at hm hk
  have hb : ∀ i, v.testBit i = (decide (i = k) || (decide (k < i) && m.testBit (i - (k + 1)))) := fun i => by rw [hm]; exact testBit_form k m i
  have hb' : ∀ i, (v &&& (v - 1)).testBit i = (decide (k < i) && m.testBit (i - (k + 1))) := fun i => by
    rw [hm, and_pred, Nat.testBit_two_pow_mul]
    simp only [ge_iff_le, Nat.succ_le_iff]
  unfold evs
  have e : (64 : Nat) = k + (1 + (63 - k)) := by omega
  rw [e, List.range_add, List.filter_append, List.filter_append, List.range_add, List.map_append, List.filter_append, List.filter_append]
  have z1 : (List.range k).filter v.testBit = [] := by
    rw [List.filter_eq_nil_iff]; intro i hi; simp at hi; rw [hb]; simp; omega
  have z2 : (List.range k).filter (v &&& (v - 1)).testBit = [] := by
    rw [List.filter_eq_nil_iff]; intro i hi; simp at hi; rw [hb']; simp; omega
  have o1 : (List.map (k + ·) (List.range 1)).filter v.testBit = [k] := by
    have : v.testBit k = true := by rw [hb]; simp
    simp [List.range_one, this]
  have o2 : (List.map (k + ·) (List.range 1)).filter (v &&& (v - 1)).testBit = [] := by
    have : (v &&& (v - 1)).testBit k = false := by rw [hb']; simp
    simp [List.range_one, this]
  rw [z1, z2, o1, o2, List.nil_append, List.nil_append, List.nil_append, List.singleton_append]
  congr 1
  apply List.filter_congr
  intro i hi
  simp only [List.mem_map, List.mem_range] at hi
  obtain ⟨j, ⟨j', _, rfl⟩, rfl⟩ := hi
  rw [hb, hb']
  simp

theorem evs_length (v : Nat) : (evs v).length ≤ 64 := by
  unfold evs
  have := List.length_filter_le v.testBit (List.range 64)
  simpa using this

end Go.Ab

namespace Go.Ab

/-- A pattern, as data. -/
inductive Pat where
  | node (k : Int) (pl mi : Nat) (nt : Bool) (mn mx : Int) (l : List Pat)
namespace Pat
def k : Pat → Int | node k _ _ _ _ _ _ => k
def pl : Pat → Nat | node _ p _ _ _ _ _ => p
def mi : Pat → Nat | node _ _ m _ _ _ _ => m
def nt : Pat → Bool | node _ _ _ b _ _ _ => b
def mn : Pat → Int | node _ _ _ _ x _ _ => x
def mx : Pat → Int | node _ _ _ _ _ x _ => x
def l : Pat → List Pat | node _ _ _ _ _ _ l => l
end Pat

def okSound (pl mi : Nat) : Bool := pl &&& mi == 0 && (pl ||| mi) / 16777216 == 0

/-- The error of a node alone. -/
def nodeE (p : Pat) : Int :=
  if p.k < 0 ∨ 6 < p.k then 2
  else if p.k ≠ 1 ∧ (p.pl ≠ 0 ∨ p.mi ≠ 0 ∨ p.nt = true) then 2
  else if p.k ≠ 3 ∧ p.k ≠ 4 ∧ p.k ≠ 5 ∧ p.l.length ≠ 0 then 2
  else if p.k ≠ 5 ∧ (p.mn ≠ 0 ∨ p.mx ≠ 0) then 2
  else if p.k = 5 ∧ (p.l.length ≠ 1 ∨ p.mn < 0 ∨ 32 < p.mn ∨ (p.mx ≠ -1 ∧ (p.mx < p.mn ∨ 32 < p.mx))) then 2
  else if okSound p.pl p.mi = true then 0 else 14

/-- The first error among the nodes that are still to be examined; f more may be. -/
def chk : Nat → List Pat → Int
  | _, [] => 0
  | 0, _ :: _ => 12
  | f + 1, p :: l => if nodeE p = 0 then chk f (p.l ++ l) else nodeE p
theorem chk_succ (f : Nat) (p : Pat) (l : List Pat) : chk (f + 1) (p :: l) = if nodeE p = 0 then chk f (p.l ++ l) else nodeE p := rfl
def chkP (p : Pat) : Int := chk 40 [p]

/-- The same, a node and then its parts. -/
def bindE (r : Nat × Int) (f : Nat → Nat × Int) : Nat × Int := if r.2 = 0 then f r.1 else r
mutual
def walkP : Pat → Nat → Nat × Int
  | .node k pl mi nt mn mx l, n => if n = 40 then (n, 12) else if nodeE (.node k pl mi nt mn mx l) = 0 then walkL l (n + 1) else (n, nodeE (.node k pl mi nt mn mx l))
def walkL : List Pat → Nat → Nat × Int
  | [], n => (n, 0)
  | p :: l, n => bindE (walkP p n) (walkL l)
end

theorem nodeE_vals (p : Pat) : nodeE p = 0 ∨ nodeE p = 2 ∨ nodeE p = 14 := by
  unfold nodeE
  repeat' split
  all_goals simp

mutual
theorem walkP_chk : ∀ (p : Pat) (n : Nat) (rest : List Pat), n ≤ 40 → ((walkP p n).1 ≤ 40 ∧ n ≤ (walkP p n).1) ∧ chk (40 - n) (p :: rest) = (if (walkP p n).2 = 0 then chk (40 - (walkP p n).1) rest else (walkP p n).2)
  | .node k pl mi nt mn mx l, n, rest, hn => by
    unfold walkP
    by_cases h : n = 40
    · subst h
      rw [if_pos rfl]
      exact ⟨⟨by simp, by simp⟩, by simp [chk]⟩
    · rw [if_neg h]
      obtain ⟨f, hf⟩ : ∃ f, 40 - n = f + 1 := ⟨39 - n, by omega⟩
      rw [hf]
      by_cases he : nodeE (.node k pl mi nt mn mx l) = 0
      · rw [if_pos he]
        have := walkL_chk l (n + 1) rest (by omega)
        refine ⟨⟨this.1.1, by have := this.1.2; omega⟩, ?_⟩
        rw [chk_succ, if_pos he, ← this.2, show 40 - (n + 1) = f by omega]
        rfl
      · rw [if_neg he]
        refine ⟨⟨hn, Nat.le_refl _⟩, ?_⟩
        rw [chk_succ, if_neg he, if_neg he]
theorem walkL_chk : ∀ (l : List Pat) (n : Nat) (rest : List Pat), n ≤ 40 → ((walkL l n).1 ≤ 40 ∧ n ≤ (walkL l n).1) ∧ chk (40 - n) (l ++ rest) = (if (walkL l n).2 = 0 then chk (40 - (walkL l n).1) rest else (walkL l n).2)
  | [], n, rest, hn => by simp [walkL, hn]
  | p :: l, n, rest, hn => by
    have h1 := walkP_chk p n (l ++ rest) hn
    rw [List.cons_append]
    unfold walkL bindE
    by_cases he : (walkP p n).2 = 0
    · rw [if_pos he] at h1 ⊢
      have h2 := walkL_chk l (walkP p n).1 rest h1.1.1
      exact ⟨⟨h2.1.1, Nat.le_trans h1.1.2 h2.1.2⟩, h1.2.trans h2.2⟩
    · rw [if_neg he] at h1 ⊢
      exact ⟨h1.1, by rw [h1.2, if_neg he]⟩
end
theorem walkP_zero (p : Pat) : (walkP p 0).2 = chkP p := by
  have h := (walkP_chk p 0 [] (by omega)).2
  unfold chkP
  rw [h]
  by_cases he : (walkP p 0).2 = 0
  · rw [if_pos he, he]; cases 40 - (walkP p 0).1 <;> rfl
  · rw [if_neg he]

/-- No more than the first f + 1 nodes are ever looked at. -/
theorem chk_take : ∀ (f : Nat) (l : List Pat) (m : Nat), f + 1 ≤ m → chk f (l.take m) = chk f l
  | f, [], m, _ => by simp
  | 0, p :: l, m, h => by
    obtain ⟨m, rfl⟩ : ∃ k, m = k + 1 := ⟨m - 1, by omega⟩
    rfl
  | f + 1, p :: l, m, h => by
    obtain ⟨m, rfl⟩ : ∃ k, m = k + 1 := ⟨m - 1, by omega⟩
    rw [List.take_succ_cons]
    rw [chk_succ, chk_succ]
    by_cases he : nodeE p = 0
    · rw [if_pos he, if_pos he]
      have h1 := chk_take f (p.l ++ l) (p.l.length + m) (by omega)
      have h2 : (p.l ++ l).take (p.l.length + m) = p.l ++ l.take m := by
        rw [List.take_append]; simp [List.take_of_length_le]
      rw [← h1, h2]
    · rw [if_neg he, if_neg he]
theorem chk_cut (f : Nat) (l rest : List Pat) (hf : f ≤ 40) : chk f (l.take 41 ++ rest) = chk f (l ++ rest) := by
  rw [← chk_take f (l.take 41 ++ rest) 41 (by omega), ← chk_take f (l ++ rest) 41 (by omega), List.take_append, List.take_append, List.take_take, List.length_take]
  congr 2
  by_cases h : l.length ≤ 41
  · rw [Nat.min_eq_right h]
  · rw [Nat.min_eq_left (by omega), show 41 - l.length = 0 by omega]

/-! ### Sizes -/

/-- How many nodes there are, but f at most. -/
def szW : Nat → List Pat → Nat
  | _, [] => 0
  | 0, _ :: _ => 0
  | f + 1, p :: l => szW f (p.l ++ l) + 1
def sizeP (p : Pat) : Nat := szW 41 [p]
mutual
def cntP : Pat → Nat → Nat
  | .node _ _ _ _ _ _ l, n => cntL l (n + 1)
def cntL : List Pat → Nat → Nat
  | [], n => n
  | p :: l, n => if n ≤ 40 then cntL l (cntP p n) else n
end
theorem szW_zero (l : List Pat) : szW 0 l = 0 := by cases l <;> rfl
mutual
theorem cntP_sz : ∀ (p : Pat) (n : Nat) (rest : List Pat), n ≤ 40 → (cntP p n ≤ 41 ∧ n < cntP p n) ∧ n + szW (41 - n) (p :: rest) = cntP p n + szW (41 - cntP p n) rest
  | .node k pl mi nt mn mx l, n, rest, hn => by
    unfold cntP
    obtain ⟨f, hf⟩ : ∃ f, 41 - n = f + 1 := ⟨40 - n, by omega⟩
    have h := cntL_sz l (n + 1) rest (by omega)
    refine ⟨⟨h.1.1, h.1.2⟩, ?_⟩
    rw [← h.2, hf, show 41 - (n + 1) = f by omega]
    show n + (szW f (l ++ rest) + 1) = _
    omega
theorem cntL_sz : ∀ (l : List Pat) (n : Nat) (rest : List Pat), n ≤ 41 → (cntL l n ≤ 41 ∧ n ≤ cntL l n) ∧ n + szW (41 - n) (l ++ rest) = cntL l n + szW (41 - cntL l n) rest
  | [], n, rest, hn => ⟨⟨hn, Nat.le_refl _⟩, rfl⟩
  | p :: l, n, rest, hn => by
    unfold cntL
    by_cases h : n ≤ 40
    · rw [if_pos h]
      have h1 := cntP_sz p n (l ++ rest) h
      have h2 := cntL_sz l (cntP p n) rest h1.1.1
      exact ⟨⟨h2.1.1, by have := h1.1.2; have := h2.1.2; omega⟩, by rw [List.cons_append, h1.2, h2.2]⟩
    · rw [if_neg h]
      obtain rfl : n = 41 := by omega
      exact ⟨⟨Nat.le_refl _, Nat.le_refl _⟩, by rw [Nat.sub_self, szW_zero, szW_zero]⟩
end
theorem cntP_zero (p : Pat) : cntP p 0 = sizeP p := by
  have h := (cntP_sz p 0 [] (by omega)).2
  have e : szW (41 - cntP p 0) [] = 0 := by cases 41 - cntP p 0 <;> rfl
  rw [e, Nat.sub_zero, Nat.zero_add, Nat.add_zero] at h
  exact h.symm
theorem szW_take : ∀ (f : Nat) (l : List Pat) (m : Nat), f ≤ m → szW f (l.take m) = szW f l
  | 0, l, m, _ => by rw [szW_zero, szW_zero]
  | f + 1, [], m, _ => by simp
  | f + 1, p :: l, m, h => by
    obtain ⟨m, rfl⟩ : ∃ k, m = k + 1 := ⟨m - 1, by omega⟩
    rw [List.take_succ_cons]
    show szW f _ + 1 = szW f _ + 1
    have h1 := szW_take f (p.l ++ l) (p.l.length + m) (by omega)
    have h2 : (p.l ++ l).take (p.l.length + m) = p.l ++ l.take m := by
      rw [List.take_append]; simp [List.take_of_length_le]
    rw [← h1, h2]
end Go.Ab

namespace Go.Ab

abbrev Bin2 := Nat → Nat → Bool
abbrev Wd := List (Nat × Nat)

/-- One relation, and then another one. -/
def comp (X Y : Bin2) : Bin2 := fun a c => (List.range 33).any fun b => X a b && Y b c
def idB (n : Nat) : Bin2 := fun a b => a == b && decide (a ≤ n)
def orB (X Y : Bin2) : Bin2 := fun a b => X a b || Y a b
def noB : Bin2 := fun _ _ => false
def powB (X : Bin2) (n : Nat) : Nat → Bin2
  | 0 => idB n
  | k + 1 => comp X (powB X n k)

/-- Places go on to places that are not before them, up to n. -/
def Mono (n : Nat) (X : Bin2) : Prop := ∀ a b, X a b = true → a ≤ b ∧ b ≤ n

theorem comp_iff {X Y : Bin2} {a c : Nat} : comp X Y a c = true ↔ ∃ b, b < 33 ∧ X a b = true ∧ Y b c = true := by
  simp only [comp, List.any_eq_true, List.mem_range, Bool.and_eq_true]
theorem idB_iff {n a b : Nat} : idB n a b = true ↔ a = b ∧ a ≤ n := by simp [idB]
theorem orB_iff {X Y : Bin2} {a b : Nat} : orB X Y a b = true ↔ X a b = true ∨ Y a b = true := by simp [orB]
theorem bin_ext {X Y : Bin2} (h : ∀ a b, X a b = true ↔ Y a b = true) : X = Y := by
  funext a b; exact Bool.eq_iff_iff.2 (h a b)

theorem Mono.id (n : Nat) : Mono n (idB n) := fun a b h => by rw [idB_iff] at h; omega
theorem Mono.no (n : Nat) : Mono n noB := fun a b h => by cases h
theorem Mono.comp {n : Nat} {X Y : Bin2} (h : Mono n X) (k : Mono n Y) : Mono n (comp X Y) := fun a c hc => by
  obtain ⟨b, _, h1, h2⟩ := comp_iff.1 hc
  have := h _ _ h1; have := k _ _ h2; omega
theorem Mono.or {n : Nat} {X Y : Bin2} (h : Mono n X) (k : Mono n Y) : Mono n (orB X Y) := fun a b hc => by
  rcases orB_iff.1 hc with hc | hc
  · exact h _ _ hc
  · exact k _ _ hc
theorem Mono.pow {n : Nat} {X : Bin2} (h : Mono n X) : ∀ k, Mono n (powB X n k)
  | 0 => Mono.id n
  | k + 1 => h.comp (Mono.pow h k)

theorem comp_assoc (X Y Z : Bin2) : comp (comp X Y) Z = comp X (comp Y Z) := by
  apply bin_ext; intro a d
  simp only [comp_iff]
  constructor
  · rintro ⟨c, hc, ⟨b, hb, h1, h2⟩, h3⟩; exact ⟨b, hb, h1, c, hc, h2, h3⟩
  · rintro ⟨b, hb, h1, c, hc, h2, h3⟩; exact ⟨c, hc, ⟨b, hb, h1, h2⟩, h3⟩
theorem comp_id {n : Nat} (hn : n ≤ 32) {X : Bin2} (h : Mono n X) : comp X (idB n) = X := by
  apply bin_ext; intro a c
  simp only [comp_iff, idB_iff]
  constructor
  · rintro ⟨b, _, h1, rfl, _⟩; exact h1
  · intro h1; have := h _ _ h1; exact ⟨c, by omega, h1, rfl, by omega⟩
theorem id_comp {n : Nat} (hn : n ≤ 32) {X : Bin2} (h : Mono n X) : comp (idB n) X = X := by
  apply bin_ext; intro a c
  simp only [comp_iff, idB_iff]
  constructor
  · rintro ⟨b, _, ⟨rfl, _⟩, h1⟩; exact h1
  · intro h1; have := h _ _ h1; exact ⟨a, by omega, ⟨rfl, by omega⟩, h1⟩
theorem comp_or (X Y Z : Bin2) : comp X (orB Y Z) = orB (comp X Y) (comp X Z) := by
  apply bin_ext; intro a c
  simp only [comp_iff, orB_iff]
  constructor
  · rintro ⟨b, hb, h1, h2 | h2⟩
    · exact .inl ⟨b, hb, h1, h2⟩
    · exact .inr ⟨b, hb, h1, h2⟩
  · rintro (⟨b, hb, h1, h2⟩ | ⟨b, hb, h1, h2⟩)
    · exact ⟨b, hb, h1, .inl h2⟩
    · exact ⟨b, hb, h1, .inr h2⟩

theorem pow_add {n : Nat} (hn : n ≤ 32) {X : Bin2} (h : Mono n X) (j : Nat) : ∀ k, powB X n (k + j) = comp (powB X n k) (powB X n j)
  | 0 => by rw [Nat.zero_add]; exact (id_comp hn (Mono.pow h j)).symm
  | k + 1 => by
    rw [show k + 1 + j = (k + j) + 1 by omega]
    show comp X _ = comp (comp X _) _
    rw [pow_add hn h j k, comp_assoc]
theorem pow_one {n : Nat} (hn : n ≤ 32) {X : Bin2} (h : Mono n X) : powB X n 1 = X := comp_id hn h
theorem pow_snoc {n : Nat} (hn : n ≤ 32) {X : Bin2} (h : Mono n X) (k : Nat) : powB X n (k + 1) = comp (powB X n k) X := by
  rw [pow_add hn h 1 k, pow_one hn h]

/-- The program's way: by squares. -/
def pwGo (n : Nat) : Nat → Nat → Bin2 → Bin2 → Bin2
  | 0, _, _, out => out
  | f + 1, k, x, out => if k = 0 then out else pwGo n f (k / 2) (comp x x) (if k % 2 = 1 then comp out x else out)
theorem pow_two {n : Nat} (hn : n ≤ 32) {X : Bin2} (h : Mono n X) : ∀ k, powB (comp X X) n k = powB X n (2 * k)
  | 0 => rfl
  | k + 1 => by
    show comp (comp X X) _ = _
    rw [pow_two hn h k, show 2 * (k + 1) = 2 * k + 1 + 1 by omega, comp_assoc]; rfl
theorem pwGo_eq {n : Nat} (hn : n ≤ 32) : ∀ (f k : Nat) (X out : Bin2), Mono n X → Mono n out → k ≤ f → pwGo n f k X out = comp out (powB X n k)
  | 0, k, X, out, _, ho, hk => by
    obtain rfl : k = 0 := by omega
    exact (comp_id hn ho).symm
  | f + 1, k, X, out, hX, ho, hk => by
    unfold pwGo
    by_cases h0 : k = 0
    · rw [if_pos h0, h0]; exact (comp_id hn ho).symm
    · rw [if_neg h0]
      by_cases h1 : k % 2 = 1
      · rw [if_pos h1, pwGo_eq hn f (k / 2) _ _ (hX.comp hX) (ho.comp hX) (by omega), pow_two hn hX, comp_assoc]
        congr 1
        have : k = 2 * (k / 2) + 1 := by omega
        rw [show powB X n k = powB X n (2 * (k / 2) + 1) from congrArg _ this]; rfl
      · rw [if_neg h1, pwGo_eq hn f (k / 2) _ _ (hX.comp hX) ho (by omega), pow_two hn hX]
        congr 2
        omega

/-! ### More times -/

/-- From lo to hi times. -/
def sumB (X : Bin2) (n lo : Nat) : Nat → Bin2
  | 0 => powB X n lo
  | e + 1 => orB (sumB X n lo e) (powB X n (lo + (e + 1)))
theorem sumB_iff {X : Bin2} {n lo : Nat} : ∀ {e a b : Nat}, sumB X n lo e a b = true ↔ ∃ j, j ≤ e ∧ powB X n (lo + j) a b = true
  | 0, a, b => ⟨fun h => ⟨0, Nat.le_refl _, h⟩, fun ⟨j, h1, h2⟩ => by obtain rfl : j = 0 := by omega
                                                                      exact h2⟩
  | e + 1, a, b => by
    show orB _ _ a b = true ↔ _
    rw [orB_iff, sumB_iff]
    constructor
    · rintro (⟨j, h1, h2⟩ | h)
      · exact ⟨j, by omega, h2⟩
      · exact ⟨e + 1, Nat.le_refl _, h⟩
    · rintro ⟨j, h1, h2⟩
      by_cases hj : j ≤ e
      · exact .inl ⟨j, hj, h2⟩
      · obtain rfl : j = e + 1 := by omega
        exact .inr h2
theorem Mono.sum {n : Nat} {X : Bin2} (h : Mono n X) (lo e : Nat) : Mono n (sumB X n lo e) := fun a b hh => by
  obtain ⟨j, _, h2⟩ := sumB_iff.1 hh
  exact Mono.pow h _ _ _ h2

/-- (X or nothing), e times, is X, up to e times. -/
theorem pow_orId {n : Nat} (hn : n ≤ 32) {X : Bin2} (h : Mono n X) : ∀ e, powB (orB X (idB n)) n e = sumB X n 0 e
  | 0 => rfl
  | e + 1 => by
    apply bin_ext; intro a c
    show comp _ _ a c = true ↔ _
    rw [comp_iff, sumB_iff]
    constructor
    · rintro ⟨b, hb, h1, h2⟩
      rw [pow_orId hn h e, sumB_iff] at h2
      obtain ⟨j, hj, h2⟩ := h2
      rcases orB_iff.1 h1 with h1 | h1
      · refine ⟨j + 1, by omega, ?_⟩
        rw [show 0 + (j + 1) = (0 + j) + 1 by omega]
        exact comp_iff.2 ⟨b, hb, h1, h2⟩
      · obtain ⟨rfl, _⟩ := idB_iff.1 h1
        exact ⟨j, by omega, h2⟩
    · rintro ⟨j, hj, h2⟩
      rw [Nat.zero_add] at h2
      cases j with
      | zero =>
        obtain ⟨rfl, ha⟩ := idB_iff.1 h2
        refine ⟨a, by omega, orB_iff.2 (.inr (idB_iff.2 ⟨rfl, ha⟩)), ?_⟩
        rw [pow_orId hn h e, sumB_iff]
        exact ⟨0, by omega, idB_iff.2 ⟨rfl, ha⟩⟩
      | succ j =>
        obtain ⟨b, hb, h3, h4⟩ := comp_iff.1 h2
        refine ⟨b, hb, orB_iff.2 (.inl h3), ?_⟩
        rw [pow_orId hn h e, sumB_iff]
        exact ⟨j, by omega, by rw [Nat.zero_add]; exact h4⟩

/-- A repeated pattern, as the program has it. -/
def repB (X : Bin2) (n lo e : Nat) : Bin2 := comp (powB X n lo) (powB (orB X (idB n)) n e)
theorem repB_sum {n : Nat} (hn : n ≤ 32) {X : Bin2} (h : Mono n X) (lo e : Nat) : repB X n lo e = sumB X n lo e := by
  apply bin_ext; intro a c
  unfold repB
  rw [pow_orId hn h, comp_iff, sumB_iff]
  constructor
  · rintro ⟨b, hb, h1, h2⟩
    obtain ⟨j, hj, h2⟩ := sumB_iff.1 h2
    rw [Nat.zero_add] at h2
    exact ⟨j, hj, by rw [pow_add hn h]; exact comp_iff.2 ⟨b, hb, h1, h2⟩⟩
  · rintro ⟨j, hj, h1⟩
    rw [pow_add hn h] at h1
    obtain ⟨b, hb, h2, h3⟩ := comp_iff.1 h1
    exact ⟨b, hb, h2, sumB_iff.2 ⟨j, hj, by rw [Nat.zero_add]; exact h3⟩⟩

/-- A way of k + 1 steps has one that goes nowhere, or comes far. -/
theorem pow_less {n : Nat} (hn : n ≤ 32) {X : Bin2} (h : Mono n X) : ∀ (k a b : Nat), powB X n (k + 1) a b = true → powB X n k a b = true ∨ a + (k + 1) ≤ b
  | 0, a, b, hh => by
    rw [pow_one hn h] at hh
    have := h _ _ hh
    by_cases e : a = b
    · exact .inl (idB_iff.2 ⟨e, by omega⟩)
    · exact .inr (by omega)
  | k + 1, a, c, hh => by
    obtain ⟨b, hb, h1, h2⟩ := comp_iff.1 hh
    rcases pow_less hn h k b c h2 with h3 | h3
    · exact .inl (comp_iff.2 ⟨b, hb, h1, h3⟩)
    · by_cases e : a = b
      · subst e; exact .inl h2
      · have := h _ _ h1
        exact .inr (by omega)
theorem pow_far {n : Nat} (hn : n ≤ 32) {X : Bin2} (h : Mono n X) {k a b : Nat} (hk : n ≤ k) (hh : powB X n (k + 1) a b = true) : powB X n k a b = true := by
  rcases pow_less hn h k a b hh with h1 | h1
  · exact h1
  · have := Mono.pow h _ _ _ hh; omega
/-- More than n times more add nothing. -/
theorem sum_far {n : Nat} (hn : n ≤ 32) {X : Bin2} (h : Mono n X) (lo : Nat) : ∀ e, n ≤ e → sumB X n lo e = sumB X n lo n := by
  intro e he
  obtain ⟨d, rfl⟩ : ∃ d, e = n + d := ⟨e - n, by omega⟩
  clear he
  induction d with
  | zero => rfl
  | succ d ih =>
    rw [← ih]
    apply bin_ext; intro a b
    show orB _ _ a b = true ↔ _
    rw [orB_iff]
    constructor
    · rintro (h1 | h1)
      · exact h1
      · exact sumB_iff.2 ⟨n + d, Nat.le_refl _, pow_far hn h (by omega) h1⟩
    · exact .inl
/-- If one time more adds nothing, then more times do not. -/
theorem sum_stable {n : Nat} (hn : n ≤ 32) {X : Bin2} (h : Mono n X) {lo e : Nat} (hs : sumB X n lo (e + 1) = sumB X n lo e) : ∀ m, e ≤ m → sumB X n lo m = sumB X n lo e := by
  intro m hm
  obtain ⟨d, rfl⟩ : ∃ d, m = e + d := ⟨m - e, by omega⟩
  clear hm
  have step : ∀ (j a c : Nat), j ≤ e → powB X n (lo + (j + 1)) a c = true → sumB X n lo e a c = true := fun j a c hj hh => by
    rw [← hs]; exact sumB_iff.2 ⟨j + 1, by omega, hh⟩
  have all : ∀ (d j a c : Nat), j ≤ e → powB X n (lo + (j + d)) a c = true → sumB X n lo e a c = true := by
    intro d
    induction d with
    | zero => exact fun j a c hj hh => sumB_iff.2 ⟨j, hj, hh⟩
    | succ d ih =>
      intro j a c hj hh
      rw [show lo + (j + (d + 1)) = (lo + (j + 1)) + d by omega, pow_add hn h] at hh
      obtain ⟨b, hb, h1, h2⟩ := comp_iff.1 hh
      obtain ⟨i, hi, h3⟩ := sumB_iff.1 (step j a b hj h1)
      refine ih i a c hi ?_
      rw [show lo + (i + d) = (lo + i) + d by omega, pow_add hn h]
      exact comp_iff.2 ⟨b, hb, h3, h2⟩
  apply bin_ext; intro a c
  rw [sumB_iff]
  constructor
  · rintro ⟨j, hj, hh⟩
    exact all j 0 a c (by omega) (by rw [Nat.zero_add]; exact hh)
  · intro hh
    obtain ⟨j, hj, h1⟩ := sumB_iff.1 hh
    exact ⟨j, by omega, h1⟩

/-! ### Patterns -/

def sat (s c : Nat × Nat) : Bool := (c.1 &&& s.1 == c.1) && (c.2 &&& s.2 == c.2)
def soundB (w : Wd) (c : Nat × Nat) (nt : Bool) : Bin2 := fun a b => b == a + 1 && decide (a < w.length) && (sat (w.getD a (0, 0)) c != nt)
def edgeB (a : Nat) : Bin2 := fun x y => x == a && y == a
/-- How many more times there may be. -/
def extra (n : Nat) (mn mx : Int) : Nat := if mx < 0 then n else (mx - mn).toNat
mutual
/-- What a pattern matches in a word. -/
def relP (w : Wd) : Pat → Bin2
  | .node k pl mi nt mn mx l =>
    if k = 1 then soundB w (pl, mi) nt
    else if k = 2 then edgeB 0
    else if k = 6 then edgeB w.length
    else if k = 4 then altB w l
    else if k = 5 then oneB w l mn mx
    else seqB w l (idB w.length)
def seqB (w : Wd) : List Pat → Bin2 → Bin2
  | [], X => X
  | p :: l, X => seqB w l (comp X (relP w p))
def altB (w : Wd) : List Pat → Bin2
  | [] => noB
  | p :: l => orB (relP w p) (altB w l)
def oneB (w : Wd) : List Pat → Int → Int → Bin2
  | [], _, _ => noB
  | p :: _, mn, mx => repB (relP w p) w.length mn.toNat (extra w.length mn mx)
end
theorem Mono.sound (w : Wd) (c : Nat × Nat) (nt : Bool) : Mono w.length (soundB w c nt) := fun a b h => by
  simp only [soundB, Bool.and_eq_true, beq_iff_eq, decide_eq_true_eq] at h
  omega
theorem Mono.edge {n a : Nat} (h : a ≤ n) : Mono n (edgeB a) := fun x y hh => by
  simp only [edgeB, Bool.and_eq_true, beq_iff_eq] at hh
  omega
mutual
theorem relP_mono (w : Wd) : ∀ p, Mono w.length (relP w p)
  | .node k pl mi nt mn mx l => by
    unfold relP
    split
    · exact Mono.sound _ _ _
    · split
      · exact Mono.edge (Nat.zero_le _)
      · split
        · exact Mono.edge (Nat.le_refl _)
        · split
          · exact altB_mono w l
          · split
            · exact oneB_mono w l mn mx
            · exact seqB_mono w l _ (Mono.id _)
theorem seqB_mono (w : Wd) : ∀ (l : List Pat) (X : Bin2), Mono w.length X → Mono w.length (seqB w l X)
  | [], _, h => by unfold seqB; exact h
  | p :: l, X, h => by unfold seqB; exact seqB_mono w l _ (h.comp (relP_mono w p))
theorem altB_mono (w : Wd) : ∀ (l : List Pat), Mono w.length (altB w l)
  | [] => by unfold altB; exact Mono.no _
  | p :: l => by unfold altB; exact (relP_mono w p).or (altB_mono w l)
theorem oneB_mono (w : Wd) : ∀ (l : List Pat) (mn mx : Int), Mono w.length (oneB w l mn mx)
  | [], _, _ => by unfold oneB; exact Mono.no _
  | p :: _, mn, mx => by unfold oneB repB; exact (Mono.pow (relP_mono w p) _).comp (Mono.pow ((relP_mono w p).or (Mono.id _)) _)
end
theorem seqB_snoc (w : Wd) (p : Pat) : ∀ (l : List Pat) (X : Bin2), seqB w (l ++ [p]) X = comp (seqB w l X) (relP w p)
  | [], X => by simp [seqB]
  | q :: l, X => by rw [List.cons_append]; unfold seqB; exact seqB_snoc w p l _
theorem orB_assoc (X Y Z : Bin2) : orB (orB X Y) Z = orB X (orB Y Z) := by funext a b; simp [orB, Bool.or_assoc]
theorem orB_no (X : Bin2) : orB X noB = X := by funext a b; simp [orB, noB]
theorem no_orB (X : Bin2) : orB noB X = X := by funext a b; simp [orB, noB]
theorem altB_snoc (w : Wd) (p : Pat) : ∀ (l : List Pat), altB w (l ++ [p]) = orB (altB w l) (relP w p)
  | [] => by simp [altB, orB_no, no_orB]
  | q :: l => by rw [List.cons_append]; unfold altB; rw [altB_snoc w p l, orB_assoc]
end Go.Ab

namespace Go.Ab
open Go.RowKit

/-- The seven cells of a node. -/
def patCells (k : Int) (pl mi : Nat) (nt : Bool) (mn mx : Int) (ao : Option Addr) (n cap : Nat) : List Value :=
  [.int .i64 k, .int .u32 pl, .int .u32 mi, .bool nt, .int .i64 mn, .int .i64 mx, .slice ao n cap]

mutual
/-- These cells are this pattern; all that it reaches lies in blocks of K. -/
def PatAt (K : Nat → Prop) (w : World) : Pat → List Value → Prop
  | .node k pl mi nt mn mx l, cs => ∃ ao cap, cs = patCells k pl mi nt mn mx ao l.length cap ∧ pl < 4294967296 ∧ mi < 4294967296 ∧ l.length ≤ cap ∧ cap ≤ maxLen ∧ PatsAt K w l ao 0
/-- These patterns lie one behind the other, from place i on. -/
def PatsAt (K : Nat → Prop) (w : World) : List Pat → Option Addr → Nat → Prop
  | [], _, _ => True
  | p :: l, ao, i => (∃ g off cs, ao = some ⟨g, off, none⟩ ∧ K g ∧ g < w.heap.size ∧ w.rangeAt g (off + i * 7) cs ∧ PatAt K w p cs) ∧ PatsAt K w l ao (i + 1)
end

theorem PatsAt.get {K : Nat → Prop} {w : World} : ∀ {l : List Pat} {ao : Option Addr} {i : Nat}, PatsAt K w l ao i → ∀ j (h : j < l.length), ∃ g off cs, ao = some ⟨g, off, none⟩ ∧ K g ∧ g < w.heap.size ∧ w.rangeAt g (off + (i + j) * 7) cs ∧ PatAt K w l[j] cs
  | [], _, _, _, j, h => by simp at h
  | p :: l, ao, i, h, 0, _ => by unfold PatsAt at h; exact h.1
  | p :: l, ao, i, h, j + 1, hj => by
    unfold PatsAt at h
    have := PatsAt.get h.2 j (by simpa using hj)
    rw [show i + (j + 1) = i + 1 + j by omega]
    exact this
theorem PatsAt.mk {K : Nat → Prop} {w : World} : ∀ {l : List Pat} {ao : Option Addr} {i : Nat}, (∀ j (h : j < l.length), ∃ g off cs, ao = some ⟨g, off, none⟩ ∧ K g ∧ g < w.heap.size ∧ w.rangeAt g (off + (i + j) * 7) cs ∧ PatAt K w l[j] cs) → PatsAt K w l ao i
  | [], _, _, _ => by unfold PatsAt; trivial
  | p :: l, ao, i, h => by
    unfold PatsAt
    refine ⟨h 0 (by simp), PatsAt.mk fun j hj => ?_⟩
    have := h (j + 1) (by simpa using hj)
    rw [show i + (j + 1) = i + 1 + j by omega] at this
    exact this

theorem rangeAt_turn {S : Nat → Prop} {A B : World} (ht : Turn S A B) {g o : Nat} {cs : List Value} (h : A.rangeAt g o cs) (hS : ¬ S g) : B.rangeAt g o cs := fun j v hv => ht.cell_some (h j v hv) hS

mutual
theorem PatAt.keep {K S : Nat → Prop} {A B : World} (ht : Turn S A B) (hS : ∀ g, K g → ¬ S g) : ∀ {p : Pat} {cs : List Value}, PatAt K A p cs → PatAt K B p cs
  | .node k pl mi nt mn mx l, cs, h => by
    unfold PatAt at h ⊢
    obtain ⟨ao, cap, h1, h2, h3, h4, h5, h6⟩ := h
    exact ⟨ao, cap, h1, h2, h3, h4, h5, PatsAt.keep ht hS h6⟩
theorem PatsAt.keep {K S : Nat → Prop} {A B : World} (ht : Turn S A B) (hS : ∀ g, K g → ¬ S g) : ∀ {l : List Pat} {ao : Option Addr} {i : Nat}, PatsAt K A l ao i → PatsAt K B l ao i
  | [], _, _, _ => by unfold PatsAt; trivial
  | p :: l, ao, i, h => by
    unfold PatsAt at h ⊢
    obtain ⟨⟨g, off, cs, h1, h2, h3, h4, h5⟩, h6⟩ := h
    exact ⟨⟨g, off, cs, h1, h2, Nat.lt_of_lt_of_le h3 ht.size, rangeAt_turn ht h4 (hS g h2), PatAt.keep ht hS h5⟩, PatsAt.keep ht hS h6⟩
end
theorem PatAt.ext {K : Nat → Prop} {A B : World} {p : Pat} {cs : List Value} (h : PatAt K A p cs) (ht : Ext A B) : PatAt K B p cs := h.keep ht fun _ _ h => h
theorem PatsAt.ext {K : Nat → Prop} {A B : World} {l : List Pat} {ao : Option Addr} {i : Nat} (h : PatsAt K A l ao i) (ht : Ext A B) : PatsAt K B l ao i := h.keep ht fun _ _ h => h
mutual
theorem PatAt.mono {K L : Nat → Prop} {A : World} (hK : ∀ g, K g → L g) : ∀ {p : Pat} {cs : List Value}, PatAt K A p cs → PatAt L A p cs
  | .node k pl mi nt mn mx l, cs, h => by
    unfold PatAt at h ⊢
    obtain ⟨ao, cap, h1, h2, h3, h4, h5, h6⟩ := h
    exact ⟨ao, cap, h1, h2, h3, h4, h5, PatsAt.mono hK h6⟩
theorem PatsAt.mono {K L : Nat → Prop} {A : World} (hK : ∀ g, K g → L g) : ∀ {l : List Pat} {ao : Option Addr} {i : Nat}, PatsAt K A l ao i → PatsAt L A l ao i
  | [], _, _, _ => by unfold PatsAt; trivial
  | p :: l, ao, i, h => by
    unfold PatsAt at h ⊢
    obtain ⟨⟨g, off, cs, h1, h2, h3, h4, h5⟩, h6⟩ := h
    exact ⟨⟨g, off, cs, h1, hK g h2, h3, h4, PatAt.mono hK h5⟩, PatsAt.mono hK h6⟩
end
end Go.Ab

namespace Go.Proofs.YtapfoaiibjdfnaaDoor
open Go.RowKit Go.Ab

/-- The table of math/bits, as its initialiser lays it. -/
def Tab (w : World) : Prop := ∀ j, j < 64 → w.cell? ⟨0, j, none⟩ = some (.int .u8 (Lib.deBruijn64tab.getD j 0))

theorem Tab.keep {S : Nat → Prop} {A B : World} (h : Tab A) (ht : Turn S A B) (hS : ¬ S 0) : Tab B :=
  fun j hj => ht.cell_some (h j hj) hS

theorem tz_core (x k idx : Nat) (w : World) (hx0 : ((x : Int) == 0) = false)
    (key : IntKind.u64.wrap (bits BinOp.and IntKind.u64 (x : Int) (IntKind.u64.wrap (-(x : Int))) * 285870213051353865) / 288230376151711744 = (idx : Int))
    (hi : idx < 64) (hk : k < 64) (hcell : w.cell? ⟨0, idx, none⟩ = some (.int .u8 k)) :
    Calls Tryd.prog 72 #[.int .u64 x] w fun e w' => e = .returned (.int .i64 k) ∧ w = w' := by
  go_enter Tryd.func72, Tryd.ntmps72
  go_wp2_with (simp only [key])
  go_ret
  exact ⟨rfl, rfl⟩

theorem tz_any (x : Nat) (hx : x < 18446744073709551616) (hx0 : x ≠ 0) (w : World) (hT : Tab w) :
    Calls Tryd.prog 72 #[.int .u64 x] w fun e w' => e = .returned (.int .i64 (Lib.ctz 64 x)) ∧ w = w' := by
  obtain ⟨hlow, hk⟩ := Lib.lowest_bit 64 x hx0 hx
  obtain ⟨hi, htab⟩ := Lib.deBruijn64_at _ hk
  have hcell := hT _ hi
  rw [htab] at hcell
  exact tz_core x _ _ w (by simp; omega) (tz64_key x _ hx hx0 hlow) hi hk hcell

end Go.Proofs.YtapfoaiibjdfnaaDoor

namespace Go.Ab

/-- What the loop has, ahead of the round k. -/
def outK (X : Bin2) (n lo k : Nat) : Bin2 := if k ≤ lo then noB else sumB X n lo (k - lo - 1)
theorem outK_zero (X : Bin2) (n lo : Nat) : outK X n lo 0 = noB := by unfold outK; rw [if_pos (Nat.zero_le _)]
theorem outK_skip (X : Bin2) (n : Nat) {lo k : Nat} (h : k < lo) : outK X n lo (k + 1) = outK X n lo k := by
  unfold outK; rw [if_pos (by omega), if_pos (by omega)]
theorem outK_step (X : Bin2) (n : Nat) {lo k : Nat} (h : lo ≤ k) : orB (outK X n lo k) (powB X n k) = outK X n lo (k + 1) := by
  unfold outK
  rw [if_neg (by omega : ¬ k + 1 ≤ lo)]
  by_cases e : k ≤ lo
  · obtain rfl : k = lo := by omega
    rw [if_pos (Nat.le_refl _), no_orB, show k + 1 - k - 1 = 0 by omega]; rfl
  · rw [if_neg e, show k + 1 - lo - 1 = (k - lo - 1) + 1 by omega]
    show _ = orB _ (powB X n (lo + (k - lo - 1 + 1)))
    rw [show lo + (k - lo - 1 + 1) = k by omega]
theorem outK_mono {n : Nat} {X : Bin2} (h : Mono n X) (lo k : Nat) : Mono n (outK X n lo k) := by
  unfold outK; split
  · exact Mono.no n
  · exact Mono.sum h _ _
theorem outK_max (X : Bin2) (n : Nat) {mn mx : Int} {k : Nat} (h0 : 0 ≤ mn) (h1 : mn ≤ mx) (hk : (k : Int) = mx) : outK X n mn.toNat (k + 1) = sumB X n mn.toNat (extra n mn mx) := by
  unfold outK extra
  rw [if_neg (by omega), if_neg (by omega)]
  congr 1; omega
theorem outK_stable {n : Nat} (hn : n ≤ 32) {X : Bin2} (h : Mono n X) {mn mx : Int} {k : Nat} (h0 : 0 ≤ mn) (_h1 : mx = -1 ∨ mn ≤ mx) (hk : mn < k) (hx : mx = -1 ∨ (k : Int) ≤ mx) (he : outK X n mn.toNat k = outK X n mn.toNat (k + 1)) :
    outK X n mn.toNat (k + 1) = sumB X n mn.toNat (extra n mn mx) := by
  rw [← he]
  have e1 : outK X n mn.toNat k = sumB X n mn.toNat (k - mn.toNat - 1) := by unfold outK; rw [if_neg (by omega)]
  have e2 : outK X n mn.toNat (k + 1) = sumB X n mn.toNat (k - mn.toNat - 1 + 1) := by
    unfold outK; rw [if_neg (by omega)]; congr 1; omega
  rw [e1]
  have hs : sumB X n mn.toNat (k - mn.toNat - 1 + 1) = sumB X n mn.toNat (k - mn.toNat - 1) := by rw [← e2, ← he, e1]
  unfold extra
  by_cases hx0 : mx < 0
  · rw [if_pos hx0]
    by_cases hfar : n ≤ k - mn.toNat - 1
    · exact sum_far hn h _ _ hfar
    · exact (sum_stable hn h hs n (by omega)).symm
  · rw [if_neg hx0]
    exact (sum_stable hn h hs _ (by omega)).symm
theorem outK_far {n : Nat} (hn : n ≤ 32) {X : Bin2} (h : Mono n X) {lo k : Nat} (hk : lo + n + 1 ≤ k) : outK X n lo k = outK X n lo (k + 1) := by
  unfold outK
  rw [if_neg (by omega), if_neg (by omega), sum_far hn h lo (k - lo - 1) (by omega), sum_far hn h lo (k + 1 - lo - 1) (by omega)]

/-! ### Rows of bits -/

def rowM (X : Bin2) (a : Nat) : Nat := mask 33 (X a)
theorem rowM_inj {n : Nat} (hn : n ≤ 32) {X Y : Bin2} (hX : Mono n X) (hY : Mono n Y) (h : ∀ a, a ≤ n → rowM X a = rowM Y a) : X = Y := by
  apply bin_ext; intro a b
  constructor
  · intro hh
    have h1 := hX _ _ hh
    have := congrArg (fun v => Nat.testBit v b) (h a (by omega))
    simp only [rowM, testBit_mask] at this
    rw [hh] at this
    simp only [show b < 33 by omega, decide_true, Bool.true_and] at this
    exact this.symm
  · intro hh
    have h1 := hY _ _ hh
    have := congrArg (fun v => Nat.testBit v b) (h a (by omega))
    simp only [rowM, testBit_mask] at this
    rw [hh] at this
    simp only [show b < 33 by omega, decide_true, Bool.true_and] at this
    exact this
theorem rowM_out {n : Nat} {X : Bin2} (hX : Mono n X) {a : Nat} (h : n < a) : rowM X a = 0 := by
  have : X a = fun _ => false := by
    funext b
    cases hh : X a b with
    | false => rfl
    | true => have := hX _ _ hh; omega
  rw [rowM, this, mask_zero]
theorem rowM_or (X Y : Bin2) (a : Nat) : rowM X a ||| rowM Y a = rowM (orB X Y) a := by
  unfold rowM; rw [mask_or]; rfl
theorem rowM_no (a : Nat) : rowM noB a = 0 := mask_zero 33
theorem rowM_id {n a : Nat} (hn : n ≤ 32) (h : a ≤ n) : rowM (idB n) a = 2 ^ a := by
  rw [two_pow_mask (n := 33) (by omega)]
  exact mask_congr fun i _ => by
    apply Bool.eq_iff_iff.2
    rw [idB_iff, beq_iff_eq]
    omega
theorem rowM_bit (X : Bin2) {a b : Nat} (hb : b < 33) : (rowM X a).testBit b = X a b := by
  rw [rowM, testBit_mask]; simp [hb]

/-- The part of a row that has been collected over these places. -/
def partB (Y : Bin2) (pre : List Nat) : Nat := mask 33 fun c => pre.any fun b => Y b c
theorem partB_nil (Y : Bin2) : partB Y [] = 0 := mask_zero 33
theorem partB_snoc (Y : Bin2) (pre : List Nat) (b : Nat) : partB Y (pre ++ [b]) = partB Y pre ||| rowM Y b := by
  unfold partB rowM
  rw [mask_or]
  exact mask_congr fun i _ => by simp
theorem partB_all (X Y : Bin2) (a : Nat) : partB Y ((List.range 33).filter (X a)) = rowM (comp X Y) a := by
  unfold partB rowM comp
  exact mask_congr fun i _ => by rw [List.any_filter]
theorem evs_rowM (X : Bin2) (a : Nat) : evs (rowM X a) = (List.range 33).filter (X a) := evs_mask 33 (by decide) _
theorem partB_upto {n : Nat} (hn : n ≤ 32) {X : Bin2} (hX : Mono n X) (Y : Bin2) (a : Nat) : partB Y ((List.range (n + 1)).filter (X a)) = rowM (comp X Y) a := by
  rw [← partB_all]
  congr 1
  have h33 : 33 = (n + 1) + (32 - n) := by omega
  have e : ((List.range (32 - n)).map (fun x => n + 1 + x)).filter (X a) = [] := by
    rw [List.filter_eq_nil_iff]
    intro b hb hh
    obtain ⟨j, _, rfl⟩ := List.mem_map.1 hb
    have := hX _ _ hh; omega
  have e2 : List.range 33 = List.range (n + 1) ++ (List.range (32 - n)).map (fun x => n + 1 + x) := by
    rw [← List.range_add]; exact congrArg _ h33
  rw [e2, List.filter_append, e, List.append_nil]
theorem filter_snoc (p : Nat → Bool) (b : Nat) : (List.range (b + 1)).filter p = (List.range b).filter p ++ (if p b = true then [b] else []) := by
  rw [List.range_succ, List.filter_append]
  congr 1
  by_cases h : p b = true <;> simp [h]
end Go.Ab

namespace Go.Proofs.YtapfoaiibjdfnaaDoor
open Go.RowKit Go.Ab
attribute [local go_sem] Oper.semAt_some wide_fn wide_depth

/-- Without its lowest bit. -/
theorem andNot_low (v : Nat) (hv : v < 18446744073709551616) (h0 : v ≠ 0) :
    bits BinOp.andNot IntKind.u64 (v : Int) (IntKind.u64.wrap (2 ^ Lib.ctz 64 v)) = ((v &&& (v - 1) : Nat) : Int) := by
  obtain ⟨m, hm, hk⟩ := ctz_form v h0 (by simpa using hv)
  generalize Lib.ctz 64 v = k at hm hk
  have hp : 2 ^ k < 18446744073709551616 := by
    have := Nat.pow_lt_pow_right (a := 2) (by decide) hk
    simpa using this
  have e : IntKind.u64.wrap (2 ^ k) = ((2 ^ k : Nat) : Int) := by
    rw [IntKind.wrap_u64]
    have e : ((2 : Int) ^ k) = ((2 ^ k : Nat) : Int) := by simp
    rw [e]
    generalize 2 ^ k = P at hp
    omega
  rw [e, u64_andNot_nat _ _ hv hp]
  congr 1
  apply Nat.eq_of_testBit_eq
  intro i
  have h1 : (18446744073709551615 - 2 ^ k).testBit i = (decide (i < 64) && !(2 ^ k).testBit i) := by
    have := Nat.testBit_two_pow_sub_succ (n := 64) (x := 2 ^ k) (by simpa using hp) i
    simpa using this
  have h2 : v.testBit i = (decide (i = k) || (decide (k < i) && m.testBit (i - (k + 1)))) := by rw [hm]; exact testBit_form k m i
  have h3 : (v &&& (v - 1)).testBit i = (decide (k < i) && m.testBit (i - (k + 1))) := by
    rw [hm, and_pred, Nat.testBit_two_pow_mul]
    simp only [ge_iff_le, Nat.succ_le_iff]
  rw [h3, Nat.testBit_and, h1, h2, Nat.testBit_two_pow]
  by_cases hik : i = k
  · subst hik; simp
  · have hki : ¬ k = i := fun e => hik e.symm
    simp only [hik, hki, decide_false, Bool.false_or, Bool.not_false, Bool.and_true]
    by_cases h64 : i < 64
    · simp [h64]
    · have hv2 : v.testBit i = false := Nat.testBit_lt_two_pow (Nat.lt_of_lt_of_le hv (Nat.pow_le_pow_right (n := 2) (by decide) (show 64 ≤ i by omega)))
      rw [h2] at hv2
      simp only [hik, decide_false, Bool.false_or] at hv2
      simp [hv2]

def SBox (w : World) (bx : Nat) (v : Nat) : Prop := w.heap[bx]? = some (.cells #[.int .u64 v] 66 (0, 0))
theorem SBox.cell {w : World} {bx v : Nat} (h : SBox w bx v) : w.cell? ⟨bx, 0, none⟩ = some (.int .u64 v) := cell_of_one h
theorem SBox.free {w : World} {bx v : Nat} (h : SBox w bx v) : w.frozen? ⟨bx, 0, none⟩ = false := free_of_one h
theorem SBox.store {w : World} {bx v : Nat} (u : Nat) (h : SBox w bx v) : SBox (w.setCell ⟨bx, 0, none⟩ (.int .u64 u)) bx u := one_setCell h
def sLeft (w : World) (bx : Nat) : Nat := match w.cell? ⟨bx, 0, none⟩ with | some (.int _ n) => n.toNat | _ => 0
theorem sLeft_eq {w : World} {bx v : Nat} (h : SBox w bx v) : sLeft w bx = v := by unfold sLeft; rw [h.cell]; simp
theorem low_lt (v : Nat) (hv : v < 18446744073709551616) : v &&& (v - 1) < 18446744073709551616 := by
  have := Nat.and_le_left (n := v) (m := v - 1)
  omega
theorem low_lt' (v : Nat) (h0 : v ≠ 0) : (v &&& (v - 1)) < v := by
  have := Nat.and_le_right (n := v) (m := v - 1)
  omega

set_option maxRecDepth 100000 in
theorem all_iter (v : Nat) (hv : v < 18446744073709551616) (bx : Nat) (hbx : bx ≠ 0) (w : World) (hb : SBox w bx v) (hT : Tab w) :
    Iter Tryd.prog 71 #[.pointer (some ⟨bx, 0, none⟩)] (fun x : Nat => #[.int .i64 x]) (evs v) (· = bx) (fun b => b = bx ∨ b = 0) w := by
  intro l J Jx W ht hJ hJx hY h0
  have hbW : SBox W bx v := ht.heap hb (by simp)
  have hTW : Tab W := hT.keep ht (by simp)
  refine callsIn_wide.1 (callsIn_of_wp (n := 0) Tryd.func71 rfl trivial ?_ rfl)
  simp only [Tryd.ntmps71, List.size_toArray, List.length_cons, List.length_nil, Nat.reduceAdd, Nat.reduceSub, Array.replicate_succ, Array.replicate_zero, List.push_toArray, List.append_toArray, List.nil_append, List.cons_append]
  gi_wp2
  gi_loopw [3] (fun _ wr => ∃ (pre : List Nat) (u : Nat), SBox wr bx u ∧ u < 18446744073709551616 ∧ evs v = pre ++ evs u ∧ J pre wr ∧ Tab wr)
    (fun _ wr => sLeft wr bx)
  case atStart => exact ⟨[], v, hbW, hv, rfl, h0, hTW⟩
  case round =>
    obtain ⟨pre, u, hbox, hu, hev, hJs, hTs⟩ := hrel
    have hc := hbox.cell
    have hm0 : sLeft wr bx = u := sLeft_eq hbox
    by_cases hu0 : u = 0
    · subst hu0
      rw [evs_zero, List.append_nil] at hev
      clear hm0
      gi_wp2
      go_end0
      exact ⟨⟨_, rfl⟩, .inl (by rw [hev]; exact hJs)⟩
    · have hne : ((u : Int) != 0) = true := by simp; omega
      have hcons := evs_cons u hu0 (by simpa using hu)
      rw [hcons] at hev
      have hz64 : Lib.ctz 64 u < 64 := (mem_evs.1 (by rw [hcons]; simp : Lib.ctz 64 u ∈ evs u)).1
      have HC := Lib.hid hcons; clear hcons
      have HM := Lib.hid hm0; clear hm0
      have hp := andNot_low u hu hu0
      obtain ⟨z, hz⟩ : ∃ z, Lib.ctz 64 u = z := ⟨_, rfl⟩
      rw [hz] at hp hz64 hev
      have HE := Lib.hid hev; clear hev
      have htz := tz_any u hu hu0 wr hTs
      rw [hz] at htz
      have HTZ := Lib.hid htz
      clear htz hz
      have hfr := hbox.free
      have hz3 : (z : Int) < 64 := by omega
      have hTs2 : Turn (· = bx) wr (wr.setCell ⟨bx, 0, none⟩ (.int .u64 ((u &&& (u - 1) : Nat) : Int))).drew := (Turn.set1 wr bx 0 _).drew
      have hJ2 := hJ _ _ _ hJs hTs2
      have hb2 : SBox (wr.setCell ⟨bx, 0, none⟩ (.int .u64 ((u &&& (u - 1) : Nat) : Int))).drew bx (u &&& (u - 1)) := drew_keep (SBox.store (w := wr) _ hbox)
      have hT2 : Tab (wr.setCell ⟨bx, 0, none⟩ (.int .u64 ((u &&& (u - 1) : Nat) : Int))).drew := hTs.keep hTs2 (Ne.symm hbx)
      have HT2 := Lib.hid hT2
      have hlow := low_lt u hu
      obtain ⟨fn, tmps, assign, body, hy, hR⟩ := hY pre _ _ _ HE.out hJ2
      gi_wp2_with (gi_at_call 72; refine (callsIn_wide.2 HTZ.out).mono ?_; rintro e w' ⟨rfl, rfl⟩)
      have HY := Lib.hid hy; have HR := Lib.hid hR; have HB2 := Lib.hid hb2
      clear hy hR hTs2 hJ2 hT2 hb2
      refine (wpIn_wide (n := _)).2 ?_
      refine region_still 4 (by kernel_rfl) (by kernel_rfl) ?_
      simp only [List.take_succ_cons, List.take_zero, List.drop_succ_cons, List.drop_zero]
      repeat still_step
      refine wpStill_nil ?_
      go_wp2
      have hy := HY.out
      gi_wp2
      refine HR.out.mono ?_
      rintro e W3 (⟨rfl, hJ3, hk3⟩ | ⟨rfl, hJx3⟩)
      · have hb3 : SBox W3 bx (u &&& (u - 1)) := hk3.heap HB2.out (by simp)
        have hT3 : Tab W3 := HT2.out.keep hk3 (by simp)
        clear hy hbox hc hTs hJs hp
        gi_wp2
        go_roundw
        case rel => exact ⟨pre ++ [z], u &&& (u - 1), hb3, hlow, by rw [HE.out]; simp, hJ3, hT3⟩
        case measure => rw [HM.out, sLeft_eq hb3]; exact low_lt' u hu0
      · clear hy
        gi_wp2
        refine bodyPost_ret (results_none rfl _ _ _) rfl ?_
        exact ⟨⟨_, rfl⟩, .inr ⟨pre, _, _, HE.out, hJx3⟩⟩

theorem all_any (v : Int) (w : World) :
    Calls Tryd.prog 50 #[.int .u64 v] w fun e w' => e = .returned (.func (.func 71) #[] #[.pointer (some ⟨w.heap.size, 0, none⟩)]) ∧ w' = w.alloc (.cells #[.int .u64 v] 66) := by
  go_enter Tryd.func50, Tryd.ntmps50
  go_wp2
  go_ret
  exact ⟨rfl, rfl⟩
end Go.Proofs.YtapfoaiibjdfnaaDoor

namespace Go.Proofs.YtapfoaiibjdfnaaDoor
open Go.RowKit Go.Ab

/-- The 33 cells of a relation; a name that the walk does not open. -/
def relArr (M : Bin2) : Array Value := ((List.range 33).map fun a => Value.int .u64 (rowM M a)).toArray
theorem relArr_size (M : Bin2) : (relArr M).size = 33 := by simp [relArr]
theorem relArr_ne (M : Bin2) : (relArr M = #[]) = False := by
  apply eq_false; intro h; have := relArr_size M; rw [h] at this; simp at this
theorem relArr_one (M : Bin2) : (relArr M).all (·.oneCell') = true := by
  rw [Array.all_eq_true']
  intro v hv
  simp only [relArr, List.mem_toArray, List.mem_map] at hv
  obtain ⟨_, _, rfl⟩ := hv; rfl
theorem relArr_get (M : Bin2) {a : Nat} (h : a < 33) : (relArr M)[a]? = some (.int .u64 (rowM M a)) := by simp [relArr, h]
theorem relArr_no : relArr noB = (Array.replicate 33 (Value.int .u64 0)) := by
  unfold relArr
  have : (fun a => Value.int .u64 ((rowM noB a : Nat) : Int)) = fun _ => Value.int .u64 0 := by funext a; rw [rowM_no]; rfl
  rw [this]; rfl
theorem zero_rel (w : World) : (zeroValue 68).run Tryd.prog w = .ok (.agg (relArr noB)) w := by
  rw [relArr_no]; kernel_rfl

/-- Rows from a function. -/
def rowArr (f : Nat → Nat) : Array Value := ((List.range 33).map fun a => Value.int .u64 (f a)).toArray
theorem rowArr_rel (M : Bin2) : relArr M = rowArr (rowM M) := rfl
theorem rowArr_set (f : Nat → Nat) (a v : Nat) : (rowArr f).setIfInBounds a (.int .u64 (v : Int)) = rowArr fun i => if i = a then v else f i := by
  unfold rowArr
  rw [List.setIfInBounds_toArray]
  congr 1
  apply List.ext_getElem?
  intro i
  simp only [List.getElem?_set, List.getElem?_map, List.length_map, List.length_range]
  by_cases hx : a = i
  · subst hx
    by_cases hm : a < 33
    · simp [hm]
    · simp [hm]
  · rw [if_neg hx]
    by_cases hm : i < 33
    · simp [hm, Ne.symm hx]
    · simp [hm]
theorem rowArr_congr {f g : Nat → Nat} (h : ∀ a, a < 33 → f a = g a) : rowArr f = rowArr g := by
  unfold rowArr
  rw [List.map_congr_left fun a ha => by rw [h a (List.mem_range.1 ha)]]
theorem rowArr_get (f : Nat → Nat) {a : Nat} (h : a < 33) : (rowArr f)[a]? = some (.int .u64 (f a)) := by simp [rowArr, h]
theorem rowArr_size (f : Nat → Nat) : (rowArr f).size = 33 := by simp [rowArr]

/-- Block b holds these rows. -/
def RowsAt (w : World) (b : Nat) (f : Nat → Nat) : Prop := w.heap[b]? = some (.cells (rowArr f) 68 (0, 0))
theorem RowsAt.cell {w : World} {b : Nat} {f : Nat → Nat} (h : RowsAt w b f) {a : Nat} (ha : a < 33) : w.cell? ⟨b, a, none⟩ = some (.int .u64 (f a)) := by
  rw [cell_of_row w b a _ _ _ h, rowArr_get f ha]
theorem RowsAt.free {w : World} {b : Nat} {f : Nat → Nat} (h : RowsAt w b f) (a : Nat) : w.frozen? ⟨b, a, none⟩ = false := frozen_of_row w b a _ _ h
theorem RowsAt.keep {S : Nat → Prop} {A B : World} {b : Nat} {f : Nat → Nat} (h : RowsAt A b f) (ht : Turn S A B) (hS : ¬ S b) : RowsAt B b f := ht.heap h hS
theorem RowsAt.lt {w : World} {b : Nat} {f : Nat → Nat} (h : RowsAt w b f) : b < w.heap.size := (Array.getElem?_eq_some_iff.1 h).1
theorem RowsAt.store {w : World} {b : Nat} {f : Nat → Nat} (h : RowsAt w b f) (a v : Nat) : RowsAt (w.setCell ⟨b, a, none⟩ (.int .u64 (v : Int))) b (fun i => if i = a then v else f i) := by
  unfold RowsAt
  rw [heap_setCell_same w b a _ _ _ h, rowArr_set]
theorem RowsAt.row {w : World} {b : Nat} {f g : Nat → Nat} (h : RowsAt w b f) : RowsAt (w.setRow b (rowArr g)) b g := setRow_heap w b _ _ _ _ h
theorem Turn.setRow (A : World) (b : Nat) (cs : Array Value) : Turn (· = b) A (A.setRow b cs) :=
  ⟨rfl, rfl, rfl, by simp, fun i _ hi => by
    show (A.heap.modify b _)[i]? = _
    rw [Array.getElem?_modify, if_neg (fun e => hi e.symm)]⟩
theorem Tryd.relInfo (f : Nat → Nat) : (Tryd.prog.info? 68).map (·.size) = some (rowArr f).size := by
  rw [rowArr_size]; kernel_rfl
theorem rowArr_one (f : Nat → Nat) : (rowArr f).all (·.oneCell') = true := by
  rw [Array.all_eq_true']
  intro v hv
  simp only [rowArr, List.mem_toArray, List.mem_map] at hv
  obtain ⟨_, _, rfl⟩ := hv; rfl

theorem pow_u64 {k : Nat} (hk : k < 64) : IntKind.u64.wrap (2 ^ k) = ((2 ^ k : Nat) : Int) := by
  have hp : 2 ^ k < 18446744073709551616 := by
    have := Nat.pow_lt_pow_right (a := 2) (by decide) hk
    simpa using this
  rw [IntKind.wrap_u64]
  have e : ((2 : Int) ^ k) = ((2 ^ k : Nat) : Int) := by simp
  rw [e]
  generalize 2 ^ k = P at hp
  omega

/-- The result's block, and the variable's. -/
theorem rel_result {fn : Func} {p : Tmp} (h : fn.results = #[.cell p 68]) {tmps : Array Value} {w : World} {g : Nat} {f : Nat → Nat} (hp : tmps.getD p undef = .pointer (some ⟨g, 0, none⟩)) (hg : RowsAt w g f) :
    (results fn tmps).run Tryd.prog w = .ok (.agg (rowArr f)) w :=
  results_cell_row h tmps w g _ _ _ _ hp hg Tryd.underlying68 rfl (Tryd.relInfo f)

set_option maxRecDepth 100000 in
set_option maxHeartbeats 4000000 in
theorem identity_any (n : Nat) (hn : n ≤ 32) (w : World) :
    Calls Tryd.prog 110 #[.int .i64 n] w fun e w' => e = .returned (.agg (rowArr (rowM (idB n)))) ∧ Ext w w' := by
  have z1 := zero_rel
  have z2 := relArr_size noB
  have z3 := relArr_ne noB
  go_enter Tryd.func110, Tryd.ntmps110
  go_wp2
  clear z1 z2 z3
  obtain ⟨B, hB⟩ : ∃ B, w.heap.size = B := ⟨_, rfl⟩
  have hr : RowsAt ((w.alloc (.cells (relArr noB) 68)).alloc (.cells (relArr noB) 68)) B (fun _ => 0) := by
    subst hB
    refine new_keep (new_at rfl) |>.trans ?_
    rw [rowArr_rel, rowArr_congr fun a _ => rowM_no a]
  have hv : RowsAt ((w.alloc (.cells (relArr noB) 68)).alloc (.cells (relArr noB) 68)) (B + 1) (fun a => if a < 0 then 2 ^ a else 0) := by
    subst hB
    refine (new_at (by simp)).trans ?_
    rw [rowArr_rel, rowArr_congr (g := fun a => if a < 0 then 2 ^ a else 0) fun a _ => by rw [rowM_no]; simp]
  have hE : Ext w ((w.alloc (.cells (relArr noB) 68)).alloc (.cells (relArr noB) 68)) := ((Turn.refl _ w).alloc _).alloc _
  generalize ((w.alloc (.cells (relArr noB) 68)).alloc (.cells (relArr noB) 68)) = w1 at hr hv hE ⊢
  rw [hB]
  have HB := Lib.hid hB
  clear hB
  refine wp_loop (fun a W => ∃ (k : Nat), k ≤ n + 1 ∧ a.defers = [] ∧ (a.tmps.size = 16 ∧ a.tmps.getD 2 undef = .pointer (some ⟨B, 0, none⟩) ∧ a.tmps.getD 3 undef = .pointer (some ⟨B + 1, 0, none⟩) ∧ a.tmps.getD 6 undef = .int .i64 ((n : Int) + 1) ∧ a.tmps.getD 7 undef = .int .i64 k) ∧ RowsAt W B (fun _ => 0) ∧ RowsAt W (B + 1) (fun a => if a < k then 2 ^ a else 0) ∧ Ext w W)
    (fun a _ => n + 1 - (intOf (a.tmps.getD 7 undef)).toNat) ?_ ?_
  · exact ⟨0, by omega, rfl, ⟨rfl, rfl, rfl, rfl, rfl⟩, hr, hv, hE⟩
  clear hr hv hE
  rintro ⟨t, _⟩ W ⟨k, hk, hds, ⟨hsz, f2, f3, f6, f7⟩, hr, hv, hE⟩
  subst hds
  obtain ⟨u', hu⟩ := frame_fun hsz
  obtain ⟨u, rfl⟩ : ∃ x, x = u' := ⟨_, rfl⟩
  have hu' : t = #[u 0, u 1, u 2, u 3, u 4, u 5, u 6, u 7, u 8, u 9, u 10, u 11, u 12, u 13, u 14, u 15] := hu
  clear hu
  subst hu'
  change u 2 = _ at f2
  change u 3 = _ at f3
  change u 6 = _ at f6
  change u 7 = _ at f7
  rw [f2, f3, f6, f7]
  clear f2 f3 f6 f7 hsz
  by_cases hkn : k < n + 1
  · have h1 : (k : Int) < (n : Int) + 1 := by omega
    have h2 : (k : Int) < 33 := by omega
    have h3 : (k : Int) < 64 := by omega
    have c1 := hv.cell (a := k) (by omega)
    have f1 := hv.free k
    have hw := pow_u64 (k := k) (by omega)
    have hs := hv.store k (2 ^ k)
    have hfe : (fun i => if i = k then 2 ^ k else if i < k then 2 ^ i else 0) = fun a => if a < k + 1 then 2 ^ a else 0 := by
      funext i
      by_cases e : i = k
      · subst e; simp
      · rw [if_neg e]
        by_cases h : i < k
        · rw [if_pos h, if_pos (by omega)]
        · rw [if_neg h, if_neg (by omega)]
    rw [hfe] at hs
    have hr2 := hr.keep (Turn.set1 W (B + 1) k (.int .u64 ((2 ^ k : Nat) : Int))) (by omega)
    have hE2 : Ext w (W.setCell ⟨B + 1, k, none⟩ (.int .u64 ((2 ^ k : Nat) : Int))) := hE.after (Turn.set1 W (B + 1) k _) (fun b' h1 h2 => by have := HB.out; omega)
    have HS := Lib.hid hs; have HR := Lib.hid hr2; have HE := Lib.hid hE2
    clear hfe hs hr2 hE2 hr hv hE
    go_wp2
    exact ⟨⟨k + 1, by omega, by first | rfl | trivial, ⟨rfl, rfl, rfl, rfl, rfl⟩, HR.out, HS.out, HE.out⟩, by simp [intOf]; omega⟩
  · obtain rfl : k = n + 1 := by omega
    have h1 : ¬ (((n + 1 : Nat) : Int) < (n : Int) + 1) := by omega
    have hrow := RowsAt.row (g := fun a => if a < n + 1 then 2 ^ a else 0) hr
    have hE2 : Ext w (W.setRow B (rowArr fun a => if a < n + 1 then 2 ^ a else 0)) := hE.after (Turn.setRow W B _) (fun b' h1 h2 => by have := HB.out; omega)
    go_wp2_with (first
      | (refine wpList_load_row rfl 68 (.tmp 3) rfl (B + 1) rfl _ _ _ _ hv Tryd.underlying68 rfl (Tryd.relInfo _) ?_)
      | (refine wpList_store_row rfl 68 (.tmp 2) (.tmp 15) rfl B (rowArr fun a => if a < n + 1 then 2 ^ a else 0) rfl rfl _ _ hr (Tryd.relInfo _) (by rw [rowArr_size, rowArr_size]) (rowArr_one _) ?_))
    refine bodyPost_ret (v := .agg (rowArr fun a => if a < n + 1 then 2 ^ a else 0)) (rel_result rfl rfl hrow) rfl ⟨?_, hE2⟩
    rw [rowArr_congr (g := rowM (idB n)) fun a _ => ?_]
    by_cases h : a < n + 1
    · rw [if_pos h, rowM_id hn (by omega)]
    · rw [if_neg h, rowM_out (Mono.id n) (by omega)]
end Go.Proofs.YtapfoaiibjdfnaaDoor

namespace Go.Proofs.YtapfoaiibjdfnaaDoor
open Go.RowKit Go.Ab
attribute [local go_sem] Oper.semAt_some wide_fn wide_depth

/-- What out holds, ahead of the row k. -/
def thenF (X Y : Bin2) (k : Nat) : Nat → Nat := fun a => if a < k then rowM (comp X Y) a else 0
def thenG (X Y : Bin2) (k : Nat) (pre : List Nat) : Nat → Nat := fun a => if a = k then partB Y pre else thenF X Y k a
theorem thenG_nil (X Y : Bin2) (k : Nat) : thenG X Y k [] = thenF X Y k := by
  funext a; unfold thenG thenF
  by_cases h : a = k
  · subst h; simp [partB_nil]
  · rw [if_neg h]
theorem thenG_all (X Y : Bin2) (k : Nat) : thenG X Y k (evs (rowM X k)) = thenF X Y (k + 1) := by
  funext a; unfold thenG thenF
  by_cases h : a = k
  · subst h; rw [if_pos rfl, if_pos (by omega), evs_rowM, partB_all]
  · rw [if_neg h]
    by_cases h2 : a < k
    · rw [if_pos h2, if_pos (by omega)]
    · rw [if_neg h2, if_neg (by omega)]
theorem thenG_snoc (X Y : Bin2) (k : Nat) (pre : List Nat) (b : Nat) : (fun i => if i = k then partB Y pre ||| rowM Y b else thenG X Y k pre i) = thenG X Y k (pre ++ [b]) := by
  funext a; unfold thenG
  by_cases h : a = k
  · subst h; rw [if_pos rfl, if_pos rfl, partB_snoc]
  · rw [if_neg h, if_neg h, if_neg h]
theorem rowM_lt (X : Bin2) (a : Nat) : rowM X a < 8589934592 := by
  have := mask_lt 33 (X a); simpa [rowM] using this
theorem partB_lt (Y : Bin2) (pre : List Nat) : partB Y pre < 8589934592 := by
  have := mask_lt 33 (fun c => pre.any fun b => Y b c); simpa [partB] using this

set_option maxRecDepth 100000 in
set_option maxHeartbeats 8000000 in
theorem then_any {w : World} {bx by' : Nat} {X Y : Bin2} (hx : RowsAt w bx (rowM X)) (hy : RowsAt w by' (rowM Y)) (hT : Tab w) :
    Calls Tryd.prog 111 #[.pointer (some ⟨bx, 0, none⟩), .pointer (some ⟨by', 0, none⟩)] w fun e w' => e = .returned (.agg (rowArr (rowM (comp X Y)))) ∧ Ext w w' := by
  have z1 := zero_rel
  have z2 := relArr_size noB
  have z3 := relArr_ne noB
  have hb0 : 0 < w.heap.size := by have := hx.lt; omega
  refine calls_of_wp_marks Tryd.func111 rfl ?_
  simp only [Tryd.ntmps111, List.size_toArray, List.length_cons, List.length_nil, Nat.reduceAdd, Nat.reduceSub, Array.replicate_succ, Array.replicate_zero, List.push_toArray, List.append_toArray, List.nil_append, List.cons_append]
  go_wp2
  clear z1 z2 z3
  obtain ⟨B, hB⟩ : ∃ B, w.heap.size = B := ⟨_, rfl⟩
  have hp : (((w.alloc (.cells #[.pointer (some ⟨by', 0, none⟩)] 135)).alloc (.cells (relArr noB) 68)).alloc (.cells (relArr noB) 68)).heap[B]? = some (.cells #[.pointer (some ⟨by', 0, none⟩)] 135 (0, 0)) := by
    subst hB; exact new_keep (new_keep (new_at rfl))
  have hr : RowsAt (((w.alloc (.cells #[.pointer (some ⟨by', 0, none⟩)] 135)).alloc (.cells (relArr noB) 68)).alloc (.cells (relArr noB) 68)) (B + 1) (fun _ => 0) := by
    subst hB
    refine (new_keep (new_at (by simp))).trans ?_
    rw [rowArr_rel, rowArr_congr fun a _ => rowM_no a]
  have hv : RowsAt (((w.alloc (.cells #[.pointer (some ⟨by', 0, none⟩)] 135)).alloc (.cells (relArr noB) 68)).alloc (.cells (relArr noB) 68)) (B + 1 + 1) (thenF X Y 0) := by
    subst hB
    refine (new_at (by simp)).trans ?_
    rw [rowArr_rel, rowArr_congr (g := thenF X Y 0) fun a _ => by rw [rowM_no]; simp [thenF]]
  have hE : Ext w (((w.alloc (.cells #[.pointer (some ⟨by', 0, none⟩)] 135)).alloc (.cells (relArr noB) 68)).alloc (.cells (relArr noB) 68)) := (((Turn.refl _ w).alloc _).alloc _).alloc _
  generalize (((w.alloc (.cells #[.pointer (some ⟨by', 0, none⟩)] 135)).alloc (.cells (relArr noB) 68)).alloc (.cells (relArr noB) 68)) = w1 at hp hr hv hE ⊢
  have hxl := hx.lt
  have hyl := hy.lt
  rw [hB] at hxl hyl ⊢
  have HB := Lib.hid hB
  have hT0 := hT
  clear hB
  refine wp_loop (fun a W => ∃ (k : Nat) (ds : List Deferred), k ≤ 33 ∧ a.defers = ds ∧ (a.tmps.size = 31 ∧ a.tmps.getD 0 undef = .pointer (some ⟨bx, 0, none⟩) ∧ a.tmps.getD 3 undef = .pointer (some ⟨B, 0, none⟩) ∧ a.tmps.getD 4 undef = .pointer (some ⟨B + 1, 0, none⟩) ∧ a.tmps.getD 5 undef = .pointer (some ⟨B + 1 + 1, 0, none⟩) ∧ a.tmps.getD 9 undef = .pointer (some ⟨bx, 0, none⟩) ∧ a.tmps.getD 10 undef = .int .i64 k) ∧ Marks B ds W ∧
      W.heap[B]? = some (.cells #[.pointer (some ⟨by', 0, none⟩)] 135 (0, 0)) ∧ RowsAt W (B + 1) (fun _ => 0) ∧ RowsAt W (B + 1 + 1) (thenF X Y k) ∧ Ext w W)
    (fun a _ => 33 - (intOf (a.tmps.getD 10 undef)).toNat) ?_ ?_
  · exact ⟨0, [], by omega, rfl, ⟨rfl, rfl, rfl, rfl, rfl, rfl, rfl⟩, trivial, hp, hr, hv, hE⟩
  clear hp hr hv hE
  rintro ⟨t, ds⟩ W ⟨k, dz, hk, hds, ⟨hsz, f0, f3, f4, f5, f9, f10⟩, hM, hp, hr, hv, hE⟩
  subst hds
  obtain ⟨u', hu⟩ := frame_fun hsz
  obtain ⟨u, rfl⟩ : ∃ x, x = u' := ⟨_, rfl⟩
  have hu' : t = #[u 0, u 1, u 2, u 3, u 4, u 5, u 6, u 7, u 8, u 9, u 10, u 11, u 12, u 13, u 14, u 15, u 16, u 17, u 18, u 19, u 20, u 21, u 22, u 23, u 24, u 25, u 26, u 27, u 28, u 29, u 30] := hu
  clear hu
  subst hu'
  change u 0 = _ at f0
  change u 3 = _ at f3
  change u 4 = _ at f4
  change u 5 = _ at f5
  change u 9 = _ at f9
  change u 10 = _ at f10
  rw [f0, f3, f4, f5, f9, f10]
  clear f0 f3 f4 f5 f9 f10 hsz
  have hxW := hx.keep hE id
  have hyW := hy.keep hE id
  have hTW := hT0.keep hE id
  have hvl := hv.lt
  by_cases hk2 : k < 33
  · have h1 : (k : Int) < 33 := by omega
    have c1 := hxW.cell hk2
    have HS : Hid (∀ D, Ext W D → D.cell? ⟨bx, k, none⟩ = some (.int .u64 (rowM X k))) := Lib.hid fun D hD => hD.cell_some c1 id
    have hml := rowM_lt X k
    have hMl := hM.lt
    go_wp2
    go_region_held3 (fun w' => w'.cell? ⟨bx, k, none⟩ = some (.int .u64 (rowM X k)))
      ((refine HS.out _ ?_; repeat' (first | exact Turn.refl _ _ | refine Turn.drew ?_ | refine Turn.alloc ?_ _ | refine Turn.setCell ?_ (.inl (by simp)) _))) (first | fail)
    go_wp2_with (go_at_call 50; refine (all_any _ _).mono ?_; rintro e w' ⟨rfl, rfl⟩)
    have hb1 : SBox (((W.alloc (.cells #[.int .i64 k] 3)).alloc (.cells #[.int .u64 (rowM X k)] 66)).drew) (W.heap.size + 1) (rowM X k) := drew_keep (new_at (by simp))
    have hE1 : Ext W (((W.alloc (.cells #[.int .i64 k] 3)).alloc (.cells #[.int .u64 (rowM X k)] 66)).drew) := (((Turn.refl _ _).alloc _).alloc _).drew
    have hk1 : (((W.alloc (.cells #[.int .i64 k] 3)).alloc (.cells #[.int .u64 (rowM X k)] 66)).drew).heap[W.heap.size]? = some (.cells #[.int .i64 k] 3 (0, 0)) := drew_keep (new_keep (new_at rfl))
    have hs1 : (((W.alloc (.cells #[.int .i64 k] 3)).alloc (.cells #[.int .u64 (rowM X k)] 66)).drew).heap.size = W.heap.size + 2 := by simp
    generalize (((W.alloc (.cells #[.int .i64 k] 3)).alloc (.cells #[.int .u64 (rowM X k)] 66)).drew) = W1 at hb1 hE1 hk1 hs1 ⊢
    rw [← thenG_nil] at hv
    clear HS c1
    refine wp_range (xs := evs (rowM X k)) (S := (· = W.heap.size + 1)) (K := fun b' => b' = W.heap.size + 1 ∨ b' = 0) rfl (enters_of Tryd.func71 (by kernel_rfl) rfl)
      (all_iter _ (by omega) (W.heap.size + 1) (by omega) W1 hb1 (hTW.keep hE1 id)) (fun _ h => .inl h) (fun b' h => by omega) (fun _ => rfl)
      (fun pre V => RowsAt V (B + 1 + 1) (thenG X Y k pre) ∧ V.heap[B]? = some (.cells #[.pointer (some ⟨by', 0, none⟩)] 135 (0, 0)) ∧ RowsAt V (B + 1) (fun _ => 0) ∧ V.heap[W.heap.size]? = some (.cells #[.int .i64 k] 3 (0, 0)) ∧ Ext w V ∧ Marks B ds V)
      (fun _ _ _ => False) ?hI ?hIx ?h0 (fun i t => (t.setIfInBounds 18 (.int .i64 i)).setIfInBounds 8 (.int .i64 i)) ?assign ?body ?done ?stop
    case hI =>
      rintro pre P Q ⟨i1, i2, i3, i4, i5, i6⟩ ht
      exact ⟨i1.keep ht (by omega), ht.heap i2 (by omega), i3.keep ht (by omega), ht.heap i4 (by omega), i5.after ht (fun b' h1 h2 => by have := HB.out; omega), i6.keepC hMl ht (fun b' h => .inl (by omega))⟩
    case hIx => exact fun _ _ _ _ h _ => h
    case h0 =>
      intro V hV _
      have hEV : Ext W V := hE1.trans hV
      exact ⟨hv.keep hEV id, hEV.heap hp id, hr.keep hEV id, hV.heap hk1 id, hE.trans hEV, hM.keepC hMl hEV (fun _ h => h.elim)⟩
    case assign =>
      intro i V K hK
      gi_wp2
      exact hK
    case body =>
      rintro pre i rest V hx' hsz ht ⟨i1, i2, i3, i4, i5, i6⟩
      simp only [List.setIfInBounds_toArray, List.set_cons_zero, List.set_cons_succ]
      have hi33 : i < 33 := by
        have : i ∈ evs (rowM X k) := by rw [hx']; simp
        rw [evs_rowM] at this
        exact List.mem_range.1 (List.mem_filter.1 this).1
      have hi1 : (i : Int) < 33 := by omega
      have hyV := hy.keep i5 id
      have cK := cell_of_one i4
      have cP := cell_of_one i2
      have cO := i1.cell (a := k) hk2
      have fO := i1.free k
      have cY := hyV.cell hi33
      have e1 : thenG X Y k pre k = partB Y pre := by unfold thenG; rw [if_pos rfl]
      rw [e1] at cO
      have hpl := partB_lt Y pre
      have hyl2 := rowM_lt Y i
      have oA := u64_or_nat (partB Y pre) (rowM Y i) (by omega) (by omega)
      have hst := i1.store k (partB Y pre ||| rowM Y i)
      rw [thenG_snoc] at hst
      have hTs := Turn.set1 V (B + 1 + 1) k (.int .u64 ((partB Y pre ||| rowM Y i : Nat) : Int))
      have hfin : Turn (fun b' => ¬ ((b' = W.heap.size + 1 ∨ b' = 0) ∨ b' = W1.heap.size ∨ b' = W1.heap.size + 1)) V ((V.setCell ⟨B + 1 + 1, k, none⟩ (.int .u64 ((partB Y pre ||| rowM Y i : Nat) : Int))).drew) :=
        (hTs.mono (fun b' _ e => by omega)).drew
      have hI2 : RowsAt ((V.setCell ⟨B + 1 + 1, k, none⟩ (.int .u64 ((partB Y pre ||| rowM Y i : Nat) : Int))).drew) (B + 1 + 1) (thenG X Y k (pre ++ [i])) ∧ ((V.setCell ⟨B + 1 + 1, k, none⟩ (.int .u64 ((partB Y pre ||| rowM Y i : Nat) : Int))).drew).heap[B]? = some (.cells #[.pointer (some ⟨by', 0, none⟩)] 135 (0, 0)) ∧ RowsAt ((V.setCell ⟨B + 1 + 1, k, none⟩ (.int .u64 ((partB Y pre ||| rowM Y i : Nat) : Int))).drew) (B + 1) (fun _ => 0) ∧ ((V.setCell ⟨B + 1 + 1, k, none⟩ (.int .u64 ((partB Y pre ||| rowM Y i : Nat) : Int))).drew).heap[W.heap.size]? = some (.cells #[.int .i64 k] 3 (0, 0)) ∧ Ext w ((V.setCell ⟨B + 1 + 1, k, none⟩ (.int .u64 ((partB Y pre ||| rowM Y i : Nat) : Int))).drew) ∧ Marks B ds ((V.setCell ⟨B + 1 + 1, k, none⟩ (.int .u64 ((partB Y pre ||| rowM Y i : Nat) : Int))).drew) :=
        ⟨hst, hTs.drew.heap i2 (by omega), i3.keep hTs.drew (by omega), hTs.drew.heap i4 (by omega), i5.after hTs.drew (fun b' h1 h2 => by have := HB.out; omega), i6.keepC hMl hTs.drew (fun b' h => .inr (.inr ⟨_, by subst h; exact i1, rfl⟩))⟩
      have HF := Lib.hid hfin; have HI2 := Lib.hid hI2; have HX := Lib.hid hx'; have HE1 := Lib.hid e1
      clear hfin hI2 hx' e1 hst hTs i1 i2 i3 i4 i5 i6 hyV hE1 hE hM hv hr hp hxW hyW ht
      gi_wp2
      refine wpIn_region_still_tail 9 (by kernel_rfl) (by kernel_rfl) (by kernel_rfl) (by rintro ⟨_, _, h⟩; exact h) ?_
      simp only [List.take_succ_cons, List.take_zero, List.drop_succ_cons, List.drop_zero]
      repeat still_step
      refine wpStill_nil ?_
      go_wp2
      exact ⟨HF.out, HI2.out⟩
    case done =>
      rintro V ⟨i1, i2, i3, i4, i5, i6⟩ ht hD
      rw [thenG_all] at i1
      have hDlt : W1.heap.size < V.heap.size := (Array.getElem?_eq_some_iff.1 hD).1
      clear hE1 hE hM hv hr hp hxW hyW
      go_wp2
      exact ⟨⟨k + 1, _, by omega, rfl, ⟨rfl, rfl, rfl, rfl, rfl, rfl, rfl⟩, Marks.cons i6 (by omega) hD (fun e he ht => by have := hMl e he _ ht; omega), i2, i3, i1, i5⟩, by simp [intOf]; omega⟩
    case stop => exact fun _ _ _ _ _ _ h => h.elim
  · obtain rfl : k = 33 := by omega
    have h1 : ¬ (((33 : Nat) : Int) < 33) := by omega
    have e1 : rowArr (thenF X Y 33) = rowArr (rowM (comp X Y)) := rowArr_congr fun a ha => by unfold thenF; rw [if_pos ha]
    have hrow := RowsAt.row (g := rowM (comp X Y)) hr
    have hTs := Turn.setRow W (B + 1) (rowArr (rowM (comp X Y)))
    have hE2 : Ext w (W.setRow (B + 1) (rowArr (rowM (comp X Y)))) := hE.after hTs (fun b' h1 h2 => by have := HB.out; omega)
    have hM2 : Marks B ds (W.setRow (B + 1) (rowArr (rowM (comp X Y)))) := hM.keep hTs (fun b hb o ho => by
      subst hb; have : W.heap[B + 1]? = _ := hr; rw [this] at ho; cases ho; rfl)
    have hv' : RowsAt W (B + 1 + 1) (rowM (comp X Y)) := by unfold RowsAt; rw [← e1]; exact hv
    have HM2 := Lib.hid hM2; have HE2 := Lib.hid hE2; have HROW := Lib.hid hrow
    clear hM2 hE2 hrow hTs e1 hv
    go_wp2_with (first
      | (refine wpList_load_row rfl 68 (.tmp 5) rfl (B + 1 + 1) rfl _ _ _ _ hv' Tryd.underlying68 rfl (Tryd.relInfo _) ?_)
      | (refine wpList_store_row rfl 68 (.tmp 4) (.tmp 30) rfl (B + 1) (rowArr (rowM (comp X Y))) rfl rfl _ _ hr (Tryd.relInfo _) (by rw [rowArr_size, rowArr_size]) (rowArr_one _) ?_))
    refine leavesM (v := .agg (rowArr (rowM (comp X Y)))) _ _ HM2.out (fun w' ht hs => ⟨rel_result rfl rfl (HROW.out.keep ht (Shut.not HROW.out rfl)), rfl, HE2.out.after ht (fun b' h2 h3 => by have := h3.1; have := HB.out; omega)⟩)
end Go.Proofs.YtapfoaiibjdfnaaDoor

namespace Go.Proofs.YtapfoaiibjdfnaaDoor
open Go.RowKit Go.Ab

/-- x, the rows below k joined with those of y. -/
def orF (X Y : Bin2) (k : Nat) : Nat → Nat := fun a => if a < k then rowM (orB X Y) a else rowM X a
theorem orF_step (X Y : Bin2) (k : Nat) : (fun i => if i = k then rowM X k ||| rowM Y k else orF X Y k i) = orF X Y (k + 1) := by
  funext a; unfold orF
  by_cases h : a = k
  · subst h; rw [if_pos rfl, if_pos (by omega), rowM_or]
  · rw [if_neg h]
    by_cases h2 : a < k
    · rw [if_pos h2, if_pos (by omega)]
    · rw [if_neg h2, if_neg (by omega)]

set_option maxRecDepth 100000 in
set_option maxHeartbeats 8000000 in
theorem or_any {w : World} {bx by' : Nat} {X Y : Bin2} (hx : RowsAt w bx (rowM X)) (hy : RowsAt w by' (rowM Y)) (hne : bx ≠ by') :
    Calls Tryd.prog 108 #[.pointer (some ⟨bx, 0, none⟩), .pointer (some ⟨by', 0, none⟩)] w fun e w' => (∃ v, e = .returned v) ∧ Turn (· = bx) w w' ∧ RowsAt w' bx (rowM (orB X Y)) := by
  go_enter Tryd.func108, Tryd.ntmps108
  go_wp2
  have hx0 : RowsAt w bx (orF X Y 0) := by
    have : orF X Y 0 = rowM X := by funext a; simp [orF]
    rw [this]; exact hx
  refine wp_loop (fun a W => ∃ (k : Nat), k ≤ 33 ∧ a.defers = [] ∧ (a.tmps.size = 23 ∧ a.tmps.getD 0 undef = .pointer (some ⟨bx, 0, none⟩) ∧ a.tmps.getD 6 undef = .pointer (some ⟨by', 0, none⟩) ∧ a.tmps.getD 7 undef = .int .i64 k) ∧ RowsAt W bx (orF X Y k) ∧ Turn (· = bx) w W)
    (fun a _ => 33 - (intOf (a.tmps.getD 7 undef)).toNat) ?_ ?_
  · exact ⟨0, by omega, rfl, ⟨rfl, rfl, rfl, rfl⟩, hx0, Turn.refl _ _⟩
  clear hx0
  rintro ⟨t, _⟩ W ⟨k, hk, hds, ⟨hsz, f0, f6, f7⟩, hv, hE⟩
  subst hds
  obtain ⟨u', hu⟩ := frame_fun hsz
  obtain ⟨u, rfl⟩ : ∃ x, x = u' := ⟨_, rfl⟩
  have hu' : t = #[u 0, u 1, u 2, u 3, u 4, u 5, u 6, u 7, u 8, u 9, u 10, u 11, u 12, u 13, u 14, u 15, u 16, u 17, u 18, u 19, u 20, u 21, u 22] := hu
  clear hu
  subst hu'
  change u 0 = _ at f0
  change u 6 = _ at f6
  change u 7 = _ at f7
  rw [f0, f6, f7]
  clear f0 f6 f7 hsz
  have hyW := hy.keep hE (fun h => hne h.symm)
  by_cases hk2 : k < 33
  · have h1 : (k : Int) < 33 := by omega
    have c1 := hyW.cell hk2
    have c2 := hv.cell hk2
    have f2 := hv.free k
    have e1 : orF X Y k k = rowM X k := by unfold orF; rw [if_neg (by omega)]
    rw [e1] at c2
    have l1 := rowM_lt X k
    have l2 := rowM_lt Y k
    have oA := u64_or_nat (rowM X k) (rowM Y k) (by omega) (by omega)
    have hst := hv.store k (rowM X k ||| rowM Y k)
    rw [orF_step] at hst
    have hTs : ∀ m, Turn (· = bx) w ((W.drewN m).setCell ⟨bx, k, none⟩ (.int .u64 ((rowM X k ||| rowM Y k : Nat) : Int))) := fun m => (hE.drewN m).setCell (p := ⟨bx, k, none⟩) (.inr rfl) _
    have HST := Lib.hid hst; have HTS := Lib.hid hTs; have HE1 := Lib.hid e1
    clear hst hTs e1 hv hE hyW
    go_wp2
    go_quiet (fail)
    go_wp2
    refine region_still 9 (by kernel_rfl) (by kernel_rfl) ?_
    simp only [List.take_succ_cons, List.take_zero, List.drop_succ_cons, List.drop_zero]
    repeat still_step
    refine wpStill_nil ?_
    go_wp2
    exact ⟨⟨k + 1, by omega, by first | rfl | trivial, ⟨rfl, rfl, rfl, rfl⟩, HST.out, HTS.out _⟩, by simp [intOf]; omega⟩
  · obtain rfl : k = 33 := by omega
    have h1 : ¬ (((33 : Nat) : Int) < 33) := by omega
    have hv' : RowsAt W bx (rowM (orB X Y)) := by
      have e1 : rowArr (orF X Y 33) = rowArr (rowM (orB X Y)) := rowArr_congr fun a ha => by unfold orF; rw [if_pos ha]
      unfold RowsAt; rw [← e1]; exact hv
    have HV := Lib.hid hv'
    clear hv hv'
    go_wp2
    go_end0
    exact ⟨⟨_, rfl⟩, hE, HV.out⟩

theorem i64_and1 (k : Nat) (hk : k < 9223372036854775808) : (bits .and .i64 (k : Int) 1 == 1) = decide (k % 2 = 1) := by
  have e : bits .and .i64 (k : Int) 1 = ((k % 2 : Nat) : Int) := by
    show IntKind.i64.wrap ((BitVec.ofInt 64 (k : Int) &&& BitVec.ofInt 64 ((1 : Nat) : Int)).toNat : Int) = _
    rw [BitVec.toNat_and, ofInt_u64 _ (by omega), ofInt_u64 1 (by omega), Nat.and_one_is_mod]
    exact IntWalk.i64_in _ (by omega)
  rw [e]
  rcases Nat.mod_two_eq_zero_or_one k with h | h <;> simp [h]

set_option maxRecDepth 100000 in
set_option maxHeartbeats 8000000 in
theorem power_any {n : Nat} (hn : n ≤ 32) {X : Bin2} (hX : Mono n X) (k : Nat) (hk : k ≤ 64) (w : World) (hT : Tab w) :
    Calls Tryd.prog 104 #[.agg (rowArr (rowM X)), .int .i64 k, .int .i64 n] w fun e w' => e = .returned (.agg (rowArr (rowM (powB X n k)))) ∧ Ext w w' := by
  have z1 := zero_rel
  have z2 := relArr_size noB
  have z3 := relArr_ne noB
  have z4 := rowArr_size (rowM X)
  go_enter Tryd.func104, Tryd.ntmps104
  go_wp2_with fail
  clear z4
  obtain ⟨B, hB⟩ : ∃ B, w.heap.size = B := ⟨_, rfl⟩
  have hx : RowsAt ((w.alloc (.cells (rowArr (rowM X)) 68)).alloc (.cells (relArr noB) 68)) B (rowM X) := by
    subst hB; exact new_keep (new_at rfl)
  have hr : RowsAt ((w.alloc (.cells (rowArr (rowM X)) 68)).alloc (.cells (relArr noB) 68)) (B + 1) (fun _ => 0) := by
    subst hB
    refine (new_at (by simp)).trans ?_
    rw [rowArr_rel, rowArr_congr fun a _ => rowM_no a]
  have hE : Ext w ((w.alloc (.cells (rowArr (rowM X)) 68)).alloc (.cells (relArr noB) 68)) := ((Turn.refl _ w).alloc _).alloc _
  generalize ((w.alloc (.cells (rowArr (rowM X)) 68)).alloc (.cells (relArr noB) 68)) = w1 at hx hr hE ⊢
  rw [hB]
  have HB := Lib.hid hB
  clear hB
  refine (identity_any n hn w1).mono ?_
  rintro e w2 ⟨rfl, hE2⟩
  have hx2 := hx.keep hE2 id
  have hr2 := hr.keep hE2 id
  have hE02 := hE.trans hE2
  have hO0 : (w2.alloc (.cells (relArr noB) 68)).heap[w2.heap.size]? = some (.cells (relArr noB) 68 (0, 0)) := new_at rfl
  go_wp2_with (refine wpList_store_row rfl 68 (.tmp 7) (.tmp 9) rfl w2.heap.size (rowArr (rowM (idB n))) rfl rfl _ _ hO0 (Tryd.relInfo _) (by rw [relArr_size, rowArr_size]) (rowArr_one _) ?_)
  obtain ⟨O, hO⟩ : ∃ O, w2.heap.size = O := ⟨_, rfl⟩
  have hO1 : RowsAt ((w2.alloc (.cells (relArr noB) 68)).setRow w2.heap.size (rowArr (rowM (idB n)))) w2.heap.size (rowM (idB n)) := setRow_heap _ _ _ _ _ _ hO0
  have hE3 : Ext w2 ((w2.alloc (.cells (relArr noB) 68)).setRow w2.heap.size (rowArr (rowM (idB n)))) := ((Turn.refl _ w2).alloc _).after (Turn.setRow _ _ _) (fun b' h1 h2 => by omega)
  have hl2 := hr2.lt
  generalize ((w2.alloc (.cells (relArr noB) 68)).setRow w2.heap.size (rowArr (rowM (idB n)))) = w3 at hO1 hE3 ⊢
  rw [hO] at hO1 hl2 ⊢
  have hx3 := hx2.keep hE3 id
  have hr3 := hr2.keep hE3 id
  have hE03 := hE02.trans hE3
  have hT3 := hT.keep hE03 id
  have hBg : 0 < B := by
    have := hT 0 (by decide)
    rw [← HB.out]
    apply Nat.lt_of_not_le; intro h
    simp [World.cell?, Array.getElem?_eq_none h] at this
  clear hx hr hE hE2 hx2 hr2 hE02 hO0 hE3 hO z1 z2 z3
  refine wp_loop (fun a W => ∃ (j : Nat) (Y out : Bin2), j ≤ 64 ∧ a.defers = [] ∧ (a.tmps.size = 20 ∧ a.tmps.getD 1 undef = .int .i64 j ∧ a.tmps.getD 3 undef = .pointer (some ⟨B, 0, none⟩) ∧ a.tmps.getD 6 undef = .pointer (some ⟨B + 1, 0, none⟩) ∧ a.tmps.getD 7 undef = .pointer (some ⟨O, 0, none⟩)) ∧
      (Mono n Y ∧ Mono n out ∧ comp out (powB Y n j) = powB X n k) ∧ RowsAt W B (rowM Y) ∧ RowsAt W (B + 1) (fun _ => 0) ∧ RowsAt W O (rowM out) ∧ Ext w W)
    (fun a _ => (intOf (a.tmps.getD 1 undef)).toNat) ?_ ?_
  · exact ⟨k, X, idB n, hk, rfl, ⟨rfl, rfl, rfl, rfl, rfl⟩, ⟨hX, Mono.id n, id_comp hn (Mono.pow hX k)⟩, hx3, hr3, hO1, hE03⟩
  clear hx3 hr3 hO1 hE03 hT3
  rintro ⟨t, _⟩ W ⟨j, Y, out, hj, hds, ⟨hsz, f1, f3, f6, f7⟩, hpl, hY, hr, hO, hE⟩
  subst hds
  obtain ⟨u', hu⟩ := frame_fun hsz
  obtain ⟨u, rfl⟩ : ∃ x, x = u' := ⟨_, rfl⟩
  have hu' : t = #[u 0, u 1, u 2, u 3, u 4, u 5, u 6, u 7, u 8, u 9, u 10, u 11, u 12, u 13, u 14, u 15, u 16, u 17, u 18, u 19] := hu
  clear hu
  subst hu'
  change u 1 = _ at f1
  change u 3 = _ at f3
  change u 6 = _ at f6
  change u 7 = _ at f7
  rw [f1, f3, f6, f7]
  clear f1 f3 f6 f7 hsz
  obtain ⟨hmY, hmo, hpw⟩ := hpl
  have hTW := hT.keep hE id
  have hNB : Turn (fun b => b = B ∨ b = O) W W := Turn.refl _ _
  have hwl : w.heap.size ≤ O ∧ w.heap.size ≤ B := by have := HB.out; omega
  have HWL := Lib.hid hwl
  clear hwl
  by_cases hj0 : j = 0
  · subst hj0
    rw [show powB Y n 0 = idB n from rfl, comp_id hn hmo] at hpw
    subst hpw
    have hrow := RowsAt.row (g := rowM (powB X n k)) hr
    have hE2 : Ext w (W.setRow (B + 1) (rowArr (rowM (powB X n k)))) := hE.after (Turn.setRow W (B + 1) _) (fun b' h1 h2 => by have := HB.out; omega)
    go_wp2_with (first
      | (refine wpList_load_row rfl 68 (.tmp 7) rfl O rfl _ _ _ _ hO Tryd.underlying68 rfl (Tryd.relInfo _) ?_)
      | (refine wpList_store_row rfl 68 (.tmp 6) (.tmp 19) rfl (B + 1) (rowArr (rowM (powB X n k))) rfl rfl _ _ hr (Tryd.relInfo _) (by rw [rowArr_size, rowArr_size]) (rowArr_one _) ?_))
    exact bodyPost_ret (v := .agg (rowArr (rowM (powB X n k)))) (rel_result rfl rfl hrow) rfl ⟨rfl, hE2⟩
  · have hj1 : (0 : Int) < (j : Int) := by omega
    have hj2 : (j : Int) ≤ 64 := by omega
    have hbit := i64_and1 j (by omega)
    have HPW := Lib.hid hpw
    clear hpw
    by_cases h1 : j % 2 = 1
    · rw [decide_eq_true h1] at hbit
      have H1 := Lib.hid h1
      clear h1
      go_wp2_with fail
      refine (then_any hO hY hTW).mono ?_
      rintro e W2 ⟨rfl, hE2⟩
      have hO2 := hO.keep hE2 id
      go_wp2_with (refine wpList_store_row rfl 68 (.tmp 7) (.tmp 17) rfl O (rowArr (rowM (comp out Y))) rfl rfl _ _ hO2 (Tryd.relInfo _) (by rw [rowArr_size, rowArr_size]) (rowArr_one _) ?_)
      have hTs := Turn.setRow W2 O (rowArr (rowM (comp out Y)))
      have hO3 := RowsAt.row (g := rowM (comp out Y)) hO2
      have hY3 := (hY.keep hE2 id).keep hTs (by omega)
      have hr3 := (hr.keep hE2 id).keep hTs (by omega)
      have hE3 := (hE.trans hE2).after hTs (fun b' h1 h2 => by have := HWL.out.1; omega)
      generalize (W2.setRow O (rowArr (rowM (comp out Y)))) = W3 at hO3 hY3 hr3 hE3 ⊢
      have hT3 := hT.keep hE3 id
      clear hTs hO2 hE2 hO hY hr hE hTW hNB
      go_wp2_with fail
      refine (then_any hY3 hY3 hT3).mono ?_
      rintro e W4 ⟨rfl, hE4⟩
      have hY4 := hY3.keep hE4 id
      go_wp2_with (refine wpList_store_row rfl 68 (.tmp 3) (.tmp 18) rfl B (rowArr (rowM (comp Y Y))) rfl rfl _ _ hY4 (Tryd.relInfo _) (by rw [rowArr_size, rowArr_size]) (rowArr_one _) ?_)
      have hTs := Turn.setRow W4 B (rowArr (rowM (comp Y Y)))
      have hY5 := RowsAt.row (g := rowM (comp Y Y)) hY4
      have hO5 := (hO3.keep hE4 id).keep hTs (by omega)
      have hr5 := (hr3.keep hE4 id).keep hTs (by omega)
      have hE5 := (hE3.trans hE4).after hTs (fun b' h1 h2 => by have := HWL.out.2; omega)
      generalize (W4.setRow B (rowArr (rowM (comp Y Y)))) = W5 at hY5 hO5 hr5 hE5 ⊢
      clear hTs hY4 hE4 hY3 hr3 hE3 hO3
      have hp2 : comp (comp out Y) (powB (comp Y Y) n (j / 2)) = powB X n k := by
        rw [pow_two hn hmY, comp_assoc, ← HPW.out]
        congr 1
        have : j = 2 * (j / 2) + 1 := by have := H1.out; omega
        rw [show powB Y n j = powB Y n (2 * (j / 2) + 1) from congrArg _ this]; rfl
      have HP2 := Lib.hid hp2
      clear hp2
      go_wp2
      exact ⟨⟨j / 2, comp Y Y, comp out Y, by omega, by first | rfl | trivial, ⟨rfl, rfl, rfl, rfl, rfl⟩, ⟨hmY.comp hmY, hmo.comp hmY, HP2.out⟩, hY5, hr5, hO5, hE5⟩, by simp [intOf]; omega⟩
    · rw [decide_eq_false h1] at hbit
      have H1 := Lib.hid h1
      clear h1
      go_wp2_with fail
      refine (then_any hY hY hTW).mono ?_
      rintro e W4 ⟨rfl, hE4⟩
      have hY4 := hY.keep hE4 id
      go_wp2_with (refine wpList_store_row rfl 68 (.tmp 3) (.tmp 18) rfl B (rowArr (rowM (comp Y Y))) rfl rfl _ _ hY4 (Tryd.relInfo _) (by rw [rowArr_size, rowArr_size]) (rowArr_one _) ?_)
      have hTs := Turn.setRow W4 B (rowArr (rowM (comp Y Y)))
      have hY5 := RowsAt.row (g := rowM (comp Y Y)) hY4
      have hO5 := (hO.keep hE4 id).keep hTs (by omega)
      have hr5 := (hr.keep hE4 id).keep hTs (by omega)
      have hE5 := (hE.trans hE4).after hTs (fun b' h1 h2 => by have := HWL.out.2; omega)
      generalize (W4.setRow B (rowArr (rowM (comp Y Y)))) = W5 at hY5 hO5 hr5 hE5 ⊢
      clear hTs hY4 hE4 hY hr hE hO
      have hp2 : comp out (powB (comp Y Y) n (j / 2)) = powB X n k := by
        rw [pow_two hn hmY, ← HPW.out]
        congr 2
        have := H1.out; omega
      have HP2 := Lib.hid hp2
      clear hp2
      go_wp2
      exact ⟨⟨j / 2, comp Y Y, out, by omega, by first | rfl | trivial, ⟨rfl, rfl, rfl, rfl, rfl⟩, ⟨hmY.comp hmY, hmo, HP2.out⟩, hY5, hr5, hO5, hE5⟩, by simp [intOf]; omega⟩
end Go.Proofs.YtapfoaiibjdfnaaDoor

namespace Go.Ab

inductive PartS where
  | sound (pl mi : Nat) (nt : Bool)
  | edge (e : Bool)
  | seq (l : List PartS)
  | alt (l : List PartS)
  | rep (of : PartS) (mn mx : Int)

mutual
def relS (w : Wd) : PartS → Bin2
  | .sound pl mi nt => soundB w (pl, mi) nt
  | .edge e => edgeB (if e then w.length else 0)
  | .seq l => seqS w l (idB w.length)
  | .alt l => altS w l noB
  | .rep p mn mx => repB (relS w p) w.length mn.toNat (extra w.length mn mx)
def seqS (w : Wd) : List PartS → Bin2 → Bin2
  | [], X => X
  | p :: l, X => seqS w l (comp X (relS w p))
def altS (w : Wd) : List PartS → Bin2 → Bin2
  | [], X => X
  | p :: l, X => altS w l (orB X (relS w p))
end
theorem seqS_snoc (w : Wd) (p : PartS) : ∀ (l : List PartS) (X : Bin2), seqS w (l ++ [p]) X = comp (seqS w l X) (relS w p)
  | [], X => by simp [seqS]
  | q :: l, X => by rw [List.cons_append]; unfold seqS; exact seqS_snoc w p l _
theorem altS_snoc (w : Wd) (p : PartS) : ∀ (l : List PartS) (X : Bin2), altS w (l ++ [p]) X = orB (altS w l X) (relS w p)
  | [], X => by simp [altS]
  | q :: l, X => by rw [List.cons_append]; unfold altS; exact altS_snoc w p l _

mutual
theorem relS_mono (w : Wd) : ∀ p, Mono w.length (relS w p)
  | .sound pl mi nt => by unfold relS; exact Mono.sound _ _ _
  | .edge e => by unfold relS; exact Mono.edge (by cases e <;> simp)
  | .seq l => by unfold relS; exact seqS_mono w l _ (Mono.id _)
  | .alt l => by unfold relS; exact altS_mono w l _ (Mono.no _)
  | .rep p mn mx => by unfold relS repB; exact (Mono.pow (relS_mono w p) _).comp (Mono.pow ((relS_mono w p).or (Mono.id _)) _)
theorem seqS_mono (w : Wd) : ∀ (l : List PartS) (X : Bin2), Mono w.length X → Mono w.length (seqS w l X)
  | [], _, h => by unfold seqS; exact h
  | p :: l, X, h => by unfold seqS; exact seqS_mono w l _ (h.comp (relS_mono w p))
theorem altS_mono (w : Wd) : ∀ (l : List PartS) (X : Bin2), Mono w.length X → Mono w.length (altS w l X)
  | [], _, h => by unfold altS; exact h
  | p :: l, X, h => by unfold altS; exact altS_mono w l _ (h.or (relS_mono w p))
end

/-! ### Compiled patterns -/
mutual
def cmp : Pat → PartS
  | .node k pl mi nt mn mx l =>
    if k = 1 then .sound pl mi nt
    else if k = 2 then .edge false
    else if k = 6 then .edge true
    else if k = 4 then .alt (cmpL l)
    else if k = 5 then .rep ((cmpL l).headD (.seq [])) mn mx
    else .seq (cmpL l)
def cmpL : List Pat → List PartS
  | [] => []
  | p :: l => cmp p :: cmpL l
end
theorem cmpL_map (l : List Pat) : cmpL l = l.map cmp := by
  induction l with
  | nil => rfl
  | cons p l ih => unfold cmpL; rw [ih]; rfl

mutual
/-- Every node is valid by itself. -/
def okPat : Pat → Prop
  | .node k pl mi nt mn mx l => nodeE (.node k pl mi nt mn mx l) = 0 ∧ l.length ≤ 40 ∧ okPats l
def okPats : List Pat → Prop
  | [] => True
  | p :: l => okPat p ∧ okPats l
end
theorem okPats_iff {l : List Pat} : okPats l ↔ ∀ p ∈ l, okPat p := by
  induction l with
  | nil => simp [okPats]
  | cons p l ih => unfold okPats; rw [ih]; simp
theorem walkP_up (p : Pat) (n : Nat) (hn40 : n ≤ 40) (h : (walkP p n).2 = 0) : n + 1 ≤ (walkP p n).1 := by
  cases p with
  | node k pl mi nt mn mx l =>
    unfold walkP at h ⊢
    by_cases hn : n = 40
    · rw [if_pos hn] at h; cases h
    · rw [if_neg hn] at h ⊢
      by_cases he : nodeE (.node k pl mi nt mn mx l) = 0
      · rw [if_pos he]
        exact (walkL_chk l (n + 1) [] (by omega)).1.2
      · rw [if_neg he] at h; exact absurd h he
theorem walkL_len : ∀ (l : List Pat) (n : Nat), n ≤ 40 → (walkL l n).2 = 0 → n + l.length ≤ (walkL l n).1
  | [], n, _, _ => by simp [walkL]
  | p :: l, n, hn, h => by
    unfold walkL bindE at h ⊢
    by_cases he : (walkP p n).2 = 0
    · rw [if_pos he] at h ⊢
      have h1 := walkP_up p n hn he
      have h2 := walkL_len l _ (walkP_chk p n [] hn).1.1 h
      simp only [List.length_cons]; omega
    · rw [if_neg he] at h; exact absurd h he
mutual
theorem walkP_ok : ∀ (p : Pat) (n : Nat), n ≤ 40 → (walkP p n).2 = 0 → okPat p
  | .node k pl mi nt mn mx l, n, hn40, h => by
    unfold walkP at h
    unfold okPat
    by_cases hn : n = 40
    · rw [if_pos hn] at h; cases h
    · rw [if_neg hn] at h
      by_cases he : nodeE (.node k pl mi nt mn mx l) = 0
      · rw [if_pos he] at h
        have h1 := walkL_len l (n + 1) (by omega) h
        have h2 := (walkL_chk l (n + 1) [] (by omega)).1.1
        exact ⟨he, by omega, walkL_ok l _ (by omega) h⟩
      · rw [if_neg he] at h; exact absurd h he
theorem walkL_ok : ∀ (l : List Pat) (n : Nat), n ≤ 40 → (walkL l n).2 = 0 → okPats l
  | [], _, _, _ => by unfold okPats; trivial
  | p :: l, n, hn, h => by
    unfold walkL bindE at h
    unfold okPats
    by_cases he : (walkP p n).2 = 0
    · rw [if_pos he] at h
      exact ⟨walkP_ok p n hn he, walkL_ok l _ (walkP_chk p n [] hn).1.1 h⟩
    · rw [if_neg he] at h; exact absurd h he
end
theorem chkP_ok {p : Pat} (h : chkP p = 0) : okPat p := walkP_ok p 0 (by omega) (by rw [walkP_zero]; exact h)

theorem ite_zero {c : Prop} [Decidable c] (h : (if c then (0 : Int) else 14) = 0) : c := by
  by_cases hc : c
  · exact hc
  · rw [if_neg hc] at h; cases h
theorem ite_two {c : Prop} [Decidable c] {x : Int} (h : (if c then 2 else x) = 0) : ¬ c ∧ x = 0 := by
  by_cases hc : c
  · rw [if_pos hc] at h; cases h
  · rw [if_neg hc] at h; exact ⟨hc, h⟩

/-- What a valid node is like. -/
theorem nodeE_zero {k : Int} {pl mi : Nat} {nt : Bool} {mn mx : Int} {l : List Pat} (h : nodeE (.node k pl mi nt mn mx l) = 0) :
    (0 ≤ k ∧ k ≤ 6) ∧ (k ≠ 1 → pl = 0 ∧ mi = 0 ∧ nt = false) ∧ (k ≠ 3 → k ≠ 4 → k ≠ 5 → l = []) ∧ (k ≠ 5 → mn = 0 ∧ mx = 0) ∧
      (k = 5 → l.length = 1 ∧ 0 ≤ mn ∧ mn ≤ 32 ∧ (mx = -1 ∨ mn ≤ mx ∧ mx ≤ 32)) ∧ okSound pl mi = true := by
  unfold nodeE at h
  simp only [Pat.k, Pat.pl, Pat.mi, Pat.nt, Pat.mn, Pat.mx, Pat.l] at h
  obtain ⟨h1, h⟩ := ite_two h
  obtain ⟨h2, h⟩ := ite_two h
  obtain ⟨h3, h⟩ := ite_two h
  obtain ⟨h4, h⟩ := ite_two h
  obtain ⟨h5, h⟩ := ite_two h
  have h6 : okSound pl mi = true := ite_zero h
  refine ⟨by omega, fun hk => ?_, fun a b c => ?_, fun hk => by omega, fun hk => ?_, h6⟩
  · refine ⟨?_, ?_, ?_⟩
    · exact Classical.byContradiction fun hh => h2 ⟨hk, .inl hh⟩
    · exact Classical.byContradiction fun hh => h2 ⟨hk, .inr (.inl hh)⟩
    · cases nt
      · rfl
      · exact absurd ⟨hk, .inr (.inr rfl)⟩ h2
  · exact List.eq_nil_of_length_eq_zero (Classical.byContradiction fun hh => h3 ⟨a, b, c, hh⟩)
  · refine ⟨Classical.byContradiction fun hh => h5 ⟨hk, .inl hh⟩, ?_, ?_, ?_⟩
    · apply Int.not_lt.1; exact fun hh => h5 ⟨hk, .inr (.inl hh)⟩
    · apply Int.not_lt.1; exact fun hh => h5 ⟨hk, .inr (.inr (.inl hh))⟩
    · by_cases e : mx = -1
      · exact .inl e
      · refine .inr ⟨?_, ?_⟩
        · apply Int.not_lt.1; exact fun hh => h5 ⟨hk, .inr (.inr (.inr ⟨e, .inl hh⟩))⟩
        · apply Int.not_lt.1; exact fun hh => h5 ⟨hk, .inr (.inr (.inr ⟨e, .inr hh⟩))⟩

theorem altS_or (w : Wd) : ∀ (l : List PartS) (X Y : Bin2), altS w l (orB X Y) = orB X (altS w l Y)
  | [], X, Y => by unfold altS; rfl
  | p :: l, X, Y => by unfold altS; rw [orB_assoc, altS_or w l]
mutual
theorem relS_cmp (w : Wd) : ∀ p, okPat p → relS w (cmp p) = relP w p
  | .node k pl mi nt mn mx l, h => by
    unfold okPat at h
    obtain ⟨_, _, _, _, h5, _⟩ := nodeE_zero h.1
    unfold cmp relP
    split
    · unfold relS; rfl
    · split
      · unfold relS; rfl
      · split
        · unfold relS; rfl
        · split
          · unfold relS; exact (altS_cmp w l h.2.2)
          · split
            · rename_i hk
              have hl := (h5 hk).1
              match l, hl, h.2.2 with
              | [q], _, h2 =>
                unfold okPats at h2
                unfold relS oneB
                show repB (relS w (cmp q)) _ _ _ = _
                rw [relS_cmp w q h2.1]
            · unfold relS; exact seqS_cmp w l _ h.2.2
theorem seqS_cmp (w : Wd) : ∀ (l : List Pat) (X : Bin2), okPats l → seqS w (cmpL l) X = seqB w l X
  | [], X, _ => by unfold cmpL seqS seqB; rfl
  | p :: l, X, h => by
    unfold okPats at h
    unfold cmpL seqS seqB
    rw [relS_cmp w p h.1, seqS_cmp w l _ h.2]
theorem altS_cmp (w : Wd) : ∀ (l : List Pat), okPats l → altS w (cmpL l) noB = altB w l
  | [], _ => by unfold cmpL altS altB; rfl
  | p :: l, h => by
    unfold okPats at h
    unfold cmpL altS altB
    rw [no_orB, ← orB_no (relS w (cmp p)), altS_or, relS_cmp w p h.1, altS_cmp w l h.2]
end
end Go.Ab

namespace Go.Ab
open Go.RowKit

/-- The cells of a word. -/
def sndL (w : Wd) : List Value := w.flatMap fun s => [Value.int .u32 (s.1 : Int), Value.int .u32 (s.2 : Int)]
theorem sndL_cons (s : Nat × Nat) (w : Wd) : sndL (s :: w) = .int .u32 (s.1 : Int) :: .int .u32 (s.2 : Int) :: sndL w := rfl
theorem sndL_length (w : Wd) : (sndL w).length = w.length * 2 := by
  induction w with
  | nil => rfl
  | cons s w ih => simp [sndL_cons, ih]; omega
theorem sndL_append (v w : Wd) : sndL (v ++ w) = sndL v ++ sndL w := by simp [sndL]
theorem sndL_get (w : Wd) (i : Nat) (h : i < w.length) : (sndL w)[i * 2]? = some (.int .u32 ((w.getD i (0, 0)).1 : Int)) ∧ (sndL w)[i * 2 + 1]? = some (.int .u32 ((w.getD i (0, 0)).2 : Int)) := by
  induction w generalizing i with
  | nil => simp at h
  | cons s w ih =>
    cases i with
    | zero => simp [sndL_cons]
    | succ i =>
      rw [sndL_cons, show (i + 1) * 2 = i * 2 + 1 + 1 by omega]
      simpa using ih i (by simpa using h)
def WdOk (w : Wd) : Prop := ∀ s ∈ w, s.1 < 4294967296 ∧ s.2 < 4294967296
theorem WdOk.get {w : Wd} (h : WdOk w) (i : Nat) (hi : i < w.length) : (w.getD i (0, 0)).1 < 4294967296 ∧ (w.getD i (0, 0)).2 < 4294967296 := by
  refine h _ ?_
  rw [List.getD_eq_getElem?_getD, List.getElem?_eq_getElem hi]
  exact List.getElem_mem hi
/-- v is this word. -/
def WordAt (W : World) (v : Value) (w : Wd) : Prop := Rd W v w.length 2 (sndL w) ∧ WdOk w
theorem WordAt.ext {A B : World} {v : Value} {w : Wd} (h : WordAt A v w) (ht : Ext A B) : WordAt B v w := ⟨h.1.ext ht, h.2⟩
/-- The cells of one sound. -/
theorem WordAt.at {W : World} {v : Value} {w : Wd} (h : WordAt W v w) {i : Nat} (hi : i < w.length) :
    ∃ g off cap, v = .slice (some ⟨g, off, none⟩) w.length cap ∧ g < W.heap.size ∧ W.cell? ⟨g, off + i * 2, none⟩ = some (.int .u32 ((w.getD i (0, 0)).1 : Int)) ∧ W.cell? ⟨g, off + i * 2 + 1, none⟩ = some (.int .u32 ((w.getD i (0, 0)).2 : Int)) := by
  obtain ⟨⟨h1, h2, ao, cap, hv, h3⟩, h4⟩ := h
  obtain ⟨g, off, ha, hg, hc⟩ := h3 (by omega)
  have e := sndL_get w i hi
  have c1 := hc (i * 2) (by omega)
  have c2 := hc (i * 2 + 1) (by omega)
  rw [List.getD_eq_getElem?_getD, e.1] at c1
  rw [List.getD_eq_getElem?_getD, e.2, ← Nat.add_assoc] at c2
  exact ⟨g, off, cap, by rw [hv, ha], hg, c1, c2⟩
theorem WordAt.slice {W : World} {v : Value} {w : Wd} (h : WordAt W v w) : ∃ ao cap, v = .slice ao w.length cap ∧ w.length ≤ maxLen := by
  obtain ⟨⟨h1, h2, ao, cap, hv, h3⟩, h4⟩ := h
  exact ⟨ao, cap, hv, h2⟩

theorem and_not32 (a b : Nat) (ha : a < 4294967296) (hb : b < 4294967296) : a &&& (4294967295 - b) = 0 ↔ a &&& b = a := by
  have hn : ∀ i, (4294967295 - b).testBit i = (decide (i < 32) && !b.testBit i) := fun i => by
    have := Nat.testBit_two_pow_sub_succ (n := 32) (x := b) (by simpa using hb) i
    simpa using this
  have ha2 : ∀ i, 32 ≤ i → a.testBit i = false := fun i hi => Nat.testBit_lt_two_pow (Nat.lt_of_lt_of_le ha (Nat.pow_le_pow_right (n := 2) (by decide) hi))
  constructor
  · intro h
    apply Nat.eq_of_testBit_eq
    intro i
    have := congrArg (fun v => Nat.testBit v i) h
    simp only [Nat.testBit_and, hn, Nat.zero_testBit] at this
    rw [Nat.testBit_and]
    by_cases hi : i < 32
    · cases q : a.testBit i <;> cases r : b.testBit i <;> simp_all
    · rw [ha2 i (by omega)]; rfl
  · intro h
    apply Nat.eq_of_testBit_eq
    intro i
    have := congrArg (fun v => Nat.testBit v i) h
    simp only [Nat.testBit_and] at this
    rw [Nat.testBit_and, hn, Nat.zero_testBit]
    cases q : a.testBit i <;> cases r : b.testBit i <;> simp_all

theorem sat_bits {s c : Nat × Nat} (h1 : s.1 < 4294967296) (h2 : s.2 < 4294967296) (h3 : c.1 < 4294967296) (h4 : c.2 < 4294967296) :
    (bits .or .u32 (bits .andNot .u32 (c.1 : Int) (s.1 : Int)) (bits .andNot .u32 (c.2 : Int) (s.2 : Int)) == 0) = sat s c := by
  have l1 : c.1 &&& (4294967295 - s.1) < 4294967296 := Nat.lt_of_le_of_lt Nat.and_le_left h3
  have l2 : c.2 &&& (4294967295 - s.2) < 4294967296 := Nat.lt_of_le_of_lt Nat.and_le_left h4
  rw [u32_andNot_nat _ _ h3 h1, u32_andNot_nat _ _ h4 h2, u32_or_nat _ _ l1 l2]
  apply Bool.eq_iff_iff.2
  rw [beq_iff_eq, sat, Bool.and_eq_true, beq_iff_eq, beq_iff_eq, ← and_not32 _ _ h3 h1, ← and_not32 _ _ h4 h2]
  constructor
  · intro h
    have h : (c.1 &&& (4294967295 - s.1) ||| c.2 &&& (4294967295 - s.2)) = 0 := by exact_mod_cast h
    exact Nat.or_eq_zero_iff.1 h
  · intro h
    have : (c.1 &&& (4294967295 - s.1) ||| c.2 &&& (4294967295 - s.2)) = 0 := Nat.or_eq_zero_iff.2 h
    exact_mod_cast this
theorem okSound_bits {a b : Nat} (ha : a < 4294967296) (hb : b < 4294967296) : ((bits .and .u32 (a : Int) (b : Int) == 0) = (a &&& b == 0)) ∧ bits .or .u32 (a : Int) (b : Int) = ((a ||| b : Nat) : Int) := by
  rw [u32_and_nat _ _ ha hb, u32_or_nat _ _ ha hb]
  refine ⟨?_, rfl⟩
  apply Bool.eq_iff_iff.2
  rw [beq_iff_eq, beq_iff_eq]
  exact ⟨fun h => by exact_mod_cast h, fun h => by rw [h]; rfl⟩
end Go.Ab
