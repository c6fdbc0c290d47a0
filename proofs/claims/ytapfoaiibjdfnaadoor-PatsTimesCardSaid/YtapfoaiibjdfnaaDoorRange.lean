/- What a call turns ('Turn'); a range over a function whose iterator keeps a state of its own in cells; the marks among the deferred calls. No program is named. -/
import Derived.RangeFuncNested
import Derived.RangeFuncLeaves
import Derived.RangeFuncCalls
import Derived.WalkKit
import Derived.OwnWalkIn
import Derived.TacticsInMore
import Derived.LoopNIn
import Derived.LoopIn
import Derived.Deep.QuietTactic
import Derived.BigQuiet
namespace Go.Ab
open Go.RowKit

/-- All blocks of A but those in S lie in B as they lay; the streams are as they were. -/
structure Turn (S : Nat → Prop) (A B : World) : Prop where
  os : B.os = A.os
  tape : B.tape = A.tape
  output : B.output = A.output
  size : A.heap.size ≤ B.heap.size
  block : ∀ b, b < A.heap.size → ¬ S b → B.heap[b]? = A.heap[b]?

theorem Turn.refl (S : Nat → Prop) (A : World) : Turn S A A := ⟨rfl, rfl, rfl, Nat.le_refl _, fun _ _ _ => rfl⟩
theorem Turn.trans {S : Nat → Prop} {A B C : World} (h : Turn S A B) (k : Turn S B C) : Turn S A C :=
  ⟨k.os.trans h.os, k.tape.trans h.tape, k.output.trans h.output, Nat.le_trans h.size k.size,
    fun b hb hS => (k.block b (Nat.lt_of_lt_of_le hb h.size) hS).trans (h.block b hb hS)⟩
theorem Turn.mono {S T : Nat → Prop} {A B : World} (h : Turn S A B) (hst : ∀ b, b < A.heap.size → S b → T b) : Turn T A B :=
  ⟨h.os, h.tape, h.output, h.size, fun b hb hT => h.block b hb fun hs => hT (hst b hb hs)⟩
theorem Turn.heap {S : Nat → Prop} {A B : World} (h : Turn S A B) {b : Nat} {o : Obj} (hb : A.heap[b]? = some o) (hS : ¬ S b) : B.heap[b]? = some o :=
  (h.block b (Array.getElem?_eq_some_iff.1 hb).1 hS).trans hb
theorem Turn.cell {S : Nat → Prop} {A B : World} (h : Turn S A B) {p : Addr} (hb : p.block < A.heap.size) (hS : ¬ S p.block) : B.cell? p = A.cell? p :=
  World.cell?_of_block (w := A) (h.block p.block hb hS)
theorem Turn.cell_some {S : Nat → Prop} {A B : World} (h : Turn S A B) {p : Addr} {v : Value} (hc : A.cell? p = some v) (hS : ¬ S p.block) : B.cell? p = some v := by
  have hb : p.block < A.heap.size := by
    apply Nat.lt_of_not_le; intro hle
    simp [World.cell?, Array.getElem?_eq_none hle] at hc
  rw [h.cell hb hS]; exact hc
theorem Turn.frozen {S : Nat → Prop} {A B : World} (h : Turn S A B) {p : Addr} (hb : p.block < A.heap.size) (hS : ¬ S p.block) : B.frozen? p = A.frozen? p :=
  World.frozen?_of_block (w := A) (h.block p.block hb hS)
theorem Turn.alloc {S : Nat → Prop} {A B : World} (h : Turn S A B) (o : Obj) : Turn S A (B.alloc o) :=
  h.trans ⟨rfl, rfl, rfl, by simp, fun b hb _ => Below.heap_alloc _ _ _ hb⟩
theorem Turn.drew {S : Nat → Prop} {A B : World} (h : Turn S A B) : Turn S A B.drew := ⟨h.os, h.tape, h.output, h.size, h.block⟩
theorem Turn.drewN {S : Nat → Prop} {A B : World} (h : Turn S A B) (n : Nat) : Turn S A (B.drewN n) := ⟨h.os, h.tape, h.output, h.size, h.block⟩
theorem Turn.setCell {S : Nat → Prop} {A B : World} (h : Turn S A B) {p : Addr} (hp : A.heap.size ≤ p.block ∨ S p.block) (u : Value) : Turn S A (B.setCell p u) :=
  ⟨h.os, h.tape, h.output, by simpa [World.setCell] using h.size, fun b hb hS => by
    rw [Below.heap_setCell _ _ _ _ (by rintro rfl; rcases hp with hp | hp; omega; exact hS hp)]
    exact h.block b hb hS⟩
theorem Turn.set1 (A : World) (b o : Nat) (v : Value) : Turn (fun x => x = b) A (A.setCell ⟨b, o, none⟩ v) := (Turn.refl (fun x => x = b) A).setCell (p := ⟨b, o, none⟩) (.inr rfl) v
theorem Turn.putObj {S : Nat → Prop} {A B : World} (h : Turn S A B) {r : Nat} (hp : A.heap.size ≤ r ∨ S r) (o : Obj) : Turn S A (B.putObj r o) :=
  ⟨h.os, h.tape, h.output, by simpa using h.size, fun b hb hS => by
    rw [World.putObj_heap_other (by rintro rfl; rcases hp with hp | hp; omega; exact hS hp)]
    exact h.block b hb hS⟩
theorem Turn.below {S : Nat → Prop} {A B : World} (h : Turn S A B) (hS : ∀ b, b < A.heap.size → ¬ S b) : Below A.heap.size A B :=
  ⟨h.os, h.tape, h.output, h.size, fun b hb => h.block b hb (hS b hb)⟩
theorem Turn.of_below {S : Nat → Prop} {A B : World} {n : Nat} (h : Below n A B) (hn : ∀ b, b < A.heap.size → n ≤ b → S b) : Turn S A B :=
  ⟨h.os, h.tape, h.output, h.size, fun b hb hS => h.block b (by apply Nat.lt_of_not_le; intro hle; exact hS (hn b hb hle))⟩
theorem Turn.grown {S : Nat → Prop} {A B C : World} {row : Option Nat} (h : Turn S A B) (hg : B.grownBy C row) (hr : ∀ k, row = some k → A.heap.size ≤ k ∨ S k) : Turn S A C :=
  ⟨hg.os.trans h.os, hg.tape.trans h.tape, hg.output.trans h.output, Nat.le_trans h.size hg.size, fun b hb hS => by
    rw [hg.block b (Nat.lt_of_lt_of_le hb h.size) (fun e => by rcases hr b e.symm with hh | hh; omega; exact hS hh)]
    exact h.block b hb hS⟩

/-- Nothing that was there has turned. -/
abbrev Ext (A B : World) : Prop := Turn (fun _ => False) A B
theorem Ext.of {S : Nat → Prop} {A B : World} (h : Ext A B) : Turn S A B := h.mono fun _ _ h => h.elim
theorem Ext.keep {A B : World} (h : Ext A B) {b : Nat} {o : Obj} (hb : A.heap[b]? = some o) : B.heap[b]? = some o := Turn.heap h hb (fun h => h)

/-- Two steps: what the second turns lies beyond w, or was turned by the first. -/
theorem Turn.after {S T : Nat → Prop} {w A B : World} (h : Turn S w A) (k : Turn T A B) (hT : ∀ b, b < w.heap.size → T b → S b) : Turn S w B :=
  ⟨k.os.trans h.os, k.tape.trans h.tape, k.output.trans h.output, Nat.le_trans h.size k.size,
    fun b hb hS => (k.block b (Nat.lt_of_lt_of_le hb h.size) fun ht => hS (hT b hb ht)).trans (h.block b hb hS)⟩

theorem ret_bool {a b : Bool} (h : a = b) : Ending.returned (.bool a) = .returned (.bool b) := by rw [h]
theorem ret_int {k : IntKind} {a b : Int} (h : a = b) : Ending.returned (.int k a) = .returned (.int k b) := by rw [h]
theorem ret_val {a b : Value} (h : a = b) : Ending.returned a = .returned b := by rw [h]

theorem new_at {A : World} {n : Nat} {o : Obj} (h : n = A.heap.size) : (A.alloc o).heap[n]? = some o := by subst h; exact World.alloc_heap_new _ _
theorem new_keep {A : World} {n : Nat} {o o' : Obj} (h : A.heap[n]? = some o') : (A.alloc o).heap[n]? = some o' :=
  (Below.heap_alloc _ _ _ (Array.getElem?_eq_some_iff.1 h).1).trans h
theorem drew_keep {A : World} {n : Nat} {o : Obj} (h : A.heap[n]? = some o) : A.drew.heap[n]? = some o := h
theorem set_keep {A : World} {n : Nat} {a : Addr} {v : Value} {o : Obj} (h : A.heap[n]? = some o) (hn : n ≠ a.block) : (A.setCell a v).heap[n]? = some o :=
  (Below.heap_setCell _ _ _ _ hn).trans h

theorem wide_fn (f : FuncId) : Fence.wide.fn f = True := rfl
theorem wide_depth : Fence.wide.depth = none := rfl

theorem u64_or_shl (a x : Nat) (ha : a < 18446744073709551616) (hx : x < 64) : bits .or .u64 (a : Int) (IntKind.u64.wrap (2 ^ x)) = ((a ||| 2 ^ x : Nat) : Int) := by
  have h1 : 2 ^ x < 18446744073709551616 := by
    have := Nat.pow_lt_pow_right (a := 2) (by decide) hx
    simpa using this
  have e : IntKind.u64.wrap (2 ^ x) = ((2 ^ x : Nat) : Int) := by
    rw [IntKind.wrap_u64]
    have e : ((2 : Int) ^ x) = ((2 ^ x : Nat) : Int) := by simp
    rw [e]
    generalize 2 ^ x = p at h1
    omega
  rw [e, u64_or_nat _ _ ha h1]

/-! ### The marks among the deferred calls -/

/-- Every deferred call is the mark of a loop whose block of calls lies empty, at or beyond base; no block twice. -/
def Marks (base : Nat) : List Deferred → World → Prop
  | [], _ => True
  | d :: ds, w => ∃ r, base ≤ r ∧ d = { target := .collected r, args := #[] } ∧ w.heap[r]? = some (.deferred (some [])) ∧ (∀ e ∈ ds, e.target ≠ .collected r) ∧ Marks base ds w

theorem Marks.keep {base : Nat} {S : Nat → Prop} : ∀ {ds : List Deferred} {A B : World}, Marks base ds A → Turn S A B → (∀ b, S b → ∀ o, A.heap[b]? = some o → o.isCells = true) → Marks base ds B
  | [], _, _, _, _, _ => trivial
  | d :: ds, A, B, ⟨r, h1, h2, h3, h4, h5⟩, ht, hS =>
    ⟨r, h1, h2, ht.heap h3 (fun hs => by have := hS r hs _ h3; simp [Obj.isCells] at this), h4, h5.keep ht hS⟩

/-- Behind turns of blocks that are not among the marks'. -/
theorem Marks.keep' {base : Nat} {S : Nat → Prop} : ∀ {ds : List Deferred} {A B : World}, Marks base ds A → Turn S A B → (∀ b, S b → ∀ e ∈ ds, e.target ≠ .collected b) → Marks base ds B
  | [], _, _, _, _, _ => trivial
  | d :: ds, A, B, ⟨r, h1, h2, h3, h4, h5⟩, ht, hS =>
    ⟨r, h1, h2, ht.heap h3 (fun hs => hS r hs d (List.mem_cons_self ..) (by rw [h2])), h4, h5.keep' ht (fun b hb e he => hS b hb e (List.mem_cons_of_mem _ he))⟩

theorem Marks.lt {base : Nat} : ∀ {ds : List Deferred} {A : World}, Marks base ds A → ∀ e ∈ ds, ∀ r, e.target = .collected r → r < A.heap.size
  | [], _, _, _, he, _, _ => by cases he
  | d :: ds, A, ⟨r, h1, h2, h3, h4, h5⟩, e, he, q, hq => by
    rcases List.mem_cons.1 he with rfl | he
    · rw [h2] at hq; simp at hq; subst hq; exact (Array.getElem?_eq_some_iff.1 h3).1
    · exact h5.lt e he q hq

theorem Marks.keepC {base N : Nat} {S : Nat → Prop} {ds : List Deferred} {A B : World} (h : Marks base ds A) (hN : ∀ e ∈ ds, ∀ r, e.target = .collected r → r < N) (ht : Turn S A B)
    (hS : ∀ b, S b → N ≤ b ∨ A.heap.size ≤ b ∨ ∃ o, A.heap[b]? = some o ∧ o.isCells = true) : Marks base ds B := by
  have aux : ∀ (ds : List Deferred), (∀ e ∈ ds, ∀ r, e.target = .collected r → r < N) → Marks base ds A → Marks base ds B := by
    intro ds
    induction ds with
    | nil => intro _ _; trivial
    | cons d ds ih =>
      rintro hN ⟨r, h1, h2, h3, h4, h5⟩
      refine ⟨r, h1, h2, ht.heap h3 (fun hs => ?_), h4, ih (fun e he => hN e (List.mem_cons_of_mem _ he)) h5⟩
      rcases hS r hs with h | h | ⟨o, ho, hc⟩
      · have := hN d (List.mem_cons_self ..) r (by rw [h2]); omega
      · have := (Array.getElem?_eq_some_iff.1 h3).1; omega
      · rw [h3] at ho; cases ho; simp [Obj.isCells] at hc
  exact aux ds hN h
theorem Marks.fresh {base : Nat} {ds : List Deferred} {A : World} {r : Nat} (h : Marks base ds A) (hr : A.heap.size ≤ r) : ∀ e ∈ ds, e.target ≠ .collected r := fun e he ht => by
  have := h.lt e he r ht; omega

theorem Marks.cons {base : Nat} {ds : List Deferred} {A : World} {r : Nat} (h : Marks base ds A) (hb : base ≤ r) (hr : A.heap[r]? = some (.deferred (some []))) (hn : ∀ e ∈ ds, e.target ≠ .collected r) :
    Marks base ({ target := .collected r, args := #[] } :: ds) A := ⟨r, hb, rfl, hr, hn, h⟩

/-- What the marks' closing turns: blocks from base on that are no cells. -/
def Shut (base : Nat) (w : World) (b : Nat) : Prop := base ≤ b ∧ ∀ o, w.heap[b]? = some o → o.isCells = false
theorem Shut.not {base : Nat} {w : World} {b : Nat} {o : Obj} (hb : w.heap[b]? = some o) (ho : o.isCells = true) : ¬ Shut base w b := fun h => by
  have := h.2 o hb; rw [ho] at this; cases this

theorem leavesM {P : Program} {fn : Func} {tmps : Array Value} {R : Ending → World → Prop} {v : Value} {base : Nat} :
    ∀ (ds : List Deferred) (w : World), Marks base ds w → (∀ w', Turn (Shut base w) w w' → w'.heap.size = w.heap.size → (results fn tmps).run P w' = .ok v w' ∧ R (.returned v) w') →
      LeavesInM Fence.wide 0 P fn tmps R ds .returning w
  | [], w, _, h => by
    obtain ⟨h1, h2⟩ := h w (Turn.refl _ _) rfl
    exact ⟨v, h1, h2⟩
  | d :: ds, w, ⟨r, hb, hd, hr, hn, hm⟩, h => by
    refine ⟨by simp, .inl ⟨r, _, by rw [hd], run_takeDeferred hr, ?_⟩⟩
    refine leavesM (v := v) ds _ (hm.keep' (S := (· = r)) ((Turn.refl (· = r) w).putObj (.inr rfl) _) (fun b e => by subst e; exact hn)) ?_
    intro w' ht hs
    have hput : Turn (Shut base w) w (w.putObj r (.deferred none)) := (Turn.refl _ w).putObj (.inr ⟨hb, fun o ho => by rw [hr] at ho; cases ho; rfl⟩) _
    refine h w' (hput.after ht fun b hlt hsh => ?_) (by rw [hs]; simp)
    refine ⟨hsh.1, fun o ho => ?_⟩
    by_cases hbr : b = r
    · subst hbr; rw [hr] at ho; cases ho; rfl
    · exact hsh.2 o (by rw [World.putObj_heap_other hbr]; exact ho)

/-- A function's contract from its body, where marks may stand among its deferred calls. -/
theorem calls_of_wp_marks {P : Program} {f : FuncId} {fn : Func} {c : Code} {args : Array Value} {w : World} {R : Ending → World → Prop}
    (hf : P.funcs[f]? = some fn) (hb : fn.body = some c)
    (h : c.wp P (bodyPostM Fence.wide 0 P fn R) { tmps := args ++ Array.replicate (fn.ntmps - args.size) undef, defers := [] } w) : Calls P f args w R :=
  callsIn_wide.1 (callsIn_of_wp_marks (n := 0) hf hb trivial (wpIn_wide.2 h))

theorem bodyPostM_ret {P : Program} {fn : Func} {R : Ending → World → Prop} {a : Act} {w : World} {v : Value} {base : Nat} (hm : Marks base a.defers w)
    (hr : ∀ w', (results fn a.tmps).run P w' = .ok v w') (hR : ∀ w', Turn (Shut base w) w w' → w'.heap.size = w.heap.size → R (.returned v) w') :
    bodyPostM Fence.wide 0 P fn R .ret a w := leavesM _ _ hm fun w' ht hs => ⟨hr w', hR w' ht hs⟩

theorem bodyPostM_end {P : Program} {fn : Func} {R : Ending → World → Prop} {a : Act} {w : World} {v : Value} {base : Nat} (hm : Marks base a.defers w)
    (hr : ∀ w', (results fn a.tmps).run P w' = .ok v w') (hR : ∀ w', Turn (Shut base w) w w' → w'.heap.size = w.heap.size → R (.returned v) w') :
    bodyPostM Fence.wide 0 P fn R .normal a w := leavesM _ _ hm fun w' ht hs => ⟨hr w', hR w' ht hs⟩

/-- A frame, by a function of its slots. -/
theorem frame_fun {t : Array Value} {n : Nat} (h : t.size = n) : ∃ u : Nat → Value, t = ((List.range n).map u).toArray :=
  ⟨fun i => t.getD i undef, by
    apply Array.ext
    · simp [h]
    · intro i h1 h2
      simp [Array.getD, h1]⟩

/-! ### An iterator, by what it does to yield -/

/-- THE ITERATOR gf, with what it has captured, hands out xs in their order. S: the blocks that it turns itself; K: those that a round must leave as they lie. -/
def Iter {α : Type} (P : Program) (gf : Nat) (lb : Array Value) (encs : α → Array Value) (xs : List α) (S K : Nat → Prop) (w : World) : Prop :=
  ∀ (l : Nat) (J Jx : List α → World → Prop) (W : World), Turn (fun b => ¬ K b) w W →
    (∀ pre A B, J pre A → Turn S A B → J pre B) → (∀ pre A B, Jx pre A → Turn S A B → Jx pre B) →
    (∀ pre x rest A, xs = pre ++ x :: rest → J pre A → YieldAt Fence.wide 0 P l (encs x) A fun e B =>
      (e = .returned (.bool true) ∧ J (pre ++ [x]) B ∧ Turn (fun b => ¬ K b) A B) ∨ (e = .returned (.bool false) ∧ Jx (pre ++ [x]) B)) →
    J [] W →
    Calls P gf (#[.func (.yield l) #[] #[]] ++ lb) W fun e B => (∃ v, e = .returned v) ∧ (J xs B ∨ ∃ pre x rest, xs = pre ++ x :: rest ∧ Jx (pre ++ [x]) B)

/-- HOW THE BODY OF A ROUND MAY BE LEFT. -/
def roundQ {α : Type} (K : Nat → Prop) (I : List α → World → Prop) (Ix : Code → List α → World → Prop) (xs : List α) (W : World) : Exit → Act → World → Prop
  | .normal, _, W' => Turn (fun b => ¬ K b) W W' ∧ I xs W'
  | .ret, _, W' => Turn (fun b => ¬ K b) W W' ∧ Ix .ret xs W'
  | .exit id, _, W' => Turn (fun b => ¬ K b) W W' ∧ Ix (.exit id) xs W'
  | .goto t, _, W' => Turn (fun b => ¬ K b) W W' ∧ Ix (.goto t) xs W'
  | .panic _, _, _ => False
  | .outgrown, _, _ => False

/-- 'for x := range seq { .. }'. D: the block of the rounds' deferred calls; D + 1: the loop's record. The body keeps K, D and D + 1; I abides what the iterator turns, the record's turns, new blocks. -/
theorem wp_range {α : Type} {P : Program} {g : Operand} {ps : Array Tmp} {assign body : Code} {Q : Exit → Act → World → Prop} {a : Act} {w : World}
    {gf : Nat} {lb : Array Value} (hg : a.eval g = .func (.func gf) #[] lb) (eg : ∀ args w, (callFunc gf args).run P w = .ok (.enter gf args) w)
    {encs : α → Array Value} {xs : List α} {S K : Nat → Prop} (hseq : Iter P gf lb encs xs S K w) (hSK : ∀ b, S b → K b) (hK : ∀ b, K b → b < w.heap.size) (hps : ∀ x, (encs x).size = ps.size)
    (I : List α → World → Prop) (Ix : Code → List α → World → Prop)
    (hI : ∀ pre A B, I pre A → Turn (fun b => S b ∨ b = w.heap.size + 1) A B → I pre B)
    (hIx : ∀ c pre A B, Ix c pre A → Turn (fun b => S b ∨ b = w.heap.size + 1) A B → Ix c pre B)
    (h0 : ∀ W, Ext w W → W.heap.size = w.heap.size + 2 → I [] W) (up : α → Array Value → Array Value)
    (hassign : ∀ (x : α) (W : World) (Kn : Act → World → Prop), Kn { tmps := up x a.tmps, defers := [] } W →
      assign.wpIn (Fence.wide.inRound (w.heap.size + 1)) 0 P (Exit.then Kn (fun _ _ _ => False)) { tmps := (ps.zip (encs x)).foldl (fun t (p, v) => t.setIfInBounds p v) a.tmps, defers := [] } W)
    (hbody : ∀ (pre : List α) (x : α) (rest : List α) (W : World), xs = pre ++ x :: rest → w.heap.size + 2 ≤ W.heap.size → Turn (fun b => ¬ K b ∨ S b) w W → I pre W →
      body.wpIn (Fence.wide.inRound (w.heap.size + 1)) 0 P (roundQ (fun b => K b ∨ b = w.heap.size ∨ b = w.heap.size + 1) I Ix (pre ++ [x]) W) { tmps := up x a.tmps, defers := [] } W)
    (hdone : ∀ W, I xs W → Turn (fun b => ¬ K b ∨ S b) w W → W.heap[w.heap.size]? = some (.deferred (some [])) → Q .normal { a with defers := { target := .collected w.heap.size, args := #[] } :: a.defers } W)
    (hstop : ∀ c pre x rest W, xs = pre ++ x :: rest → Ix c (pre ++ [x]) W → W.heap[w.heap.size]? = some (.deferred (some [])) → c.wp P Q { a with defers := { target := .collected w.heap.size, args := #[] } :: a.defers } W) :
    (Code.rangeFunc g ps assign body).wp P Q a w := by
  refine (wpIn_wide (n := 0)).1 (wpIn_rangeFunc ?_)
  intro fn _
  obtain ⟨rec, hrec⟩ : ∃ rec : LoopState → Option Code → Loop, rec = fun st pe => { state := st, pending := pe, fn, tmps := a.tmps, params := ps, assign, body, defers := w.heap.size } := ⟨_, rfl⟩
  obtain ⟨W1, hW1⟩ : ∃ W1, (w.alloc (.deferred (some []))).alloc (.loop (rec .ready none)) = W1 := ⟨_, rfl⟩
  have hL1 : W1.heap[w.heap.size + 1]? = some (.loop (rec .ready none)) := by
    rw [← hW1]; have := World.alloc_heap_new (w.alloc (.deferred (some []))) (.loop (rec .ready none)); rwa [World.size_alloc] at this
  have hD1 : W1.heap[w.heap.size]? = some (.deferred (some [])) := by
    rw [← hW1]; exact (Below.heap_alloc _ _ _ (by simp)).trans (World.alloc_heap_new w _)
  have hE1 : Ext w W1 := by rw [← hW1]; exact ((Turn.refl _ w).alloc _).alloc _
  have hs1 : W1.heap.size = w.heap.size + 2 := by rw [← hW1]; simp
  have hnl : ∀ b, S b → b ≠ w.heap.size + 1 ∧ b ≠ w.heap.size := fun b hb => by have := hK b (hSK b hb); omega
  refine ⟨w.heap.size + 1, [{ target := .collected w.heap.size, args := #[] }], W1, { target := .fn (.func gf) lb, args := #[.func (.yield (w.heap.size + 1)) #[] #[]] }, W1, gf,
    #[.func (.yield (w.heap.size + 1)) #[] #[]] ++ lb, W1, ?_, ?_, fun _ _ => trivial, ?_, fun h => by simp [Fence.wide] at h, ?_⟩
  · rw [← hW1, hrec]; exact run_enterLoop_outer _ _ _ _ _
  · simp only [resolve, hg]
    simp [go_sem]
  · simp [invoke, go_sem, eg]
  · refine callsIn_wide.2 ((hseq (w.heap.size + 1)
      (fun pre W => I pre W ∧ W.heap[w.heap.size + 1]? = some (.loop (rec .ready none)) ∧ W.heap[w.heap.size]? = some (.deferred (some [])) ∧ Turn (fun b => ¬ K b ∨ S b) w W ∧ w.heap.size + 2 ≤ W.heap.size)
      (fun pre W => ∃ c, Ix c pre W ∧ W.heap[w.heap.size + 1]? = some (.loop (rec .done (some c))) ∧ W.heap[w.heap.size]? = some (.deferred (some [])))
      W1 hE1.of ?_ ?_ ?_ ⟨h0 _ hE1 hs1, hL1, hD1, hE1.of, by omega⟩).mono ?_)
    · rintro pre A B ⟨h1, h2, h3, h4, h5⟩ ht
      exact ⟨hI _ _ _ h1 (ht.mono fun b _ hb => .inl hb), ht.heap h2 (fun hb => (hnl _ hb).1 rfl), ht.heap h3 (fun hb => (hnl _ hb).2 rfl), h4.after ht (fun b _ hb => .inr hb), Nat.le_trans h5 ht.size⟩
    · rintro pre A B ⟨c, h1, h2, h3⟩ ht
      exact ⟨c, hIx _ _ _ _ h1 (ht.mono fun b _ hb => .inl hb), ht.heap h2 (fun hb => (hnl _ hb).1 rfl), ht.heap h3 (fun hb => (hnl _ hb).2 rfl)⟩
    · -- one round
      rintro pre x rest W hx ⟨hi, hl, hd, ht, hsz⟩
      have hlt : w.heap.size + 1 < W.heap.size := by omega
      have hy := run_yield (P := P) (args := encs x) hl (by rw [hrec]; exact hps x)
      rw [hrec] at hy
      refine ⟨fn, _, assign, body, hy, roundIn_of_wpIn trivial (hassign x W _ ?_)⟩
      clear hy
      refine ⟨_, run_beginRound hl (by rw [hrec]), ?_⟩
      have hl2 : (W.putObj (w.heap.size + 1) (.loop { rec .ready none with state := .busy })).heap[w.heap.size + 1]? = some (.loop { rec .ready none with state := .busy }) := World.putObj_heap_same hlt
      have hd2 : (W.putObj (w.heap.size + 1) (.loop { rec .ready none with state := .busy })).heap[w.heap.size]? = some (.deferred (some [])) := (World.putObj_heap_other (by omega)).trans hd
      have hput : ∀ (X : World) o, Turn (fun b => S b ∨ b = w.heap.size + 1) X (X.putObj (w.heap.size + 1) o) := fun X o => (Turn.refl _ X).putObj (.inr (.inr rfl)) o
      have hputK : ∀ (X : World) o, Turn (fun b => ¬ K b) X (X.putObj (w.heap.size + 1) o) := fun X o => (Turn.refl _ X).putObj (.inr (fun hk => by have := hK _ hk; omega)) o
      refine wpIn_mono (hbody pre x rest _ hx (by simpa using hsz) (ht.after (hputK W _) (fun b _ hb => .inl hb)) (hI _ _ _ hi (hput W _))) ?_
      have fin : ∀ (jump : Option Code) (W3 : World), Turn (fun b => ¬ (K b ∨ b = w.heap.size ∨ b = w.heap.size + 1)) (W.putObj (w.heap.size + 1) (.loop { rec .ready none with state := .busy })) W3 →
          (Instr.endRound (w.heap.size + 1) jump).run P W3 = .ok (.bool jump.isNone) (W3.putObj (w.heap.size + 1) (.loop (rec (if jump.isNone then .ready else .done) jump))) ∧
          (W3.putObj (w.heap.size + 1) (.loop (rec (if jump.isNone then .ready else .done) jump))).heap[w.heap.size + 1]? = some (.loop (rec (if jump.isNone then .ready else .done) jump)) ∧
          (W3.putObj (w.heap.size + 1) (.loop (rec (if jump.isNone then .ready else .done) jump))).heap[w.heap.size]? = some (.deferred (some [])) ∧
          Turn (fun b => ¬ K b) W (W3.putObj (w.heap.size + 1) (.loop (rec (if jump.isNone then .ready else .done) jump))) := fun jump W3 hk3 => by
        have hl3 := hk3.heap hl2 (fun h => h (.inr (.inr rfl)))
        have hd3 := hk3.heap hd2 (fun h => h (.inr (.inl rfl)))
        have := run_endRound (P := P) jump hl3
        rw [hrec] at this ⊢
        refine ⟨this, World.putObj_heap_same (Array.getElem?_eq_some_iff.1 hl3).1, (World.putObj_heap_other (by omega)).trans hd3, ?_⟩
        exact ((hputK W _).trans (hk3.mono fun b _ hb hk => hb (.inl hk))).trans (hputK W3 _)
      rintro e a3 W3 hp
      cases e with
      | normal =>
        obtain ⟨hk3, hi3⟩ := hp
        obtain ⟨hr, hl4, hd4, ht4⟩ := fin none W3 hk3
        exact ⟨_, _, hr, .inl ⟨rfl, ⟨hI _ _ _ hi3 (hput W3 _), hl4, hd4, ht.after ht4 (fun b _ hb => .inl hb), Nat.le_trans hsz ht4.size⟩, ht4⟩⟩
      | ret =>
        obtain ⟨hk3, hi3⟩ := hp
        obtain ⟨hr, hl4, hd4, ht4⟩ := fin (some .ret) W3 hk3
        exact ⟨_, _, hr, .inr ⟨rfl, .ret, hIx _ _ _ _ hi3 (hput W3 _), hl4, hd4⟩⟩
      | exit id =>
        obtain ⟨hk3, hi3⟩ := hp
        obtain ⟨hr, hl4, hd4, ht4⟩ := fin (some (.exit id)) W3 hk3
        exact ⟨_, _, hr, .inr ⟨rfl, .exit id, hIx _ _ _ _ hi3 (hput W3 _), hl4, hd4⟩⟩
      | goto t =>
        obtain ⟨hk3, hi3⟩ := hp
        obtain ⟨hr, hl4, hd4, ht4⟩ := fin (some (.goto t)) W3 hk3
        exact ⟨_, _, hr, .inr ⟨rfl, .goto t, hIx _ _ _ _ hi3 (hput W3 _), hl4, hd4⟩⟩
      | panic ch => exact hp.elim
      | outgrown => exact hp.elim
    · -- behind the iterator
      have hput : ∀ (X : World) o, Turn (fun b => S b ∨ b = w.heap.size + 1) X (X.putObj (w.heap.size + 1) o) := fun X o => (Turn.refl _ X).putObj (.inr (.inr rfl)) o
      rintro e W2 ⟨⟨v, rfl⟩, (⟨hi, hl, hd, ht, hsz⟩ | ⟨pre, x, rest, hx, c, hi, hl, hd⟩)⟩
      · refine ⟨none, _, by have := run_endLoop (P := P) hl (by rw [hrec]; simp); rw [hrec] at this; exact this, ?_⟩
        exact hdone _ (hI _ _ _ hi (hput W2 _)) (ht.putObj (.inl (by omega)) _) ((World.putObj_heap_other (by omega)).trans hd)
      · refine ⟨some c, _, by have := run_endLoop (P := P) hl (by rw [hrec]; simp); rw [hrec] at this; exact this, ?_⟩
        exact (wpIn_wide (n := 0)).2 (hstop c pre x rest _ hx (hIx _ _ _ _ hi (hput W2 _)) ((World.putObj_heap_other (by omega)).trans hd))
end Go.Ab
