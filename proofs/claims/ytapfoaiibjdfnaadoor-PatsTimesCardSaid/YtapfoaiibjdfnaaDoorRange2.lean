/- A range over a function whose loop variables are boxed. No program is named. -/
import Derived.Test.YtapfoaiibjdfnaaDoorBridge
namespace Go.Ab
open Go.RowKit

/-- The same, where the assignment to the loop's variables lays blocks (a variable that is boxed). D: the block of the rounds' deferred calls; D + 1: the loop's record. The body keeps K, D and D + 1; I abides what the iterator turns, the record's turns, new blocks. -/
theorem wp_range2 {α : Type} {P : Program} {g : Operand} {ps : Array Tmp} {assign body : Code} {Q : Exit → Act → World → Prop} {a : Act} {w : World}
    {gf : Nat} {lb : Array Value} (hg : a.eval g = .func (.func gf) #[] lb) (eg : ∀ args w, (callFunc gf args).run P w = .ok (.enter gf args) w)
    {encs : α → Array Value} {xs : List α} {S K : Nat → Prop} (hseq : Iter P gf lb encs xs S K w) (hSK : ∀ b, S b → K b) (hK : ∀ b, K b → b < w.heap.size) (hps : ∀ x, (encs x).size = ps.size)
    (I : List α → World → Prop) (Ix : Code → List α → World → Prop)
    (hI : ∀ pre A B, I pre A → Turn (fun b => S b ∨ b = w.heap.size + 1) A B → I pre B)
    (hIx : ∀ c pre A B, Ix c pre A → Turn (fun b => S b ∨ b = w.heap.size + 1) A B → Ix c pre B)
    (h0 : ∀ W, Ext w W → W.heap.size = w.heap.size + 2 → I [] W) (Ax : α → Act → World → Prop) (hAx : ∀ x a' A B, Ax x a' A → Turn (fun b => b = w.heap.size + 1) A B → Ax x a' B)
    (hassign : ∀ (pre : List α) (x : α) (W : World) (Kn : Act → World → Prop), x ∈ xs → I pre W → w.heap.size + 2 ≤ W.heap.size → (∀ a' W', Ext W W' → Ax x a' W' → Kn a' W') →
      assign.wpIn (Fence.wide.inRound (w.heap.size + 1)) 0 P (Exit.then Kn (fun _ _ _ => False)) { tmps := (ps.zip (encs x)).foldl (fun t (p, v) => t.setIfInBounds p v) a.tmps, defers := [] } W)
    (hbody : ∀ (pre : List α) (x : α) (rest : List α) (a' : Act) (W : World), xs = pre ++ x :: rest → w.heap.size + 2 ≤ W.heap.size → Turn (fun b => ¬ K b ∨ S b) w W → I pre W → Ax x a' W →
      body.wpIn (Fence.wide.inRound (w.heap.size + 1)) 0 P (roundQ (fun b => K b ∨ b = w.heap.size ∨ b = w.heap.size + 1) I Ix (pre ++ [x]) W) a' W)
    (hdone : ∀ W, I xs W → Turn (fun b => ¬ K b ∨ S b) w W → W.heap[w.heap.size]? = some (.deferred (some [])) → Q .normal { a with defers := { target := .collected w.heap.size, args := #[] } :: a.defers } W)
    (hstop : ∀ c pre x rest W, xs = pre ++ x :: rest → Ix c (pre ++ [x]) W → W.heap[w.heap.size]? = some (.deferred (some [])) → c.wp P Q { a with defers := { target := .collected w.heap.size, args := #[] } :: a.defers } W) :
    (Code.rangeFunc g ps assign body).wp P Q a w := by
  refine (wpIn_wide (n := 0)).1 (wpIn_rangeFunc ?_)
  intro fn _
  obtain ⟨rec, hrec⟩ : ∃ rec : LoopState → Option Code → Loop, rec = fun st pe => { state := st, pending := pe, fn, tmps := a.tmps, params := ps, assign, body, defers := w.heap.size } := ⟨_, rfl⟩
  obtain ⟨W1, hW1⟩ : ∃ W1, (w.alloc (.deferred (some []))).alloc (.loop (rec .ready none)) = W1 := ⟨_, rfl⟩
  have hL1 : W1.heap[w.heap.size + 1]? = some (.loop (rec .ready none)) := by
    rw [← hW1]; have := World.alloc_heap_new (w.alloc (.deferred (some []))) (.loop (rec .ready none)); rwa [World.size_alloc] at this
  have hD1 : W1.heap[w.heap.size]? = some (.deferred (some [])) := by
    rw [← hW1]; exact (Below.heap_alloc _ _ _ (by simp)).trans (World.alloc_heap_new w _)
  have hE1 : Ext w W1 := by rw [← hW1]; exact ((Turn.refl _ w).alloc _).alloc _
  have hs1 : W1.heap.size = w.heap.size + 2 := by rw [← hW1]; simp
  have hnl : ∀ b, S b → b ≠ w.heap.size + 1 ∧ b ≠ w.heap.size := fun b hb => by have := hK b (hSK b hb); omega
  refine ⟨w.heap.size + 1, [{ target := .collected w.heap.size, args := #[] }], W1, { target := .fn (.func gf) lb, args := #[.func (.yield (w.heap.size + 1)) #[] #[]] }, W1, gf,
    #[.func (.yield (w.heap.size + 1)) #[] #[]] ++ lb, W1, ?_, ?_, fun _ _ => trivial, ?_, fun h => by simp [Fence.wide] at h, ?_⟩
  · rw [← hW1, hrec]; exact run_enterLoop_outer _ _ _ _ _
  · simp only [resolve, hg]
    simp [go_sem]
  · simp [invoke, go_sem, eg]
  · refine callsIn_wide.2 ((hseq (w.heap.size + 1)
      (fun pre W => I pre W ∧ W.heap[w.heap.size + 1]? = some (.loop (rec .ready none)) ∧ W.heap[w.heap.size]? = some (.deferred (some [])) ∧ Turn (fun b => ¬ K b ∨ S b) w W ∧ w.heap.size + 2 ≤ W.heap.size)
      (fun pre W => ∃ c, Ix c pre W ∧ W.heap[w.heap.size + 1]? = some (.loop (rec .done (some c))) ∧ W.heap[w.heap.size]? = some (.deferred (some [])))
      W1 hE1.of ?_ ?_ ?_ ⟨h0 _ hE1 hs1, hL1, hD1, hE1.of, by omega⟩).mono ?_)
    · rintro pre A B ⟨h1, h2, h3, h4, h5⟩ ht
      exact ⟨hI _ _ _ h1 (ht.mono fun b _ hb => .inl hb), ht.heap h2 (fun hb => (hnl _ hb).1 rfl), ht.heap h3 (fun hb => (hnl _ hb).2 rfl), h4.after ht (fun b _ hb => .inr hb), Nat.le_trans h5 ht.size⟩
    · rintro pre A B ⟨c, h1, h2, h3⟩ ht
      exact ⟨c, hIx _ _ _ _ h1 (ht.mono fun b _ hb => .inl hb), ht.heap h2 (fun hb => (hnl _ hb).1 rfl), ht.heap h3 (fun hb => (hnl _ hb).2 rfl)⟩
    · -- one round
      rintro pre x rest W hx ⟨hi, hl, hd, ht, hsz⟩
      have ht0 := ht
      have hsz0 := hsz
      have hlt : w.heap.size + 1 < W.heap.size := by omega
      have hy := run_yield (P := P) (args := encs x) hl (by rw [hrec]; exact hps x)
      rw [hrec] at hy
      refine ⟨fn, _, assign, body, hy, roundIn_of_wpIn trivial (hassign pre x W _ (by rw [hx]; simp) hi hsz ?_)⟩
      clear hy
      intro a' W' hEW hax
      have hW0 := hEW
      have hi := hI _ _ _ hi (Ext.of hEW)
      have hl := hEW.keep hl
      have hd := hEW.keep hd
      have ht := ht.after hEW (fun b _ h => h.elim)
      have hsz : w.heap.size + 2 ≤ W'.heap.size := Nat.le_trans hsz hEW.size
      have hlt : w.heap.size + 1 < W'.heap.size := by omega
      refine ⟨_, run_beginRound hl (by rw [hrec]), ?_⟩
      have hl2 : (W'.putObj (w.heap.size + 1) (.loop { rec .ready none with state := .busy })).heap[w.heap.size + 1]? = some (.loop { rec .ready none with state := .busy }) := World.putObj_heap_same hlt
      have hd2 : (W'.putObj (w.heap.size + 1) (.loop { rec .ready none with state := .busy })).heap[w.heap.size]? = some (.deferred (some [])) := (World.putObj_heap_other (by omega)).trans hd
      have hput : ∀ (X : World) o, Turn (fun b => S b ∨ b = w.heap.size + 1) X (X.putObj (w.heap.size + 1) o) := fun X o => (Turn.refl _ X).putObj (.inr (.inr rfl)) o
      have hputK : ∀ (X : World) o, Turn (fun b => ¬ K b) X (X.putObj (w.heap.size + 1) o) := fun X o => (Turn.refl _ X).putObj (.inr (fun hk => by have := hK _ hk; omega)) o
      refine wpIn_mono (hbody pre x rest a' _ hx (by simpa using hsz) (ht.after (hputK W' _) (fun b _ hb => .inl hb)) (hI _ _ _ hi (hput W' _)) (hAx _ _ _ _ hax ((Turn.refl (fun b => b = w.heap.size + 1) W').putObj (.inr rfl) _))) ?_
      have fin : ∀ (jump : Option Code) (W3 : World), Turn (fun b => ¬ (K b ∨ b = w.heap.size ∨ b = w.heap.size + 1)) (W'.putObj (w.heap.size + 1) (.loop { rec .ready none with state := .busy })) W3 →
          (Instr.endRound (w.heap.size + 1) jump).run P W3 = .ok (.bool jump.isNone) (W3.putObj (w.heap.size + 1) (.loop (rec (if jump.isNone then .ready else .done) jump))) ∧
          (W3.putObj (w.heap.size + 1) (.loop (rec (if jump.isNone then .ready else .done) jump))).heap[w.heap.size + 1]? = some (.loop (rec (if jump.isNone then .ready else .done) jump)) ∧
          (W3.putObj (w.heap.size + 1) (.loop (rec (if jump.isNone then .ready else .done) jump))).heap[w.heap.size]? = some (.deferred (some [])) ∧
          Turn (fun b => ¬ K b) W (W3.putObj (w.heap.size + 1) (.loop (rec (if jump.isNone then .ready else .done) jump))) := fun jump W3 hk3 => by
        have hl3 := hk3.heap hl2 (fun h => h (.inr (.inr rfl)))
        have hd3 := hk3.heap hd2 (fun h => h (.inr (.inl rfl)))
        have := run_endRound (P := P) jump hl3
        rw [hrec] at this ⊢
        refine ⟨this, World.putObj_heap_same (Array.getElem?_eq_some_iff.1 hl3).1, (World.putObj_heap_other (by omega)).trans hd3, ?_⟩
        exact (((hW0.of).trans (hputK W' _)).trans (hk3.mono fun b _ hb hk => hb (.inl hk))).trans (hputK W3 _)
      rintro e a3 W3 hp
      cases e with
      | normal =>
        obtain ⟨hk3, hi3⟩ := hp
        obtain ⟨hr, hl4, hd4, ht4⟩ := fin none W3 hk3
        exact ⟨_, _, hr, .inl ⟨rfl, ⟨hI _ _ _ hi3 (hput W3 _), hl4, hd4, ht0.after ht4 (fun b _ hb => .inl hb), Nat.le_trans hsz0 ht4.size⟩, ht4⟩⟩
      | ret =>
        obtain ⟨hk3, hi3⟩ := hp
        obtain ⟨hr, hl4, hd4, ht4⟩ := fin (some .ret) W3 hk3
        exact ⟨_, _, hr, .inr ⟨rfl, .ret, hIx _ _ _ _ hi3 (hput W3 _), hl4, hd4⟩⟩
      | exit id =>
        obtain ⟨hk3, hi3⟩ := hp
        obtain ⟨hr, hl4, hd4, ht4⟩ := fin (some (.exit id)) W3 hk3
        exact ⟨_, _, hr, .inr ⟨rfl, .exit id, hIx _ _ _ _ hi3 (hput W3 _), hl4, hd4⟩⟩
      | goto t =>
        obtain ⟨hk3, hi3⟩ := hp
        obtain ⟨hr, hl4, hd4, ht4⟩ := fin (some (.goto t)) W3 hk3
        exact ⟨_, _, hr, .inr ⟨rfl, .goto t, hIx _ _ _ _ hi3 (hput W3 _), hl4, hd4⟩⟩
      | panic ch => exact hp.elim
      | outgrown => exact hp.elim
    · -- behind the iterator
      have hput : ∀ (X : World) o, Turn (fun b => S b ∨ b = w.heap.size + 1) X (X.putObj (w.heap.size + 1) o) := fun X o => (Turn.refl _ X).putObj (.inr (.inr rfl)) o
      rintro e W2 ⟨⟨v, rfl⟩, (⟨hi, hl, hd, ht, hsz⟩ | ⟨pre, x, rest, hx, c, hi, hl, hd⟩)⟩
      · refine ⟨none, _, by have := run_endLoop (P := P) hl (by rw [hrec]; simp); rw [hrec] at this; exact this, ?_⟩
        exact hdone _ (hI _ _ _ hi (hput W2 _)) (ht.putObj (.inl (by omega)) _) ((World.putObj_heap_other (by omega)).trans hd)
      · refine ⟨some c, _, by have := run_endLoop (P := P) hl (by rw [hrec]; simp); rw [hrec] at this; exact this, ?_⟩
        exact (wpIn_wide (n := 0)).2 (hstop c pre x rest _ hx (hIx _ _ _ _ hi (hput W2 _)) ((World.putObj_heap_other (by omega)).trans hd))

/-- A region that draws its order, in a round's frame: one condition on the world is held. -/
theorem wpIn_region_held {P : Program} {ops : Array Oper} {Q : Exit → Act → World → Prop} {S : World → Prop} {id l n : Nat} {a : Act} {w : World} (hm : P.follows .mixedOrders = true) (hd : noDefer ops = true) (hQ : ¬ LetsOut Q) (hS : S w.drew)
    (h : S w.drew → wpAnyH P .any ops Q S ops.size (Array.replicate ops.size false) a w.drew) : (Code.region id ops true).wpIn (Fence.wide.inRound l) n P Q a w :=
  wpIn_region_any' hm hd hQ (wpAny_of_held _ _ _ _ (h hS))
end Go.Ab
