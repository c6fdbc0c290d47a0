/- A range over a function whose loop variables are boxed. No program is named. Rows of the call's own: the last element taken away, and written over. No program is named. slices.Backward over patterns. -/
import Derived.Test.YtedhogbocifipaaGreatDoorGa00
import Derived.Test.YtedhogbocifipaaGreatDoorGa04
import Derived.Test.YtedhogbocifipaaGreatDoorAllowed
import Derived.Deep.MidRow
set_option maxRecDepth 100000
set_option maxHeartbeats 4000000
namespace Go.Ab
open Go.RowKit

/-- The same, where the assignment to the loop's variables lays blocks (a variable that is boxed). D: the block of the rounds' deferred calls; D + 1: the loop's record. The body keeps K, D and D + 1; I abides what the iterator turns, the record's turns, new blocks. -/
theorem wp_range2 {α : Type} {P : Program} {g : Operand} {ps : Array Tmp} {assign body : Code} {Q : Exit → Act → World → Prop} {a : Act} {w : World}
  {gf : Nat} {lb : Array Value} (hg : a.eval g = .func (.func gf) #[] lb) (eg : ∀ args w, (callFunc gf args).run P w = .ok (.enter gf args) w)
  {encs : α → Array Value} {xs : List α} {S K : Nat → Prop} (hseq : Iter P gf lb encs xs S K w) (hSK : ∀ b, S b → K b) (hK : ∀ b, K b → b < w.heap.size) (hps : ∀ x, (encs x).size = ps.size)
  (I : List α → World → Prop) (Ix : Code → List α → World → Prop)
  (hI : ∀ pre A B, I pre A → Turn (fun b => S b ∨ b = w.heap.size + 1) A B → I pre B)
  (hIx : ∀ c pre A B, Ix c pre A → Turn (fun b => S b ∨ b = w.heap.size + 1) A B → Ix c pre B)
  (h0 : ∀ W, Ext w W → W.heap.size = w.heap.size + 2 → I [] W) (Ax : α → Act → World → Prop) (hAx : ∀ x a' A B, Ax x a' A → Turn (fun b => b = w.heap.size + 1) A B → Ax x a' B)
  (hassign : ∀ (pre : List α) (x : α) (W : World) (Kn : Act → World → Prop), x ∈ xs → I pre W → w.heap.size + 2 ≤ W.heap.size → (∀ a' W', Ext W W' → Ax x a' W' → Kn a' W') →
   assign.wpIn (Fence.wide.inRound (w.heap.size + 1)) 0 P (Exit.then Kn (fun _ _ _ => False)) { tmps := (ps.zip (encs x)).foldl (fun t (p, v) => t.setIfInBounds p v) a.tmps, defers := [] } W)
  (hbody : ∀ (pre : List α) (x : α) (rest : List α) (a' : Act) (W : World), xs = pre ++ x :: rest → w.heap.size + 2 ≤ W.heap.size → Turn (fun b => ¬ K b ∨ S b) w W → I pre W → Ax x a' W →
   body.wpIn (Fence.wide.inRound (w.heap.size + 1)) 0 P (roundQ (fun b => K b ∨ b = w.heap.size ∨ b = w.heap.size + 1) I Ix (pre ++ [x]) W) a' W)
  (hdone : ∀ W, I xs W → Turn (fun b => ¬ K b ∨ S b) w W → W.heap[w.heap.size]? = some (.deferred (some [])) → Q .normal { a with defers := { target := .collected w.heap.size, args := #[] } :: a.defers } W)
  (hstop : ∀ c pre x rest W, xs = pre ++ x :: rest → Ix c (pre ++ [x]) W → W.heap[w.heap.size]? = some (.deferred (some [])) → c.wp P Q { a with defers := { target := .collected w.heap.size, args := #[] } :: a.defers } W) :
  (Code.rangeFunc g ps assign body).wp P Q a w := by
 refine (wpIn_wide (n := 0)).1 (wpIn_rangeFunc ?_)
 intro fn _
 obtain ⟨rec, hrec⟩ : ∃ rec : LoopState → Option Code → Loop, rec = fun st pe => { state := st, pending := pe, fn, tmps := a.tmps, params := ps, assign, body, defers := w.heap.size } := ⟨_, rfl⟩
 obtain ⟨W1, hW1⟩ : ∃ W1, (w.alloc (.deferred (some []))).alloc (.loop (rec .ready none)) = W1 := ⟨_, rfl⟩
 have hL1 : W1.heap[w.heap.size + 1]? = some (.loop (rec .ready none)) := by
  rw [← hW1]; have := World.alloc_heap_new (w.alloc (.deferred (some []))) (.loop (rec .ready none)); rwa [World.size_alloc] at this
 have hD1 : W1.heap[w.heap.size]? = some (.deferred (some [])) := by
  rw [← hW1]; exact (Below.heap_alloc _ _ _ (by simp)).trans (World.alloc_heap_new w _)
 have hE1 : Ext w W1 := by rw [← hW1]; exact ((Turn.refl _ w).alloc _).alloc _
 have hs1 : W1.heap.size = w.heap.size + 2 := by rw [← hW1]; simp
 have hnl : ∀ b, S b → b ≠ w.heap.size + 1 ∧ b ≠ w.heap.size := fun b hb => by have := hK b (hSK b hb); omega
 refine ⟨w.heap.size + 1, [{ target := .collected w.heap.size, args := #[] }], W1, { target := .fn (.func gf) lb, args := #[.func (.yield (w.heap.size + 1)) #[] #[]] }, W1, gf,
  #[.func (.yield (w.heap.size + 1)) #[] #[]] ++ lb, W1, ?_, ?_, fun _ _ => trivial, ?_, fun h => by simp [Fence.wide] at h, ?_⟩
 ·rw [← hW1, hrec]; exact run_enterLoop_outer _ _ _ _ _
 ·simp only [resolve, hg]
  simp [go_sem]
 ·simp [invoke, go_sem, eg]
 ·refine callsIn_wide.2 ((hseq (w.heap.size + 1)
   (fun pre W => I pre W ∧ W.heap[w.heap.size + 1]? = some (.loop (rec .ready none)) ∧ W.heap[w.heap.size]? = some (.deferred (some [])) ∧ Turn (fun b => ¬ K b ∨ S b) w W ∧ w.heap.size + 2 ≤ W.heap.size)
   (fun pre W => ∃ c, Ix c pre W ∧ W.heap[w.heap.size + 1]? = some (.loop (rec .done (some c))) ∧ W.heap[w.heap.size]? = some (.deferred (some [])))
   W1 hE1.of ?_ ?_ ?_ ⟨h0 _ hE1 hs1, hL1, hD1, hE1.of, by omega⟩).mono ?_)
  ·rintro pre A B ⟨h1, h2, h3, h4, h5⟩ ht
   exact ⟨hI _ _ _ h1 (ht.mono fun b _ hb => .inl hb), ht.heap h2 (fun hb => (hnl _ hb).1 rfl), ht.heap h3 (fun hb => (hnl _ hb).2 rfl), h4.after ht (fun b _ hb => .inr hb), Nat.le_trans h5 ht.size⟩
  ·rintro pre A B ⟨c, h1, h2, h3⟩ ht
   exact ⟨c, hIx _ _ _ _ h1 (ht.mono fun b _ hb => .inl hb), ht.heap h2 (fun hb => (hnl _ hb).1 rfl), ht.heap h3 (fun hb => (hnl _ hb).2 rfl)⟩
  · -- one round
   rintro pre x rest W hx ⟨hi, hl, hd, ht, hsz⟩
   have ht0 := ht
   have hsz0 := hsz
   have hlt : w.heap.size + 1 < W.heap.size := by omega
   have hy := run_yield (P := P) (args := encs x) hl (by rw [hrec]; exact hps x)
   rw [hrec] at hy
   refine ⟨fn, _, assign, body, hy, roundIn_of_wpIn trivial (hassign pre x W _ (by rw [hx]; simp) hi hsz ?_)⟩
   clear hy
   intro a' W' hEW hax
   have hW0 := hEW
   have hi := hI _ _ _ hi (Ext.of hEW)
   have hl := hEW.keep hl
   have hd := hEW.keep hd
   have ht := ht.after hEW (fun b _ h => h.elim)
   have hsz : w.heap.size + 2 ≤ W'.heap.size := Nat.le_trans hsz hEW.size
   have hlt : w.heap.size + 1 < W'.heap.size := by omega
   refine ⟨_, run_beginRound hl (by rw [hrec]), ?_⟩
   have hl2 : (W'.putObj (w.heap.size + 1) (.loop { rec .ready none with state := .busy })).heap[w.heap.size + 1]? = some (.loop { rec .ready none with state := .busy }) := World.putObj_heap_same hlt
   have hd2 : (W'.putObj (w.heap.size + 1) (.loop { rec .ready none with state := .busy })).heap[w.heap.size]? = some (.deferred (some [])) := (World.putObj_heap_other (by omega)).trans hd
   have hput : ∀ (X : World) o, Turn (fun b => S b ∨ b = w.heap.size + 1) X (X.putObj (w.heap.size + 1) o) := fun X o => (Turn.refl _ X).putObj (.inr (.inr rfl)) o
   have hputK : ∀ (X : World) o, Turn (fun b => ¬ K b) X (X.putObj (w.heap.size + 1) o) := fun X o => (Turn.refl _ X).putObj (.inr (fun hk => by have := hK _ hk; omega)) o
   refine wpIn_mono (hbody pre x rest a' _ hx (by simpa using hsz) (ht.after (hputK W' _) (fun b _ hb => .inl hb)) (hI _ _ _ hi (hput W' _)) (hAx _ _ _ _ hax ((Turn.refl (fun b => b = w.heap.size + 1) W').putObj (.inr rfl) _))) ?_
   have fin : ∀ (jump : Option Code) (W3 : World), Turn (fun b => ¬ (K b ∨ b = w.heap.size ∨ b = w.heap.size + 1)) (W'.putObj (w.heap.size + 1) (.loop { rec .ready none with state := .busy })) W3 →
     (Instr.endRound (w.heap.size + 1) jump).run P W3 = .ok (.bool jump.isNone) (W3.putObj (w.heap.size + 1) (.loop (rec (if jump.isNone then .ready else .done) jump))) ∧
     (W3.putObj (w.heap.size + 1) (.loop (rec (if jump.isNone then .ready else .done) jump))).heap[w.heap.size + 1]? = some (.loop (rec (if jump.isNone then .ready else .done) jump)) ∧
     (W3.putObj (w.heap.size + 1) (.loop (rec (if jump.isNone then .ready else .done) jump))).heap[w.heap.size]? = some (.deferred (some [])) ∧
     Turn (fun b => ¬ K b) W (W3.putObj (w.heap.size + 1) (.loop (rec (if jump.isNone then .ready else .done) jump))) := fun jump W3 hk3 => by
    have hl3 := hk3.heap hl2 (fun h => h (.inr (.inr rfl)))
    have hd3 := hk3.heap hd2 (fun h => h (.inr (.inl rfl)))
    have := run_endRound (P := P) jump hl3
    rw [hrec] at this ⊢
    refine ⟨this, World.putObj_heap_same (Array.getElem?_eq_some_iff.1 hl3).1, (World.putObj_heap_other (by omega)).trans hd3, ?_⟩
    exact (((hW0.of).trans (hputK W' _)).trans (hk3.mono fun b _ hb hk => hb (.inl hk))).trans (hputK W3 _)
   rintro e a3 W3 hp
   cases e with
   | normal =>
    obtain ⟨hk3, hi3⟩ := hp
    obtain ⟨hr, hl4, hd4, ht4⟩ := fin none W3 hk3
    exact ⟨_, _, hr, .inl ⟨rfl, ⟨hI _ _ _ hi3 (hput W3 _), hl4, hd4, ht0.after ht4 (fun b _ hb => .inl hb), Nat.le_trans hsz0 ht4.size⟩, ht4⟩⟩
   | ret =>
    obtain ⟨hk3, hi3⟩ := hp
    obtain ⟨hr, hl4, hd4, ht4⟩ := fin (some .ret) W3 hk3
    exact ⟨_, _, hr, .inr ⟨rfl, .ret, hIx _ _ _ _ hi3 (hput W3 _), hl4, hd4⟩⟩
   | exit id =>
    obtain ⟨hk3, hi3⟩ := hp
    obtain ⟨hr, hl4, hd4, ht4⟩ := fin (some (.exit id)) W3 hk3
    exact ⟨_, _, hr, .inr ⟨rfl, .exit id, hIx _ _ _ _ hi3 (hput W3 _), hl4, hd4⟩⟩
   | goto t =>
    obtain ⟨hk3, hi3⟩ := hp
    obtain ⟨hr, hl4, hd4, ht4⟩ := fin (some (.goto t)) W3 hk3
    exact ⟨_, _, hr, .inr ⟨rfl, .goto t, hIx _ _ _ _ hi3 (hput W3 _), hl4, hd4⟩⟩
   | panic ch => exact hp.elim
   | outgrown => exact hp.elim
  · -- behind the iterator
   have hput : ∀ (X : World) o, Turn (fun b => S b ∨ b = w.heap.size + 1) X (X.putObj (w.heap.size + 1) o) := fun X o => (Turn.refl _ X).putObj (.inr (.inr rfl)) o
   rintro e W2 ⟨⟨v, rfl⟩, (⟨hi, hl, hd, ht, hsz⟩ | ⟨pre, x, rest, hx, c, hi, hl, hd⟩)⟩
   ·refine ⟨none, _, by have := run_endLoop (P := P) hl (by rw [hrec]; simp); rw [hrec] at this; exact this, ?_⟩
    exact hdone _ (hI _ _ _ hi (hput W2 _)) (ht.putObj (.inl (by omega)) _) ((World.putObj_heap_other (by omega)).trans hd)
   ·refine ⟨some c, _, by have := run_endLoop (P := P) hl (by rw [hrec]; simp); rw [hrec] at this; exact this, ?_⟩
    exact (wpIn_wide (n := 0)).2 (hstop c pre x rest _ hx (hIx _ _ _ _ hi (hput W2 _)) ((World.putObj_heap_other (by omega)).trans hd))

/-- A region that draws its order, in a round's frame: one condition on the world is held. -/
theorem wpIn_region_held {P : Program} {ops : Array Oper} {Q : Exit → Act → World → Prop} {S : World → Prop} {id l n : Nat} {a : Act} {w : World} (hm : P.follows .mixedOrders = true) (hd : noDefer ops = true) (hQ : ¬ LetsOut Q) (hS : S w.drew)
  (h : S w.drew → wpAnyH P .any ops Q S ops.size (Array.replicate ops.size false) a w.drew) : (Code.region id ops true).wpIn (Fence.wide.inRound l) n P Q a w :=
 wpIn_region_any' hm hd hQ (wpAny_of_held _ _ _ _ (h hS))
end Go.Ab

namespace Go.Ab
open Go.RowKit

theorem own_pop {w : World} {base : Nat} {e : TypeId} {sz g n cap : Nat} {xs : List Value} (h : w.ownsRow base e sz (.slice (some ⟨g, 0, none⟩) (n + 1) cap) (n + 1) xs) :
  w.ownsRow base e sz (.slice (some ⟨g, 0, none⟩) n cap) n (xs.take (n * sz)) := by
 have hl := h.1
 rcases h.2 with ⟨q, _⟩ | ⟨g', cap', cur, q, hb, hg, hnc, hcm, hcs, htake⟩
 ·cases q
 ·simp only [Value.slice.injEq, Option.some.injEq, Addr.mk.injEq] at q
  obtain ⟨⟨rfl, _, _⟩, _, rfl⟩ := q
  refine ⟨by rw [List.length_take, hl, Nat.min_eq_left (Nat.mul_le_mul_right _ (by omega))], .inr ⟨g, cap, cur, rfl, hb, hg, by omega, hcm, hcs, ?_⟩⟩
  rw [← htake, List.take_take, Nat.min_eq_left (Nat.mul_le_mul_right _ (by omega))]

/-- vs over cur, from o on. -/
def overL : List Value → Nat → List Value → List Value
 | cur, _, [] => cur
 | cur, o, v :: vs => overL (cur.set o v) (o + 1) vs
theorem overL_length : ∀ (vs cur : List Value) (o : Nat), (overL cur o vs).length = cur.length
 | [], cur, o => rfl
 | v :: vs, cur, o => by unfold overL; rw [overL_length vs, List.length_set]
theorem setCells_heap {t : TypeId} {b : Nat} : ∀ (vs : List Value) (o : Nat) (w : World) (cur : Array Value), w.heap[b]? = some (.cells cur t (0, 0)) → (w.setCells b o vs).heap[b]? = some (.cells (overL cur.toList o vs).toArray t (0, 0))
 | [], o, w, cur, h => h
 | v :: vs, o, w, cur, h => by
  have h1 : (w.setCell ⟨b, o, none⟩ v).heap[b]? = some (.cells (cur.setIfInBounds o v) t (0, 0)) := by
   simp only [World.setCell, Array.getElem?_modify, h]; simp
  have := setCells_heap vs (o + 1) _ _ h1
  rw [Array.toList_setIfInBounds] at this
  exact this
theorem overL_end : ∀ (vs pre zs : List Value), vs.length = zs.length → overL (pre ++ zs) pre.length vs = pre ++ vs
 | [], pre, zs, h => by
  obtain rfl : zs = [] := List.eq_nil_of_length_eq_zero (by simpa using h.symm)
  rfl
 | v :: vs, pre, z :: zs, h => by
  unfold overL
  have e : (pre ++ z :: zs).set pre.length v = (pre ++ [v]) ++ zs := by
   rw [List.set_append_right _ _ (Nat.le_refl _)]; simp
  rw [e]
  have := overL_end vs (pre ++ [v]) zs (by simpa using h)
  rw [List.length_append] at this
  simpa using this
theorem overL_take : ∀ (vs cur : List Value) (o m : Nat), o + vs.length ≤ m → (overL cur o vs).take m = overL (cur.take m) o vs
 | [], cur, o, m, _ => rfl
 | v :: vs, cur, o, m, h => by
  unfold overL
  rw [overL_take vs _ _ _ (by simp at h; omega)]
  congr 1
  simp only [List.length_cons] at h
  rw [List.take_set]
theorem own_setLast {w : World} {base : Nat} {e : TypeId} {sz g n cap : Nat} {xs zs cs : List Value} (h : w.ownsRow base e sz (.slice (some ⟨g, 0, none⟩) (n + 1) cap) (n + 1) (xs ++ zs)) (hx : xs.length = n * sz) (hc : cs.length = sz) :
  (w.setCells g (n * sz) cs).ownsRow base e sz (.slice (some ⟨g, 0, none⟩) (n + 1) cap) (n + 1) (xs ++ cs) := by
 have hl := h.1
 rcases h.2 with ⟨q, _⟩ | ⟨g', cap', cur, q, hb, hg, hnc, hcm, hcs, htake⟩
 ·cases q
 ·simp only [Value.slice.injEq, Option.some.injEq, Addr.mk.injEq] at q
  obtain ⟨⟨rfl, _, _⟩, _, rfl⟩ := q
  have hzs : zs.length = sz := by
   rw [List.length_append, hx, Nat.add_mul, Nat.one_mul] at hl; omega
  refine ⟨by rw [List.length_append, hx, hc, Nat.add_mul, Nat.one_mul], .inr ⟨g, cap, _, rfl, hb, setCells_heap cs _ w cur hg, hnc, hcm, by simp [overL_length, hcs], ?_⟩⟩
  have h1 : n * sz + cs.length ≤ (n + 1) * sz := by rw [hc, Nat.add_mul, Nat.one_mul]; exact Nat.le_refl _
  rw [show ((overL cur.toList (n * sz) cs).toArray.toList) = overL cur.toList (n * sz) cs from rfl, overL_take _ _ _ _ h1, htake, ← hx]
  exact overL_end cs xs zs (by omega)
theorem Turn.setCells (A : World) (b : Nat) : ∀ (vs : List Value) (o : Nat), Turn (· = b) A (A.setCells b o vs)
 | [], _ => Turn.refl _ _
 | v :: vs, o => (Turn.set1 A b o v).trans (Turn.setCells (A.setCell ⟨b, o, none⟩ v) b vs (o + 1))
theorem own_there {w : World} {base : Nat} {e : TypeId} {sz g n cap : Nat} {xs : List Value} (h : w.ownsRow base e sz (.slice (some ⟨g, 0, none⟩) n cap) n xs) {o m : Nat} (ho : o + m ≤ n * sz) : w.there g o m := fun j hj => by
 have h1 := h.cellAt (o + j) (by omega)
 have h2 := h.frozenAt (o + j)
 have : (o + j) < xs.length := by rw [h.1]; omega
 rw [List.getElem?_eq_getElem this] at h1
 exact ⟨by rw [h1]; rfl, h2⟩
theorem own_range {w : World} {base : Nat} {e : TypeId} {sz g n cap : Nat} {xs : List Value} (h : w.ownsRow base e sz (.slice (some ⟨g, 0, none⟩) n cap) n xs) {o : Nat} {cs : List Value} (hc : ∀ j v, cs[j]? = some v → xs[o + j]? = some v) : w.rangeAt g o cs := fun j v hv => by
 have h0 := hc j v hv
 have hlt : o + j < n * sz := by rw [← h.1]; exact (List.getElem?_eq_some_iff.1 h0).1
 rw [h.cellAt (o + j) hlt]; exact h0
theorem own_addr {w : World} {base : Nat} {e : TypeId} {sz n m cap : Nat} {ao : Option Addr} {xs : List Value} (h : w.ownsRow base e sz (.slice ao (n + 1) cap) m xs) : ∃ g, ao = some ⟨g, 0, none⟩ := by
 rcases h.2 with ⟨q, _⟩ | ⟨g, _, _, q, _⟩
 ·cases q
 ·cases q; exact ⟨g, rfl⟩

theorem own_cellsAt {w : World} {base : Nat} {e : TypeId} {sz g n m cap : Nat} {xs : List Value} (h : w.ownsRow base e sz (.slice (some ⟨g, 0, none⟩) n cap) m xs) : ∃ cur, w.heap[g]? = some (.cells cur e (0, 0)) := by
 rcases h.2 with ⟨q, _⟩ | ⟨_, _, cur, q, _, hg, _⟩
 ·cases q
 ·cases q; exact ⟨cur, hg⟩

/-- 'append_row' for an operation of a region that draws. -/
theorem append_oper {P : Program} {w : World} {o : Oper} {a : Act} {K : Act → World → Prop} {Q : Exit → Act → World → Prop} (s x : Operand) (t : TypeId)
  (ho : o.op = .call { callee := .builtin .append, args := #[s, x], argTypes := #[t, t] })
  (base : Nat) (e : TypeId) (z : Value) (size bytes : Nat) (ht : P.underlying t = some (.slice e)) (hinfo : (P.info? e).map (fun i => (i.zero, i.size, i.bytes)) = some (some z, size, bytes))
  (hzs : z.cells.size = size) (hsz : 0 < size)
  (v : Value) (n : Nat) (xs : List Value) (hs : a.eval s = v) (hown : w.ownsRow base e size v n xs)
  (ad : Addr) (m c : Nat) (news : List Value) (hx : a.eval x = .slice (some ad) m c) (hl : news.length = m * size) (hnews : ∀ j u, news[j]? = some u → w.cell? (ad.add j) = some u) (h1 : ∀ u ∈ news, u.oneCell' = true)
  (h63 : n + m ≤ maxLen) (hbytes : (n + m) * bytes ≤ 140737488355328) (hbase : base ≤ w.heap.size)
  (h : ∀ ao c' w', w'.ownsRow base e size (.slice ao (n + m) c') (n + m) (xs ++ news) → Turn (fun b => v.ownBlock = some b) w w' → ((Value.slice ao (n + m) c').ownBlock = v.ownBlock ∨ (Value.slice ao (n + m) c').ownBlock = some w.heap.size) → K (a.put o.dst (.slice ao (n + m) c')) w') : Oper.wp P o a w K Q := by
 obtain ⟨i, hi, hz, hs1, hb1⟩ := info_parts hinfo
 subst hs1
 subst hb1
 obtain ⟨v', w', hr, h2, h3, h4⟩ := run_append_own (P := P) w base t o.type e i z _ _ ht hi hz rfl rfl hzs hsz v n xs hown ad m c news hl hnews h1 h63 hbytes hbase
 have h5 := append_block ht hi hz hsz hown ad m c news hl hnews h1 h63 hbytes hr
 unfold Oper.wp execOp
 simp only [ho, resolve, invoke, builtin, Sem.run_bind, Sem.run_pure, Result.andThen_ok, List.map_toArray, List.map_cons, List.map_nil, hs, hx, hr]
 obtain ⟨ao, c', rfl⟩ := own_slice h2
 exact h ao c' w' h2 ((Turn.refl _ w).grown h3 (fun k e => .inr e)) h5
end Go.Ab

namespace Go.Proofs.YtedhogbocifipaaGreatDoor
open Go.RowKit Go.Ab
attribute [local go_sem] Oper.semAt_some wide_fn wide_depth

/-- What comes, from the last to the first. -/
def xsB (cs : Nat → List Value) : Nat → List (Nat × List Value)
 | 0 => []
 | k + 1 => (k, cs k) :: xsB cs k
/-- These seven cells lie there. -/
def CellsOk (w : World) (ao : Option Addr) (K : Nat → Prop) (i : Nat) (c : List Value) : Prop :=
 ∃ g off k pl mi nt mn mx xo n cap, ao = some ⟨g, off, none⟩ ∧ K g ∧ w.rangeAt g (off + i * 7) c ∧ c = patCells k pl mi nt mn mx xo n cap

theorem backward_iter {w : World} {bx N cap : Nat} {ao : Option Addr} {cs : Nat → List Value} {K : Nat → Prop} (hK : K bx) (hb : w.heap[bx]? = some (.cells #[.slice ao N cap] 25 (0, 0))) (hN : N ≤ maxLen) (hel : ∀ i, i < N → CellsOk w ao K i (cs i)) :
  Iter Tryz.prog 121 #[.pointer (some ⟨bx, 0, none⟩)] (fun x : Nat × List Value => #[.int .i64 (x.1 : Int), .agg x.2.toArray]) (xsB cs N) (fun _ => False) K w := by
 intro l J Jx W ht hJ hJx hY h0
 unfold maxLen at hN
 have hbW : W.heap[bx]? = some (.cells #[.slice ao N cap] 25 (0, 0)) := ht.heap hb (fun h => h hK)
 have hz0 : IntKind.i64.wrap ((N : Int) - 1) = (N : Int) - 1 := IntWalk.i64_in _ (by omega)
 have c0 := cell_of_one hbW
 refine callsIn_wide.1 (callsIn_of_wp (n := 0) Tryz.func121 rfl trivial ?_ rfl)
 simp only [Tryz.ntmps121, List.size_toArray, List.length_cons, List.length_nil, Nat.reduceAdd, Nat.reduceSub, Array.replicate_succ, Array.replicate_zero, List.push_toArray, List.append_toArray, List.nil_append, List.cons_append]
 gi_wp2
 clear hz0 c0
 gi_loopw [3] (fun v3 wr => ∃ (c : Nat) (z : Int) (pre : List (Nat × List Value)), c ≤ N ∧ z + 1 = c ∧ v3 = .int .i64 z ∧ xsB cs N = pre ++ xsB cs c ∧ J pre wr ∧ Turn (fun b => ¬ K b) w wr)
  (fun v3 _ => (intOf v3 + 1).toNat)
 case atStart => exact ⟨N, (N : Int) - 1, [], Nat.le_refl _, by omega, rfl, rfl, h0, ht⟩
 case round =>
  obtain ⟨c, z, pre, hc, hz, rfl, hxs, hJs, htr⟩ := hrel
  cases c with
  | zero =>
   obtain rfl : z = -1 := by omega
   have hfin : J (xsB cs N) wr := by rw [hxs]; simpa [xsB] using hJs
   clear hxs
   gi_wp2
   go_end0
   exact ⟨⟨_, rfl⟩, .inl hfin⟩
  | succ k =>
   obtain rfl : z = (k : Int) := by omega
   obtain ⟨g, off, qk, pl, mi, nt, mn, mx, xo, n', cap', rfl, hKg, hra, hcs⟩ := hel k (by omega)
   have hra2 := rangeAt_turn htr hra (fun h => h hKg)
   obtain ⟨c0, c1, c2, c3, c4, c5, c6⟩ := patCells_at hra2 hcs
   have hb2 : wr.heap[bx]? = some (.cells #[.slice (some ⟨g, off, none⟩) N cap] 25 (0, 0)) := htr.heap hb (fun h => h hK)
   have cb := cell_of_one hb2
   have hx2 : xsB cs N = pre ++ (k, cs k) :: xsB cs k := hxs
   obtain ⟨fn, tmps, assign, body, hy, hR⟩ := hY pre _ _ wr hx2 hJs
   rw [hcs] at hy
   unfold patCells at hy
   dsimp only at hy
   have h1 : (k : Int) < (N : Int) := by omega
   have h2 : (0 : Int) ≤ (k : Int) := by omega
   have HX := Lib.hid hx2; have HT := Lib.hid htr; have HR := Lib.hid hR; have HN := Lib.hid hN; have HCS := Lib.hid hcs
   clear hx2 hxs htr hR hz hra hra2 hcs hel
   gi_wp2
   refine HR.out.mono ?_
   rintro e W3 (⟨rfl, hJ3, hk3⟩ | ⟨rfl, hJx3⟩)
   ·have ht3 := HT.out.trans hk3
    clear hy hJs c0 c1 c2 c3 c4 c5 c6 cb
    gi_wp2
    go_roundw
    case rel => exact ⟨k, (k : Int) - 1, pre ++ [(k, cs k)], by omega, by omega, by first | rfl | go_num, by rw [HX.out]; simp, hJ3, ht3⟩
    case measure => first | (simp [intOf]; done) | (simp [intOf]; omega)
   ·clear hy
    gi_wp2
    refine bodyPost_ret (results_none rfl _ _ _) rfl ?_
    exact ⟨⟨_, rfl⟩, .inr ⟨pre, _, _, HX.out, hJx3⟩⟩

theorem backward_any (ao : Option Addr) (N cap : Nat) (w : World) :
  Calls Tryz.prog 82 #[.slice ao N cap] w fun e w' => e = .returned (.func (.func 121) #[] #[.pointer (some ⟨w.heap.size, 0, none⟩)]) ∧ w' = w.alloc (.cells #[.slice ao N cap] 25) := by
 go_enter Tryz.func82, Tryz.ntmps82
 go_wp2
 go_ret
 exact ⟨rfl, rfl⟩
end Go.Proofs.YtedhogbocifipaaGreatDoor
