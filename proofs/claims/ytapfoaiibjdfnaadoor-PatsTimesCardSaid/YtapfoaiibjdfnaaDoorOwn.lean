/- Rows of the call's own: the last element taken away, and written over. No program is named. -/
import Derived.Test.YtapfoaiibjdfnaaDoorRange2
import Derived.Test.YtapfoaiibjdfnaaDoorApp
import Derived.Deep.MidRow
namespace Go.Ab
open Go.RowKit

theorem own_pop {w : World} {base : Nat} {e : TypeId} {sz g n cap : Nat} {xs : List Value} (h : w.ownsRow base e sz (.slice (some ⟨g, 0, none⟩) (n + 1) cap) (n + 1) xs) :
    w.ownsRow base e sz (.slice (some ⟨g, 0, none⟩) n cap) n (xs.take (n * sz)) := by
  have hl := h.1
  rcases h.2 with ⟨q, _⟩ | ⟨g', cap', cur, q, hb, hg, hnc, hcm, hcs, htake⟩
  · cases q
  · simp only [Value.slice.injEq, Option.some.injEq, Addr.mk.injEq] at q
    obtain ⟨⟨rfl, _, _⟩, _, rfl⟩ := q
    refine ⟨by rw [List.length_take, hl, Nat.min_eq_left (Nat.mul_le_mul_right _ (by omega))], .inr ⟨g, cap, cur, rfl, hb, hg, by omega, hcm, hcs, ?_⟩⟩
    rw [← htake, List.take_take, Nat.min_eq_left (Nat.mul_le_mul_right _ (by omega))]

/-- vs over cur, from o on. -/
def overL : List Value → Nat → List Value → List Value
  | cur, _, [] => cur
  | cur, o, v :: vs => overL (cur.set o v) (o + 1) vs
theorem overL_length : ∀ (vs cur : List Value) (o : Nat), (overL cur o vs).length = cur.length
  | [], cur, o => rfl
  | v :: vs, cur, o => by unfold overL; rw [overL_length vs, List.length_set]
theorem setCells_heap {t : TypeId} {b : Nat} : ∀ (vs : List Value) (o : Nat) (w : World) (cur : Array Value), w.heap[b]? = some (.cells cur t (0, 0)) → (w.setCells b o vs).heap[b]? = some (.cells (overL cur.toList o vs).toArray t (0, 0))
  | [], o, w, cur, h => h
  | v :: vs, o, w, cur, h => by
    have h1 : (w.setCell ⟨b, o, none⟩ v).heap[b]? = some (.cells (cur.setIfInBounds o v) t (0, 0)) := by
      simp only [World.setCell, Array.getElem?_modify, h]; simp
    have := setCells_heap vs (o + 1) _ _ h1
    rw [Array.toList_setIfInBounds] at this
    exact this
theorem overL_end : ∀ (vs pre zs : List Value), vs.length = zs.length → overL (pre ++ zs) pre.length vs = pre ++ vs
  | [], pre, zs, h => by
    obtain rfl : zs = [] := List.eq_nil_of_length_eq_zero (by simpa using h.symm)
    rfl
  | v :: vs, pre, z :: zs, h => by
    unfold overL
    have e : (pre ++ z :: zs).set pre.length v = (pre ++ [v]) ++ zs := by
      rw [List.set_append_right _ _ (Nat.le_refl _)]; simp
    rw [e]
    have := overL_end vs (pre ++ [v]) zs (by simpa using h)
    rw [List.length_append] at this
    simpa using this
theorem overL_take : ∀ (vs cur : List Value) (o m : Nat), o + vs.length ≤ m → (overL cur o vs).take m = overL (cur.take m) o vs
  | [], cur, o, m, _ => rfl
  | v :: vs, cur, o, m, h => by
    unfold overL
    rw [overL_take vs _ _ _ (by simp at h; omega)]
    congr 1
    simp only [List.length_cons] at h
    rw [List.take_set]
theorem own_setLast {w : World} {base : Nat} {e : TypeId} {sz g n cap : Nat} {xs zs cs : List Value} (h : w.ownsRow base e sz (.slice (some ⟨g, 0, none⟩) (n + 1) cap) (n + 1) (xs ++ zs)) (hx : xs.length = n * sz) (hc : cs.length = sz) :
    (w.setCells g (n * sz) cs).ownsRow base e sz (.slice (some ⟨g, 0, none⟩) (n + 1) cap) (n + 1) (xs ++ cs) := by
  have hl := h.1
  rcases h.2 with ⟨q, _⟩ | ⟨g', cap', cur, q, hb, hg, hnc, hcm, hcs, htake⟩
  · cases q
  · simp only [Value.slice.injEq, Option.some.injEq, Addr.mk.injEq] at q
    obtain ⟨⟨rfl, _, _⟩, _, rfl⟩ := q
    have hzs : zs.length = sz := by
      rw [List.length_append, hx, Nat.add_mul, Nat.one_mul] at hl; omega
    refine ⟨by rw [List.length_append, hx, hc, Nat.add_mul, Nat.one_mul], .inr ⟨g, cap, _, rfl, hb, setCells_heap cs _ w cur hg, hnc, hcm, by simp [overL_length, hcs], ?_⟩⟩
    have h1 : n * sz + cs.length ≤ (n + 1) * sz := by rw [hc, Nat.add_mul, Nat.one_mul]; exact Nat.le_refl _
    rw [show ((overL cur.toList (n * sz) cs).toArray.toList) = overL cur.toList (n * sz) cs from rfl, overL_take _ _ _ _ h1, htake, ← hx]
    exact overL_end cs xs zs (by omega)
theorem Turn.setCells (A : World) (b : Nat) : ∀ (vs : List Value) (o : Nat), Turn (· = b) A (A.setCells b o vs)
  | [], _ => Turn.refl _ _
  | v :: vs, o => (Turn.set1 A b o v).trans (Turn.setCells (A.setCell ⟨b, o, none⟩ v) b vs (o + 1))
theorem own_there {w : World} {base : Nat} {e : TypeId} {sz g n cap : Nat} {xs : List Value} (h : w.ownsRow base e sz (.slice (some ⟨g, 0, none⟩) n cap) n xs) {o m : Nat} (ho : o + m ≤ n * sz) : w.there g o m := fun j hj => by
  have h1 := h.cellAt (o + j) (by omega)
  have h2 := h.frozenAt (o + j)
  have : (o + j) < xs.length := by rw [h.1]; omega
  rw [List.getElem?_eq_getElem this] at h1
  exact ⟨by rw [h1]; rfl, h2⟩
theorem own_range {w : World} {base : Nat} {e : TypeId} {sz g n cap : Nat} {xs : List Value} (h : w.ownsRow base e sz (.slice (some ⟨g, 0, none⟩) n cap) n xs) {o : Nat} {cs : List Value} (hc : ∀ j v, cs[j]? = some v → xs[o + j]? = some v) : w.rangeAt g o cs := fun j v hv => by
  have h0 := hc j v hv
  have hlt : o + j < n * sz := by rw [← h.1]; exact (List.getElem?_eq_some_iff.1 h0).1
  rw [h.cellAt (o + j) hlt]; exact h0
theorem own_addr {w : World} {base : Nat} {e : TypeId} {sz n m cap : Nat} {ao : Option Addr} {xs : List Value} (h : w.ownsRow base e sz (.slice ao (n + 1) cap) m xs) : ∃ g, ao = some ⟨g, 0, none⟩ := by
  rcases h.2 with ⟨q, _⟩ | ⟨g, _, _, q, _⟩
  · cases q
  · cases q; exact ⟨g, rfl⟩

theorem own_cellsAt {w : World} {base : Nat} {e : TypeId} {sz g n m cap : Nat} {xs : List Value} (h : w.ownsRow base e sz (.slice (some ⟨g, 0, none⟩) n cap) m xs) : ∃ cur, w.heap[g]? = some (.cells cur e (0, 0)) := by
  rcases h.2 with ⟨q, _⟩ | ⟨_, _, cur, q, _, hg, _⟩
  · cases q
  · cases q; exact ⟨cur, hg⟩

/-- 'append_row' for an operation of a region that draws. -/
theorem append_oper {P : Program} {w : World} {o : Oper} {a : Act} {K : Act → World → Prop} {Q : Exit → Act → World → Prop} (s x : Operand) (t : TypeId)
    (ho : o.op = .call { callee := .builtin .append, args := #[s, x], argTypes := #[t, t] })
    (base : Nat) (e : TypeId) (z : Value) (size bytes : Nat) (ht : P.underlying t = some (.slice e)) (hinfo : (P.info? e).map (fun i => (i.zero, i.size, i.bytes)) = some (some z, size, bytes))
    (hzs : z.cells.size = size) (hsz : 0 < size)
    (v : Value) (n : Nat) (xs : List Value) (hs : a.eval s = v) (hown : w.ownsRow base e size v n xs)
    (ad : Addr) (m c : Nat) (news : List Value) (hx : a.eval x = .slice (some ad) m c) (hl : news.length = m * size) (hnews : ∀ j u, news[j]? = some u → w.cell? (ad.add j) = some u) (h1 : ∀ u ∈ news, u.oneCell' = true)
    (h63 : n + m ≤ maxLen) (hbytes : (n + m) * bytes ≤ 140737488355328) (hbase : base ≤ w.heap.size)
    (h : ∀ ao c' w', w'.ownsRow base e size (.slice ao (n + m) c') (n + m) (xs ++ news) → Turn (fun b => v.ownBlock = some b) w w' → ((Value.slice ao (n + m) c').ownBlock = v.ownBlock ∨ (Value.slice ao (n + m) c').ownBlock = some w.heap.size) → K (a.put o.dst (.slice ao (n + m) c')) w') : Oper.wp P o a w K Q := by
  obtain ⟨i, hi, hz, hs1, hb1⟩ := info_parts hinfo
  subst hs1
  subst hb1
  obtain ⟨v', w', hr, h2, h3, h4⟩ := run_append_own (P := P) w base t o.type e i z _ _ ht hi hz rfl rfl hzs hsz v n xs hown ad m c news hl hnews h1 h63 hbytes hbase
  have h5 := append_block ht hi hz hsz hown ad m c news hl hnews h1 h63 hbytes hr
  unfold Oper.wp execOp
  simp only [ho, resolve, invoke, builtin, Sem.run_bind, Sem.run_pure, Result.andThen_ok, List.map_toArray, List.map_cons, List.map_nil, hs, hx, hr]
  obtain ⟨ao, c', rfl⟩ := own_slice h2
  exact h ao c' w' h2 ((Turn.refl _ w).grown h3 (fun k e => .inr e)) h5
end Go.Ab
