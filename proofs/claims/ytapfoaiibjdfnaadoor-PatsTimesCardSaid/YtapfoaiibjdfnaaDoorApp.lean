/- append of a slice that is read, empty or nil too. No program is named. -/
import Derived.Test.YtapfoaiibjdfnaaDoorSl
import Derived.Laws.OwnMore
namespace Go.Ab
open Go.RowKit

theorem run_append_zero {P : Program} {w : World} {base : Nat} {t ty e : TypeId} {size : Nat} {i : TypeInfo} (ht : P.underlying t = some (.slice e)) (hi : P.info? e = some i)
    {v : Value} {n : Nat} {xs : List Value} (hown : w.ownsRow base e size v n xs) (ao : Option Addr) (c : Nat) :
    (Builtin.append_ #[t, t] ty #[v, .slice ao 0 c]).run P w = .ok v w := by
  rcases hown.2 with ⟨rfl, rfl⟩ | ⟨g, cap, cur, rfl, _, _, hnc, _⟩
  · cases ao <;> simp [Builtin.append_, run_underlying ht, sizeOf, typeInfo, hi, Builtin.lenOf, Builtin.firstCells, loadCells, loadCellsFrom]
  · cases ao <;> simp [Builtin.append_, run_underlying ht, sizeOf, typeInfo, hi, Builtin.lenOf, Builtin.firstCells, hnc, storeCells, loadCells, loadCellsFrom]

theorem Rd.cells {w : World} {m size : Nat} {news : List Value} {a : Addr} {c : Nat} (h : Rd w (.slice (some a) m c) m size news) (hm : 0 < m) : ∀ j u, news[j]? = some u → w.cell? (a.add j) = some u := by
  obtain ⟨h1, h2, ao, cap, hv, h3⟩ := h
  intro j u hj
  obtain ⟨g, off, ha, hg, hc⟩ := h3 hm
  cases hv
  cases ha
  have hlt := (List.getElem?_eq_some_iff.1 hj).1
  have := hc j (by omega)
  rw [List.getD_eq_getElem?_getD, hj] at this
  have e : ((⟨g, off, none⟩ : Addr).add j) = ⟨g, off + j, none⟩ := by
    unfold Addr.add; split
    · rename_i h; subst h; simp
    · simp
  rw [e]; exact this

/-- append of a slice that is read. -/
theorem append_rd {P : Program} {w : World} {ops : Array Oper} {rest : List Oper} {o : Oper} {a : Act} {Q : Exit → Act → World → Prop} (hgd : o.guard = none) (s x : Operand) (t : TypeId)
    (ho : o.op = .call { callee := .builtin .append, args := #[s, x], argTypes := #[t, t] })
    (base : Nat) (e : TypeId) (z : Value) (size bytes : Nat) (ht : P.underlying t = some (.slice e)) (hinfo : (P.info? e).map (fun i => (i.zero, i.size, i.bytes)) = some (some z, size, bytes))
    (hzs : z.cells.size = size) (hsz : 0 < size)
    (v : Value) (n : Nat) (xs : List Value) (hs : a.eval s = v) (hown : w.ownsRow base e size v n xs)
    (u : Value) (m : Nat) (news : List Value) (hx : a.eval x = u) (hrd : Rd w u m size news) (h1 : ∀ u ∈ news, u.oneCell' = true)
    (h63 : n + m ≤ maxLen) (hbytes : (n + m) * bytes ≤ 140737488355328) (hbase : base ≤ w.heap.size)
    (h : ∀ ao c' w', w'.ownsRow base e size (.slice ao (n + m) c') (n + m) (xs ++ news) → Turn (fun b => v.ownBlock = some b) w w' → ((Value.slice ao (n + m) c').ownBlock = v.ownBlock ∨ (Value.slice ao (n + m) c').ownBlock = some w.heap.size) → wpList P ops Q rest (a.put o.dst (.slice ao (n + m) c')) w') : wpList P ops Q (o :: rest) a w := by
  have hrd' := hrd
  obtain ⟨g1, g2, ao, cap, rfl, g3⟩ := hrd
  by_cases hm : 0 < m
  · obtain ⟨g, off, rfl, _, _⟩ := g3 hm
    exact append_row hgd s x t ho base e z size bytes ht hinfo hzs hsz v n xs hs hown _ m cap news hx g1 (hrd'.cells hm) h1 h63 hbytes hbase h
  · obtain rfl : m = 0 := by omega
    have hn : news = [] := List.eq_nil_of_length_eq_zero (by simpa using g1)
    subst hn
    obtain ⟨i, hi, hz, hs1, hb1⟩ := info_parts hinfo
    refine wpList_plain hgd fun K hK => ?_
    have hr := run_append_zero (P := P) (ty := o.type) ht hi hown ao cap
    obtain ⟨vo, vc, rfl⟩ := own_slice hown
    unfold Oper.wp execOp
    simp only [ho, resolve, invoke, builtin, Sem.run_bind, Sem.run_pure, Result.andThen_ok, List.map_toArray, List.map_cons, List.map_nil, hs, hx, hr]
    exact hK _ _ (h vo vc w (by simpa using hown) (Turn.refl _ _) (.inl rfl))
end Go.Ab
