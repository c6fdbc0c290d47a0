/- Patterns of one's own: rows of nodes, no block twice. No program is named. -/
import Derived.Test.YtapfoaiibjdfnaaDoorMc
import Derived.Test.YtapfoaiibjdfnaaDoorMa
namespace Go.Ab
open Go.RowKit

/-- The seven cells of element j. -/
def chunk (xs : List Value) (j : Nat) : List Value := (xs.drop (j * 7)).take 7
theorem chunk_get {xs : List Value} {j i : Nat} (hi : i < 7) : (chunk xs j)[i]? = xs[j * 7 + i]? := by
  unfold chunk
  rw [List.getElem?_take_of_lt hi, List.getElem?_drop]
theorem chunk_some {xs : List Value} {j i : Nat} {v : Value} (h : (chunk xs j)[i]? = some v) : xs[j * 7 + i]? = some v := by
  have hl : i < (chunk xs j).length := (List.getElem?_eq_some_iff.1 h).1
  have : i < 7 := by unfold chunk at hl; rw [List.length_take] at hl; omega
  rw [← chunk_get this]; exact h
theorem chunk_append {xs ys : List Value} {n j : Nat} (hl : xs.length = n * 7) (hj : j < n) : chunk (xs ++ ys) j = chunk xs j := by
  unfold chunk
  rw [List.drop_append_of_le_length (by omega), List.take_append_of_le_length (by rw [List.length_drop]; omega)]
theorem chunk_new {xs ys : List Value} {n : Nat} (hl : xs.length = n * 7) (hy : ys.length = 7) : chunk (xs ++ ys) n = ys := by
  unfold chunk
  rw [← hl, List.drop_left, List.take_of_length_le (by omega)]
theorem chunk_length {xs : List Value} {n j : Nat} (hl : xs.length = n * 7) (hj : j < n) : (chunk xs j).length = 7 := by
  unfold chunk
  rw [List.length_take, List.length_drop]; omega
theorem own_chunk {w : World} {base : Nat} {e : TypeId} {g n cap : Nat} {xs : List Value} (h : w.ownsRow base e 7 (.slice (some ⟨g, 0, none⟩) n cap) n xs) (j : Nat) : w.rangeAt g (j * 7) (chunk xs j) :=
  own_range h fun _ _ hv => chunk_some hv

theorem overL_get : ∀ (vs cur : List Value) (o i : Nat), o + vs.length ≤ cur.length → (overL cur o vs)[i]? = if o ≤ i ∧ i < o + vs.length then vs[i - o]? else cur[i]?
  | [], cur, o, i, _ => by unfold overL; rw [if_neg (by simp only [List.length_nil]; omega)]
  | v :: vs, cur, o, i, h => by
    simp only [List.length_cons] at h ⊢
    unfold overL
    rw [overL_get vs _ _ _ (by rw [List.length_set]; omega)]
    by_cases h1 : o + 1 ≤ i ∧ i < o + 1 + vs.length
    · rw [if_pos h1, if_pos (by omega), show i - o = (i - (o + 1)) + 1 by omega, List.getElem?_cons_succ]
    · rw [if_neg h1]
      by_cases h2 : i = o
      · subst h2
        rw [if_pos (by omega), Nat.sub_self, List.getElem?_set_self (by omega)]; rfl
      · rw [if_neg (by omega), List.getElem?_set_ne (by omega)]

/-- An element written over. -/
theorem own_setMid {w : World} {base : Nat} {e : TypeId} {g n cap j : Nat} {xs cs : List Value} (h : w.ownsRow base e 7 (.slice (some ⟨g, 0, none⟩) n cap) n xs) (hj : j < n) (hc : cs.length = 7) :
    (w.setCells g (j * 7) cs).ownsRow base e 7 (.slice (some ⟨g, 0, none⟩) n cap) n (overL xs (j * 7) cs) := by
  have hl := h.1
  rcases h.2 with ⟨q, _⟩ | ⟨g', cap', cur, q, hb, hg, hnc, hcm, hcs, htake⟩
  · cases q
  · simp only [Value.slice.injEq, Option.some.injEq, Addr.mk.injEq] at q
    obtain ⟨⟨rfl, _, _⟩, _, rfl⟩ := q
    refine ⟨by rw [overL_length]; exact hl, .inr ⟨g, cap, _, rfl, hb, setCells_heap cs _ w cur hg, hnc, hcm, by simp [overL_length, hcs], ?_⟩⟩
    rw [show ((overL cur.toList (j * 7) cs).toArray.toList) = overL cur.toList (j * 7) cs from rfl, overL_take _ _ _ _ (by omega), htake]
theorem chunk_over {xs cs : List Value} {n j k : Nat} (hl : xs.length = n * 7) (hj : j < n) (hc : cs.length = 7) : chunk (overL xs (j * 7) cs) k = if k = j then cs else chunk xs k := by
  apply List.ext_getElem?
  intro i
  by_cases hi : i < 7
  · rw [chunk_get hi, overL_get _ _ _ _ (by omega)]
    by_cases hk : k = j
    · subst hk
      rw [if_pos (by omega), if_pos rfl]; congr 1; omega
    · rw [if_neg (by omega), if_neg hk, chunk_get hi]
  · have h1 : (chunk (overL xs (j * 7) cs) k)[i]? = none := by
      apply List.getElem?_eq_none
      unfold chunk; rw [List.length_take]; omega
    rw [h1]
    symm
    apply List.getElem?_eq_none
    split
    · omega
    · unfold chunk; rw [List.length_take]; omega

/-- These cells are this pattern; its rows are the call's own, no block is reached twice, and all lie in K. -/
inductive PatSep (T : TypeId) (w : World) : Pat → List Value → (Nat → Prop) → Prop
  | mk {k : Int} {pl mi : Nat} {nt : Bool} {mn mx : Int} {l : List Pat} {ao : Option Addr} {cap : Nat} {K : Nat → Prop} (xs : List Value) (Ks : Nat → Nat → Prop)
      (hpl : pl < 4294967296) (hmi : mi < 4294967296)
      (hO : w.ownsRow 0 T 7 (.slice ao l.length cap) l.length xs)
      (hg : ∀ g, (Value.slice ao l.length cap).ownBlock = some g → K g ∧ ∀ j, j < l.length → ¬ Ks j g)
      (hs : ∀ j b, j < l.length → Ks j b → K b)
      (hd : ∀ i j b, i < l.length → j < l.length → i ≠ j → Ks i b → ¬ Ks j b)
      (hc : ∀ j (h : j < l.length), PatSep T w l[j] (chunk xs j) (Ks j)) : PatSep T w (.node k pl mi nt mn mx l) (patCells k pl mi nt mn mx ao l.length cap) K

theorem PatSep.keep {T : TypeId} {S : Nat → Prop} {A B : World} (ht : Turn S A B) : ∀ {p : Pat} {cs : List Value} {K : Nat → Prop}, PatSep T A p cs K → (∀ b, K b → ¬ S b) → PatSep T B p cs K := by
  intro p cs K h
  induction h with
  | mk xs Ks hpl hmi hO hg hs hd hc ih =>
    intro hS
    exact .mk xs Ks hpl hmi (own_keep hO ht fun g hb => hS g (hg g hb).1) hg hs hd fun j h => ih j h fun b hb => hS b (hs j b h hb)
theorem PatSep.mono {T : TypeId} {w : World} {p : Pat} {cs : List Value} {K L : Nat → Prop} (h : PatSep T w p cs K) (hL : ∀ b, K b → L b) : PatSep T w p cs L := by
  cases h with
  | mk xs Ks hpl hmi hO hg hs hd hc => exact .mk xs Ks hpl hmi hO (fun g hb => ⟨hL g (hg g hb).1, (hg g hb).2⟩) (fun j b h1 h2 => hL b (hs j b h1 h2)) hd hc
theorem own_len {w : World} {base : Nat} {e : TypeId} {sz : Nat} {ao : Option Addr} {n cap : Nat} {xs : List Value} (h : w.ownsRow base e sz (.slice ao n cap) n xs) : n ≤ cap ∧ cap ≤ maxLen := by
  rcases h.2 with ⟨q, _⟩ | ⟨_, _, _, q, _, _, h1, h2, _⟩
  · simp only [Value.slice.injEq] at q; simp [q.2.1, q.2.2]
  · simp only [Value.slice.injEq] at q; obtain ⟨_, _, rfl⟩ := q; exact ⟨h1, h2⟩
theorem own_some {w : World} {base : Nat} {e : TypeId} {sz n cap : Nat} {ao : Option Addr} {xs : List Value} (h : w.ownsRow base e sz (.slice ao n cap) n xs) (hn : 0 < n) : ∃ g, ao = some ⟨g, 0, none⟩ := by
  rcases h.2 with ⟨q, _⟩ | ⟨g, _, _, q, _⟩
  · simp only [Value.slice.injEq] at q; omega
  · cases q; exact ⟨g, rfl⟩
theorem PatSep.at {T : TypeId} {w : World} : ∀ {p : Pat} {cs : List Value} {K : Nat → Prop}, PatSep T w p cs K → PatAt K w p cs := by
  intro p cs K h
  induction h with
  | @mk k pl mi nt mn mx l ao cap K xs Ks hpl hmi hO hg hs hd hc ih =>
    unfold PatAt
    obtain ⟨h1, h2⟩ := own_len hO
    refine ⟨ao, cap, rfl, hpl, hmi, h1, h2, PatsAt.mk fun j hj => ?_⟩
    obtain ⟨g, rfl⟩ := own_some hO (by omega)
    refine ⟨g, 0, chunk xs j, rfl, (hg g rfl).1, (hO.lt g rfl).2, by rw [Nat.zero_add, Nat.zero_add]; exact own_chunk hO j, PatAt.mono (fun b hb => hs j b hj hb) (ih j hj)⟩
end Go.Ab
