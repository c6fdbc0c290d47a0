/- Rows of patterns of one's own, as they grow. No program is named. -/
import Derived.Test.YtedhogbocifipaaGreatDoorGa09
namespace Go.Ab
open Go.RowKit

/-- The elements of the row v are these patterns, each in blocks of its own, from lo on. -/
def MirRow (T : TypeId) (W : World) (lo : Nat) (v : Value) (qs : List Pat) (xs : List Value) : Prop :=
 W.ownsRow lo T 7 v qs.length xs ∧ ∃ Ks : Nat → Nat → Prop, (∀ i (h : i < qs.length), PatSep T W qs[i] (chunk xs i) (Ks i)) ∧ (∀ i b, Ks i b → lo ≤ b ∧ b < W.heap.size ∧ v.ownBlock ≠ some b) ∧ (∀ i i' b, i ≠ i' → Ks i b → ¬ Ks i' b)

theorem MirRow.nil (T : TypeId) (W : World) (lo : Nat) : MirRow T W lo (.slice none 0 0) [] [] :=
 ⟨World.ownsRow_nil _ _ _ _, fun _ _ => False, fun i h => by simp at h, fun _ _ h => h.elim, fun _ _ _ _ h => h.elim⟩
theorem MirRow.ext {T : TypeId} {A B : World} {lo : Nat} {v : Value} {qs : List Pat} {xs : List Value} (h : MirRow T A lo v qs xs) {S : Nat → Prop} (ht : Turn S A B) (hS : ∀ b, lo ≤ b → b < A.heap.size → ¬ S b) : MirRow T B lo v qs xs := by
 obtain ⟨h1, Ks, h2, h3, h4⟩ := h
 refine ⟨own_keep h1 ht fun g hg => hS g (h1.lt g hg).1 (h1.lt g hg).2, Ks, fun i hi => (h2 i hi).keep ht fun b hb => hS b (h3 i b hb).1 (h3 i b hb).2.1, fun i b hb => ?_, h4⟩
 obtain ⟨q1, q2, q3⟩ := h3 i b hb
 exact ⟨q1, Nat.lt_of_lt_of_le q2 ht.size, q3⟩
theorem MirRow.own {T : TypeId} {W : World} {lo : Nat} {v : Value} {qs : List Pat} {xs : List Value} (h : MirRow T W lo v qs xs) : W.ownsRow lo T 7 v qs.length xs := h.1
/-- One more. -/
theorem MirRow.push {T : TypeId} {W W2 W3 : World} {lo m : Nat} {v v' : Value} {qs : List Pat} {q : Pat} {xs cs : List Value} (h : MirRow T W lo v qs xs) (hE : Ext W W2) (hm : W.heap.size ≤ m)
  (hq : PatSep T W2 q cs (fun b => m ≤ b ∧ b < W2.heap.size)) (hc : cs.length = 7) (hlo : lo ≤ m)
  (hT : Turn (fun b => v.ownBlock = some b) W2 W3) (hO : W3.ownsRow lo T 7 v' (qs.length + 1) (xs ++ cs)) (hB : v'.ownBlock = v.ownBlock ∨ ∃ b, v'.ownBlock = some b ∧ W2.heap.size ≤ b) : MirRow T W3 lo v' (qs ++ [q]) (xs ++ cs) := by
 obtain ⟨h1, Ks, h2, h3, h4⟩ := h
 have hvb : ∀ b, v.ownBlock = some b → b < W.heap.size := fun b hb => (h1.lt b hb).2
 have hne : ∀ b, b < W2.heap.size → v.ownBlock ≠ some b → v'.ownBlock ≠ some b := fun b hb hn e => by
  rcases hB with h | ⟨b', h, hh⟩
  ·exact hn (h ▸ e)
  ·rw [h] at e; cases e; omega
 have hsz := hE.size
 have hsz3 := hT.size
 refine ⟨by rw [List.length_append]; exact hO, fun i b => if i < qs.length then Ks i b else i = qs.length ∧ m ≤ b ∧ b < W2.heap.size, fun i hi => ?_, fun i b hb => ?_, fun i i' b hii hb hb' => ?_⟩
 ·rw [List.length_append, List.length_singleton] at hi
  by_cases hiq : i < qs.length
  ·rw [List.getElem_append_left hiq, chunk_append h1.1 hiq]
   have h5 := ((h2 i hiq).keep hE fun _ _ h => h).keep hT fun b hb e => (h3 i b hb).2.2 e
   exact h5.mono fun b hb => by simp only [if_pos hiq]; exact hb
  ·have e : i = qs.length := by omega
   subst e
   have e2 : (qs ++ [q])[qs.length] = q := by simp
   rw [e2, chunk_new h1.1 hc]
   have h5 := hq.keep hT fun b hb e => by have := hvb b e; omega
   exact h5.mono fun b hb => by show (if qs.length < qs.length then _ else _); rw [if_neg (by omega)]; exact ⟨rfl, hb⟩
 ·by_cases hiq : i < qs.length
  ·simp only [if_pos hiq] at hb
   obtain ⟨q1, q2, q3⟩ := h3 i b hb
   exact ⟨q1, by omega, hne b (by omega) q3⟩
  ·simp only [if_neg hiq] at hb
   exact ⟨by omega, by omega, hne b (by omega) fun e => by have := hvb b e; omega⟩
 ·by_cases hiq : i < qs.length
  ·simp only [if_pos hiq] at hb
   by_cases hiq' : i' < qs.length
   ·simp only [if_pos hiq'] at hb'
    exact h4 i i' b hii hb hb'
   ·simp only [if_neg hiq'] at hb'
    have := (h3 i b hb).2.1
    omega
  ·simp only [if_neg hiq] at hb
   by_cases hiq' : i' < qs.length
   ·simp only [if_pos hiq'] at hb'
    have := (h3 i' b hb').2.1
    omega
   ·simp only [if_neg hiq'] at hb'
    omega
/-- The other way round. -/
theorem MirRow.reverse {T : TypeId} {W W2 : World} {lo : Nat} {v : Value} {qs : List Pat} {xs ys : List Value} (h : MirRow T W lo v qs xs) (hT : Turn (fun b => v.ownBlock = some b) W W2) (hO : W2.ownsRow lo T 7 v qs.length ys)
  (hch : ∀ k, k < qs.length → chunk ys k = chunk xs (qs.length - 1 - k)) : MirRow T W2 lo v qs.reverse ys := by
 obtain ⟨h1, Ks, h2, h3, h4⟩ := h
 refine ⟨by rw [List.length_reverse]; exact hO, fun i b => i < qs.length ∧ Ks (qs.length - 1 - i) b, fun i hi => ?_, fun i b hb => ?_, fun i i' b hii hb hb' => ?_⟩
 ·rw [List.length_reverse] at hi
  rw [hch i hi]
  have e : qs.reverse[i]'(by rw [List.length_reverse]; exact hi) = qs[qs.length - 1 - i] := by rw [List.getElem_reverse]
  rw [e]
  exact ((h2 (qs.length - 1 - i) (by omega)).keep hT fun b hb e => (h3 _ b hb).2.2 e).mono fun b hb => ⟨hi, hb⟩
 ·obtain ⟨q1, q2, q3⟩ := h3 _ b hb.2
  exact ⟨q1, Nat.lt_of_lt_of_le q2 hT.size, q3⟩
 ·exact h4 _ _ b (by omega) hb.2 hb'.2
/-- All of them, as the parts of a node. -/
theorem MirRow.node {T : TypeId} {W : World} {lo : Nat} {ao : Option Addr} {n cap : Nat} {qs : List Pat} {xs : List Value} (h : MirRow T W lo (.slice ao n cap) qs xs) (hn : qs.length = n) (k : Int) {pl mi : Nat} (hpl : pl < 4294967296) (hmi : mi < 4294967296) (nt : Bool) (mn mx : Int) {lo' : Nat} (hlo : lo' ≤ lo) :
  PatSep T W (.node k pl mi nt mn mx qs) (patCells k pl mi nt mn mx ao n cap) (fun b => lo' ≤ b ∧ b < W.heap.size) := by
 subst hn
 obtain ⟨h1, Ks, h2, h3, h4⟩ := h
 exact .mk xs Ks hpl hmi (own_base h1 (by omega)) (fun g hg => ⟨⟨Nat.le_trans hlo (h1.lt g hg).1, (h1.lt g hg).2⟩, fun j _ hk => (h3 j g hk).2.2 hg⟩) (fun j b _ hk => ⟨Nat.le_trans hlo (h3 j b hk).1, (h3 j b hk).2.1⟩) (fun i j b _ _ hij hi => h4 i j b hij hi) h2
/-- The cells of the row are plain. -/
theorem PatSep.cells {T : TypeId} {w : World} {p : Pat} {cs : List Value} {K : Nat → Prop} (h : PatSep T w p cs K) : cs.length = 7 ∧ ∀ v ∈ cs, v.oneCell' = true := by
 cases h
 refine ⟨rfl, fun v hv => ?_⟩
 simp only [patCells, List.mem_cons, List.not_mem_nil, or_false] at hv
 rcases hv with rfl | rfl | rfl | rfl | rfl | rfl | rfl <;> rfl
theorem MirRow.one {T : TypeId} {W : World} {lo : Nat} {v : Value} {qs : List Pat} {xs : List Value} (h : MirRow T W lo v qs xs) : ∀ u ∈ xs, u.oneCell' = true := by
 obtain ⟨h1, Ks, h2, h3, h4⟩ := h
 intro u hu
 obtain ⟨i, hi, rfl⟩ := List.getElem_of_mem hu
 have hl := h1.1
 have hi7 : i / 7 < qs.length := by omega
 refine (h2 (i / 7) hi7).cells.2 _ ?_
 have e : (chunk xs (i / 7))[i % 7]? = xs[i]? := by
  rw [chunk_get (by omega)]; congr 1; omega
 rw [List.getElem?_eq_getElem hi] at e
 exact List.mem_of_getElem? e
end Go.Ab
