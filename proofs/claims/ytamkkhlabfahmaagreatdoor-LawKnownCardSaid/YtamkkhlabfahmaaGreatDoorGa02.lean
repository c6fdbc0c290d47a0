/- PLAIN: what patterns are compiled to; valid patterns. Compiled patterns in memory; sound.in, edge.in. -/
import Derived.Test.YtamkkhlabfahmaaGreatDoorGa00
import Derived.Test.YtamkkhlabfahmaaGreatDoorGa01
set_option maxRecDepth 100000
set_option maxHeartbeats 8000000
namespace Go.Ab

inductive PartS where
 | sound (pl mi : Nat) (nt : Bool)
 | edge (e : Bool)
 | seq (l : List PartS)
 | alt (l : List PartS)
 | rep (of : PartS) (mn mx : Int)

mutual
def relS (w : Wd) : PartS → Bin2
 | .sound pl mi nt => soundB w (pl, mi) nt
 | .edge e => edgeB (if e then w.length else 0)
 | .seq l => seqS w l (idB w.length)
 | .alt l => altS w l noB
 | .rep p mn mx => repB (relS w p) w.length mn.toNat (extra w.length mn mx)
def seqS (w : Wd) : List PartS → Bin2 → Bin2
 | [], X => X
 | p :: l, X => seqS w l (comp X (relS w p))
def altS (w : Wd) : List PartS → Bin2 → Bin2
 | [], X => X
 | p :: l, X => altS w l (orB X (relS w p))
end
theorem seqS_snoc (w : Wd) (p : PartS) : ∀ (l : List PartS) (X : Bin2), seqS w (l ++ [p]) X = comp (seqS w l X) (relS w p)
 | [], X => by simp [seqS]
 | q :: l, X => by rw [List.cons_append]; unfold seqS; exact seqS_snoc w p l _
theorem altS_snoc (w : Wd) (p : PartS) : ∀ (l : List PartS) (X : Bin2), altS w (l ++ [p]) X = orB (altS w l X) (relS w p)
 | [], X => by simp [altS]
 | q :: l, X => by rw [List.cons_append]; unfold altS; exact altS_snoc w p l _

mutual
theorem relS_mono (w : Wd) : ∀ p, Mono w.length (relS w p)
 | .sound pl mi nt => by unfold relS; exact Mono.sound _ _ _
 | .edge e => by unfold relS; exact Mono.edge (by cases e <;> simp)
 | .seq l => by unfold relS; exact seqS_mono w l _ (Mono.id _)
 | .alt l => by unfold relS; exact altS_mono w l _ (Mono.no _)
 | .rep p mn mx => by unfold relS repB; exact (Mono.pow (relS_mono w p) _).comp (Mono.pow ((relS_mono w p).or (Mono.id _)) _)
theorem seqS_mono (w : Wd) : ∀ (l : List PartS) (X : Bin2), Mono w.length X → Mono w.length (seqS w l X)
 | [], _, h => by unfold seqS; exact h
 | p :: l, X, h => by unfold seqS; exact seqS_mono w l _ (h.comp (relS_mono w p))
theorem altS_mono (w : Wd) : ∀ (l : List PartS) (X : Bin2), Mono w.length X → Mono w.length (altS w l X)
 | [], _, h => by unfold altS; exact h
 | p :: l, X, h => by unfold altS; exact altS_mono w l _ (h.or (relS_mono w p))
end

/-! ### Compiled patterns -/
mutual
def cmp : Pat → PartS
 | .node k pl mi nt mn mx l =>
  if k = 1 then .sound pl mi nt
  else if k = 2 then .edge false
  else if k = 6 then .edge true
  else if k = 4 then .alt (cmpL l)
  else if k = 5 then .rep ((cmpL l).headD (.seq [])) mn mx
  else .seq (cmpL l)
def cmpL : List Pat → List PartS
 | [] => []
 | p :: l => cmp p :: cmpL l
end
theorem cmpL_map (l : List Pat) : cmpL l = l.map cmp := by
 induction l with
 | nil => rfl
 | cons p l ih => unfold cmpL; rw [ih]; rfl

mutual
/-- Every node is valid by itself. -/
def okPat : Pat → Prop
 | .node k pl mi nt mn mx l => nodeE (.node k pl mi nt mn mx l) = 0 ∧ l.length ≤ 40 ∧ okPats l
def okPats : List Pat → Prop
 | [] => True
 | p :: l => okPat p ∧ okPats l
end
theorem okPats_iff {l : List Pat} : okPats l ↔ ∀ p ∈ l, okPat p := by
 induction l with
 | nil => simp [okPats]
 | cons p l ih => unfold okPats; rw [ih]; simp
theorem walkP_up (p : Pat) (n : Nat) (hn40 : n ≤ 40) (h : (walkP p n).2 = 0) : n + 1 ≤ (walkP p n).1 := by
 cases p with
 | node k pl mi nt mn mx l =>
  unfold walkP at h ⊢
  by_cases hn : n = 40
  ·rw [if_pos hn] at h; cases h
  ·rw [if_neg hn] at h ⊢
   by_cases he : nodeE (.node k pl mi nt mn mx l) = 0
   ·rw [if_pos he]
    exact (walkL_chk l (n + 1) [] (by omega)).1.2
   ·rw [if_neg he] at h; exact absurd h he
theorem walkL_len : ∀ (l : List Pat) (n : Nat), n ≤ 40 → (walkL l n).2 = 0 → n + l.length ≤ (walkL l n).1
 | [], n, _, _ => by simp [walkL]
 | p :: l, n, hn, h => by
  unfold walkL bindE at h ⊢
  by_cases he : (walkP p n).2 = 0
  ·rw [if_pos he] at h ⊢
   have h1 := walkP_up p n hn he
   have h2 := walkL_len l _ (walkP_chk p n [] hn).1.1 h
   simp only [List.length_cons]; omega
  ·rw [if_neg he] at h; exact absurd h he
mutual
theorem walkP_ok : ∀ (p : Pat) (n : Nat), n ≤ 40 → (walkP p n).2 = 0 → okPat p
 | .node k pl mi nt mn mx l, n, hn40, h => by
  unfold walkP at h
  unfold okPat
  by_cases hn : n = 40
  ·rw [if_pos hn] at h; cases h
  ·rw [if_neg hn] at h
   by_cases he : nodeE (.node k pl mi nt mn mx l) = 0
   ·rw [if_pos he] at h
    have h1 := walkL_len l (n + 1) (by omega) h
    have h2 := (walkL_chk l (n + 1) [] (by omega)).1.1
    exact ⟨he, by omega, walkL_ok l _ (by omega) h⟩
   ·rw [if_neg he] at h; exact absurd h he
theorem walkL_ok : ∀ (l : List Pat) (n : Nat), n ≤ 40 → (walkL l n).2 = 0 → okPats l
 | [], _, _, _ => by unfold okPats; trivial
 | p :: l, n, hn, h => by
  unfold walkL bindE at h
  unfold okPats
  by_cases he : (walkP p n).2 = 0
  ·rw [if_pos he] at h
   exact ⟨walkP_ok p n hn he, walkL_ok l _ (walkP_chk p n [] hn).1.1 h⟩
  ·rw [if_neg he] at h; exact absurd h he
end
theorem chkP_ok {p : Pat} (h : chkP p = 0) : okPat p := walkP_ok p 0 (by omega) (by rw [walkP_zero]; exact h)

theorem ite_zero {c : Prop} [Decidable c] (h : (if c then (0 : Int) else 14) = 0) : c := by
 by_cases hc : c
 ·exact hc
 ·rw [if_neg hc] at h; cases h
theorem ite_two {c : Prop} [Decidable c] {x : Int} (h : (if c then 2 else x) = 0) : ¬ c ∧ x = 0 := by
 by_cases hc : c
 ·rw [if_pos hc] at h; cases h
 ·rw [if_neg hc] at h; exact ⟨hc, h⟩

/-- What a valid node is like. -/
theorem nodeE_zero {k : Int} {pl mi : Nat} {nt : Bool} {mn mx : Int} {l : List Pat} (h : nodeE (.node k pl mi nt mn mx l) = 0) :
  (0 ≤ k ∧ k ≤ 6) ∧ (k ≠ 1 → pl = 0 ∧ mi = 0 ∧ nt = false) ∧ (k ≠ 3 → k ≠ 4 → k ≠ 5 → l = []) ∧ (k ≠ 5 → mn = 0 ∧ mx = 0) ∧
   (k = 5 → l.length = 1 ∧ 0 ≤ mn ∧ mn ≤ 32 ∧ (mx = -1 ∨ mn ≤ mx ∧ mx ≤ 32)) ∧ okSound pl mi = true := by
 unfold nodeE at h
 simp only [Pat.k, Pat.pl, Pat.mi, Pat.nt, Pat.mn, Pat.mx, Pat.l] at h
 obtain ⟨h1, h⟩ := ite_two h
 obtain ⟨h2, h⟩ := ite_two h
 obtain ⟨h3, h⟩ := ite_two h
 obtain ⟨h4, h⟩ := ite_two h
 obtain ⟨h5, h⟩ := ite_two h
 have h6 : okSound pl mi = true := ite_zero h
 refine ⟨by omega, fun hk => ?_, fun a b c => ?_, fun hk => by omega, fun hk => ?_, h6⟩
 ·refine ⟨?_, ?_, ?_⟩
  ·exact Classical.byContradiction fun hh => h2 ⟨hk, .inl hh⟩
  ·exact Classical.byContradiction fun hh => h2 ⟨hk, .inr (.inl hh)⟩
  ·cases nt
   ·rfl
   ·exact absurd ⟨hk, .inr (.inr rfl)⟩ h2
 ·exact List.eq_nil_of_length_eq_zero (Classical.byContradiction fun hh => h3 ⟨a, b, c, hh⟩)
 ·refine ⟨Classical.byContradiction fun hh => h5 ⟨hk, .inl hh⟩, ?_, ?_, ?_⟩
  ·apply Int.not_lt.1; exact fun hh => h5 ⟨hk, .inr (.inl hh)⟩
  ·apply Int.not_lt.1; exact fun hh => h5 ⟨hk, .inr (.inr (.inl hh))⟩
  ·by_cases e : mx = -1
   ·exact .inl e
   ·refine .inr ⟨?_, ?_⟩
    ·apply Int.not_lt.1; exact fun hh => h5 ⟨hk, .inr (.inr (.inr ⟨e, .inl hh⟩))⟩
    ·apply Int.not_lt.1; exact fun hh => h5 ⟨hk, .inr (.inr (.inr ⟨e, .inr hh⟩))⟩

theorem altS_or (w : Wd) : ∀ (l : List PartS) (X Y : Bin2), altS w l (orB X Y) = orB X (altS w l Y)
 | [], X, Y => by unfold altS; rfl
 | p :: l, X, Y => by unfold altS; rw [orB_assoc, altS_or w l]
mutual
theorem relS_cmp (w : Wd) : ∀ p, okPat p → relS w (cmp p) = relP w p
 | .node k pl mi nt mn mx l, h => by
  unfold okPat at h
  obtain ⟨_, _, _, _, h5, _⟩ := nodeE_zero h.1
  unfold cmp relP
  split
  ·unfold relS; rfl
  ·split
   ·unfold relS; rfl
   ·split
    ·unfold relS; rfl
    ·split
     ·unfold relS; exact (altS_cmp w l h.2.2)
     ·split
      ·rename_i hk
       have hl := (h5 hk).1
       match l, hl, h.2.2 with
       | [q], _, h2 =>
        unfold okPats at h2
        unfold relS oneB
        show repB (relS w (cmp q)) _ _ _ = _
        rw [relS_cmp w q h2.1]
      ·unfold relS; exact seqS_cmp w l _ h.2.2
theorem seqS_cmp (w : Wd) : ∀ (l : List Pat) (X : Bin2), okPats l → seqS w (cmpL l) X = seqB w l X
 | [], X, _ => by unfold cmpL seqS seqB; rfl
 | p :: l, X, h => by
  unfold okPats at h
  unfold cmpL seqS seqB
  rw [relS_cmp w p h.1, seqS_cmp w l _ h.2]
theorem altS_cmp (w : Wd) : ∀ (l : List Pat), okPats l → altS w (cmpL l) noB = altB w l
 | [], _ => by unfold cmpL altS altB; rfl
 | p :: l, h => by
  unfold okPats at h
  unfold cmpL altS altB
  rw [no_orB, ← orB_no (relS w (cmp p)), altS_or, relS_cmp w p h.1, altS_cmp w l h.2]
end
end Go.Ab

namespace Go.Proofs.YtamkkhlabfahmaaGreatDoor
open Go.RowKit Go.Ab

mutual
/-- This value is this part; all that it reaches lies in blocks of K. -/
def PartAt (K : Nat → Prop) (w : World) : PartS → Value → Prop
 | .sound pl mi nt, v => v = .iface 243 (.agg #[.int .u32 (pl : Int), .int .u32 (mi : Int), .bool nt]) ∧ pl < 4294967296 ∧ mi < 4294967296
 | .edge e, v => v = .iface 245 (.agg #[.bool e])
 | .seq l, v => ∃ ao cap, v = .iface 250 (.agg #[.slice ao l.length cap]) ∧ l.length ≤ maxLen ∧ PartsAt K w l ao 0
 | .alt l, v => ∃ ao cap, v = .iface 247 (.agg #[.slice ao l.length cap]) ∧ l.length ≤ maxLen ∧ PartsAt K w l ao 0
 | .rep p mn mx, v => ∃ u, v = .iface 249 (.agg #[u, .int .i64 mn, .int .i64 mx]) ∧ (0 ≤ mn ∧ mn ≤ 32 ∧ (mx = -1 ∨ mn ≤ mx ∧ mx ≤ 32)) ∧ PartAt K w p u
def PartsAt (K : Nat → Prop) (w : World) : List PartS → Option Addr → Nat → Prop
 | [], _, _ => True
 | p :: l, ao, i => (∃ g off u, ao = some ⟨g, off, none⟩ ∧ K g ∧ g < w.heap.size ∧ w.cell? ⟨g, off + i, none⟩ = some u ∧ PartAt K w p u) ∧ PartsAt K w l ao (i + 1)
end
theorem PartsAt.get {K : Nat → Prop} {w : World} : ∀ {l : List PartS} {ao : Option Addr} {i : Nat}, PartsAt K w l ao i → ∀ j (h : j < l.length), ∃ g off u, ao = some ⟨g, off, none⟩ ∧ K g ∧ g < w.heap.size ∧ w.cell? ⟨g, off + (i + j), none⟩ = some u ∧ PartAt K w l[j] u
 | [], _, _, _, j, h => by simp at h
 | p :: l, ao, i, h, 0, _ => by unfold PartsAt at h; exact h.1
 | p :: l, ao, i, h, j + 1, hj => by
  unfold PartsAt at h
  have := PartsAt.get h.2 j (by simpa using hj)
  rw [show i + (j + 1) = i + 1 + j by omega]
  exact this
theorem PartsAt.mk {K : Nat → Prop} {w : World} : ∀ {l : List PartS} {ao : Option Addr} {i : Nat}, (∀ j (h : j < l.length), ∃ g off u, ao = some ⟨g, off, none⟩ ∧ K g ∧ g < w.heap.size ∧ w.cell? ⟨g, off + (i + j), none⟩ = some u ∧ PartAt K w l[j] u) → PartsAt K w l ao i
 | [], _, _, _ => by unfold PartsAt; trivial
 | p :: l, ao, i, h => by
  unfold PartsAt
  refine ⟨h 0 (by simp), PartsAt.mk fun j hj => ?_⟩
  have := h (j + 1) (by simpa using hj)
  rw [show i + (j + 1) = i + 1 + j by omega] at this
  exact this
mutual
theorem PartAt.keep {K S : Nat → Prop} {A B : World} (ht : Turn S A B) (hS : ∀ g, K g → ¬ S g) : ∀ {p : PartS} {v : Value}, PartAt K A p v → PartAt K B p v
 | .sound pl mi nt, v, h => by unfold PartAt at h ⊢; exact h
 | .edge e, v, h => by unfold PartAt at h ⊢; exact h
 | .seq l, v, h => by
  unfold PartAt at h ⊢
  obtain ⟨ao, cap, h1, h2, h3⟩ := h
  exact ⟨ao, cap, h1, h2, PartsAt.keep ht hS h3⟩
 | .alt l, v, h => by
  unfold PartAt at h ⊢
  obtain ⟨ao, cap, h1, h2, h3⟩ := h
  exact ⟨ao, cap, h1, h2, PartsAt.keep ht hS h3⟩
 | .rep p mn mx, v, h => by
  unfold PartAt at h ⊢
  obtain ⟨u, h1, h2, h3⟩ := h
  exact ⟨u, h1, h2, PartAt.keep ht hS h3⟩
theorem PartsAt.keep {K S : Nat → Prop} {A B : World} (ht : Turn S A B) (hS : ∀ g, K g → ¬ S g) : ∀ {l : List PartS} {ao : Option Addr} {i : Nat}, PartsAt K A l ao i → PartsAt K B l ao i
 | [], _, _, _ => by unfold PartsAt; trivial
 | p :: l, ao, i, h => by
  unfold PartsAt at h ⊢
  obtain ⟨⟨g, off, u, h1, h2, h3, h4, h5⟩, h6⟩ := h
  exact ⟨⟨g, off, u, h1, h2, Nat.lt_of_lt_of_le h3 ht.size, ht.cell_some h4 (hS g h2), PartAt.keep ht hS h5⟩, PartsAt.keep ht hS h6⟩
end
theorem PartAt.ext {K : Nat → Prop} {A B : World} {p : PartS} {v : Value} (h : PartAt K A p v) (ht : Ext A B) : PartAt K B p v := h.keep ht fun _ _ h => h
theorem PartsAt.ext {K : Nat → Prop} {A B : World} {l : List PartS} {ao : Option Addr} {i : Nat} (h : PartsAt K A l ao i) (ht : Ext A B) : PartsAt K B l ao i := h.keep ht fun _ _ h => h
mutual
/-- All that a part reaches lies below the heap's end. -/
theorem PartAt.mono {K L : Nat → Prop} {A : World} (hK : ∀ g, g < A.heap.size → K g → L g) : ∀ {p : PartS} {v : Value}, PartAt K A p v → PartAt L A p v
 | .sound pl mi nt, v, h => by unfold PartAt at h ⊢; exact h
 | .edge e, v, h => by unfold PartAt at h ⊢; exact h
 | .seq l, v, h => by
  unfold PartAt at h ⊢
  obtain ⟨ao, cap, h1, h2, h3⟩ := h
  exact ⟨ao, cap, h1, h2, PartsAt.mono hK h3⟩
 | .alt l, v, h => by
  unfold PartAt at h ⊢
  obtain ⟨ao, cap, h1, h2, h3⟩ := h
  exact ⟨ao, cap, h1, h2, PartsAt.mono hK h3⟩
 | .rep p mn mx, v, h => by
  unfold PartAt at h ⊢
  obtain ⟨u, h1, h2, h3⟩ := h
  exact ⟨u, h1, h2, PartAt.mono hK h3⟩
theorem PartsAt.mono {K L : Nat → Prop} {A : World} (hK : ∀ g, g < A.heap.size → K g → L g) : ∀ {l : List PartS} {ao : Option Addr} {i : Nat}, PartsAt K A l ao i → PartsAt L A l ao i
 | [], _, _, _ => by unfold PartsAt; trivial
 | p :: l, ao, i, h => by
  unfold PartsAt at h ⊢
  obtain ⟨⟨g, off, u, h1, h2, h3, h4, h5⟩, h6⟩ := h
  exact ⟨⟨g, off, u, h1, hK g h3 h2, h3, h4, PartAt.mono hK h5⟩, PartsAt.mono hK h6⟩
end

/-- The rows of a sound, ahead of the place k. -/
def sndF (w : Wd) (c : Nat × Nat) (nt : Bool) (k : Nat) : Nat → Nat := fun a => if a < k then rowM (soundB w c nt) a else 0
theorem rowM_sound {w : Wd} {c : Nat × Nat} {nt : Bool} {a : Nat} (hw : w.length ≤ 32) (ha : a < w.length) : rowM (soundB w c nt) a = if sat (w.getD a (0, 0)) c != nt then 2 ^ (a + 1) else 0 := by
 by_cases h : (sat (w.getD a (0, 0)) c != nt) = true
 ·rw [if_pos h, two_pow_mask (n := 33) (by omega)]
  exact mask_congr fun i _ => by
   apply Bool.eq_iff_iff.2
   simp only [soundB, h, ha, decide_true, Bool.and_true, beq_iff_eq]
 ·have h : (sat (w.getD a (0, 0)) c != nt) = false := by simpa using h
  rw [h, if_neg (by simp)]
  have e : soundB w c nt a = fun _ => false := by funext b; simp only [soundB, h, Bool.and_false]
  rw [rowM, e, mask_zero]

theorem sound_in {w : World} {pl mi : Nat} {nt : Bool} (hpl : pl < 4294967296) (hmi : mi < 4294967296) {v : Value} {ws : Wd} (hv : WordAt w v ws) (hl : ws.length ≤ 32) :
  Calls Tryz.prog 248 #[.agg #[.int .u32 (pl : Int), .int .u32 (mi : Int), .bool nt], v] w fun e w' => e = .returned (.agg (rowArr (rowM (soundB ws (pl, mi) nt)))) ∧ Ext w w' := by
 have z1 := zero_rel
 have z2 := relArr_size noB
 have z3 := relArr_ne noB
 obtain ⟨ao, cap, rfl, _⟩ := hv.slice
 obtain ⟨N, hN⟩ : ∃ N, ws.length = N := ⟨_, rfl⟩
 have HN := Lib.hid hN
 rw [hN] at hl hv ⊢
 clear hN
 go_enter Tryz.func248, Tryz.ntmps248
 go_wp2
 clear z1 z2 z3
 obtain ⟨B, hB⟩ : ∃ B, w.heap.size = B := ⟨_, rfl⟩
 have hx : ((w.alloc (.cells #[.int .u32 (pl : Int), .int .u32 (mi : Int), .bool nt] 243)).alloc (.cells (relArr noB) 223)).heap[B]? = some (.cells #[.int .u32 (pl : Int), .int .u32 (mi : Int), .bool nt] 243 (0, 0)) := by
  subst hB; exact new_keep (new_at rfl)
 have hr : RowsAt ((w.alloc (.cells #[.int .u32 (pl : Int), .int .u32 (mi : Int), .bool nt] 243)).alloc (.cells (relArr noB) 223)) (B + 1) (sndF ws (pl, mi) nt 0) := by
  subst hB
  refine (new_at (by simp)).trans ?_
  rw [rowArr_rel, rowArr_congr (g := sndF ws (pl, mi) nt 0) fun a _ => by rw [rowM_no]; simp [sndF]]
 have hE : Ext w ((w.alloc (.cells #[.int .u32 (pl : Int), .int .u32 (mi : Int), .bool nt] 243)).alloc (.cells (relArr noB) 223)) := ((Turn.refl _ w).alloc _).alloc _
 generalize ((w.alloc (.cells #[.int .u32 (pl : Int), .int .u32 (mi : Int), .bool nt] 243)).alloc (.cells (relArr noB) 223)) = w1 at hx hr hE ⊢
 rw [hB]
 have HB := Lib.hid hB
 have hB1 : B + 1 < w1.heap.size := hr.lt
 clear hB
 refine wp_loop (fun a W => ∃ (k : Nat), k ≤ N ∧ a.defers = [] ∧ (a.tmps.size = 38 ∧ a.tmps.getD 2 undef = .pointer (some ⟨B, 0, none⟩) ∧ a.tmps.getD 4 undef = .pointer (some ⟨B + 1, 0, none⟩) ∧ a.tmps.getD 7 undef = .slice ao N cap ∧ a.tmps.getD 8 undef = .int .i64 N ∧ a.tmps.getD 9 undef = .int .i64 k) ∧
   W.heap[B]? = some (.cells #[.int .u32 (pl : Int), .int .u32 (mi : Int), .bool nt] 243 (0, 0)) ∧ RowsAt W (B + 1) (sndF ws (pl, mi) nt k) ∧ Ext w W)
  (fun a _ => N - (intOf (a.tmps.getD 9 undef)).toNat) ?_ ?_
 ·exact ⟨0, by omega, rfl, ⟨rfl, rfl, rfl, rfl, rfl, rfl⟩, hx, hr, hE⟩
 clear hx hr hE
 rintro ⟨t, _⟩ W ⟨k, hk, hds, ⟨hsz, f2, f4, f7, f8, f9⟩, hx, hr, hE⟩
 subst hds
 obtain ⟨u', hu⟩ := frame_fun hsz
 obtain ⟨u, rfl⟩ : ∃ x, x = u' := ⟨_, rfl⟩
 have hu' : t = #[u 0, u 1, u 2, u 3, u 4, u 5, u 6, u 7, u 8, u 9, u 10, u 11, u 12, u 13, u 14, u 15, u 16, u 17, u 18, u 19, u 20, u 21, u 22, u 23, u 24, u 25, u 26, u 27, u 28, u 29, u 30, u 31, u 32, u 33, u 34, u 35, u 36, u 37] := hu
 clear hu
 subst hu'
 change u 2 = _ at f2
 change u 4 = _ at f4
 change u 7 = _ at f7
 change u 8 = _ at f8
 change u 9 = _ at f9
 rw [f2, f4, f7, f8, f9]
 clear f2 f4 f7 f8 f9 hsz
 by_cases hkN : k < N
 ·have h1 : (k : Int) < (N : Int) := by omega
  have h2 : (k : Int) < 33 := by omega
  have h4 : (k : Int) + 1 < 64 := by omega
  have hkl : k < ws.length := by rw [HN.out]; exact hkN
  obtain ⟨g, off, cap', he, hg, d1, d2⟩ := (hv.ext hE).at hkl
  simp only [Value.slice.injEq] at he
  obtain ⟨rfl, hq', rfl⟩ := he
  clear hq'
  obtain ⟨hs1, hs2⟩ := hv.2.get k hkl
  have hrow := rowM_sound (c := (pl, mi)) (nt := nt) (by rw [HN.out]; exact hl) hkl
  obtain ⟨s, hs⟩ : ∃ s, ws.getD k (0, 0) = s := ⟨_, rfl⟩
  rw [hs] at d1 d2 hs1 hs2 hrow
  have hq := sat_bits (s := s) (c := (pl, mi)) hs1 hs2 hpl hmi
  obtain ⟨q, hq0⟩ : ∃ q, sat s (pl, mi) = q := ⟨_, rfl⟩
  rw [hq0] at hq hrow
  obtain ⟨sp, hsp⟩ : ∃ x, s.1 = x := ⟨_, rfl⟩
  obtain ⟨sm, hsm⟩ : ∃ x, s.2 = x := ⟨_, rfl⟩
  rw [hsp] at d1 hs1 hq
  rw [hsm] at d2 hs2 hq
  have e1 : sndF ws (pl, mi) nt k k = 0 := by unfold sndF; rw [if_neg (by omega)]
  have hw := pow_u64 (k := k + 1) (by omega)
  have hal : Ext W (W.alloc (.cells #[.int .u32 (sp : Int), .int .u32 (sm : Int)] 24)) := (Turn.refl _ W).alloc _
  have hxA := hal.heap hx id
  have hrA := hr.keep hal id
  have hEA := hE.trans hal
  have x0 : (W.alloc (.cells #[.int .u32 (sp : Int), .int .u32 (sm : Int)] 24)).cell? ⟨B, 0, none⟩ = some (.int .u32 (pl : Int)) := by rw [cell_of_row _ _ _ _ _ _ hxA]; rfl
  have x1 : (W.alloc (.cells #[.int .u32 (sp : Int), .int .u32 (sm : Int)] 24)).cell? ⟨B, 1, none⟩ = some (.int .u32 (mi : Int)) := by rw [cell_of_row _ _ _ _ _ _ hxA]; rfl
  have x2 : (W.alloc (.cells #[.int .u32 (sp : Int), .int .u32 (sm : Int)] 24)).cell? ⟨B, 2, none⟩ = some (.bool nt) := by rw [cell_of_row _ _ _ _ _ _ hxA]; rfl
  have c1 := hrA.cell (a := k) (by omega)
  rw [e1] at c1
  have fr := hrA.free k
  obtain ⟨P, hP⟩ : ∃ P, 2 ^ (k + 1) = P := ⟨_, rfl⟩
  rw [hP] at hw hrow
  have hst := (hr.store k P).keep (Turn.alloc (Turn.refl (fun _ => False) _) (.cells #[.int .u32 (sp : Int), .int .u32 (sm : Int)] 24)) id
  have hTs := (Turn.set1 W (B + 1) k (.int .u64 (P : Int))).alloc (.cells #[.int .u32 (sp : Int), .int .u32 (sm : Int)] 24)
  have hxS := hTs.heap hx (by omega)
  have hES := hE.after hTs (fun b' h1 h2 => by have := HB.out; omega)
  have hBW : B + 1 < W.heap.size := hr.lt
  have hyes : (q != nt) = true → (fun i => if i = k then P else sndF ws (pl, mi) nt k i) = sndF ws (pl, mi) nt (k + 1) := fun hh => by
   funext i
   by_cases e : i = k
   ·subst e; rw [if_pos rfl]; unfold sndF; rw [if_pos (by omega), hrow, if_pos hh]
   ·rw [if_neg e]; unfold sndF
    by_cases h : i < k
    ·rw [if_pos h, if_pos (by omega)]
    ·rw [if_neg h, if_neg (by omega)]
  have hno : (q != nt) = false → sndF ws (pl, mi) nt k = sndF ws (pl, mi) nt (k + 1) := fun hh => by
   funext i; unfold sndF
   by_cases e : i = k
   ·subst e; rw [if_neg (by omega), if_pos (by omega), hrow, hh]; rfl
   ·by_cases h : i < k
    ·rw [if_pos h, if_pos (by omega)]
    ·rw [if_neg h, if_neg (by omega)]
  have hfy : (q != nt) = true → RowsAt ((W.setCell ⟨B + 1, k, none⟩ (.int .u64 (P : Int))).alloc (.cells #[.int .u32 (sp : Int), .int .u32 (sm : Int)] 24)) (B + 1) (sndF ws (pl, mi) nt (k + 1)) := fun hh => by rw [← hyes hh]; exact hst
  have hfn : (q != nt) = false → RowsAt (W.alloc (.cells #[.int .u32 (sp : Int), .int .u32 (sm : Int)] 24)) (B + 1) (sndF ws (pl, mi) nt (k + 1)) := fun hh => by rw [← hno hh]; exact hrA
  have HP := Lib.hid hP
  clear hP
  have HFY := Lib.hid hfy; have HFN := Lib.hid hfn; have HXS := Lib.hid hxS; have HES := Lib.hid hES; have HXA := Lib.hid hxA; have HEA := Lib.hid hEA
  clear hfy hfn hxS hES hxA hEA hyes hno hst hTs hrA hal e1 hs hq0 hsp hsm hrow hx hr hE hv
  cases q <;> cases nt
  ·go_wp2
   exact ⟨⟨k + 1, by omega, by simp, HXA.out, HFN.out rfl, HEA.out⟩, by simp [intOf]; omega⟩
  ·go_wp2
   exact ⟨⟨k + 1, by omega, by simp, HXS.out, HFY.out rfl, HES.out⟩, by simp [intOf]; omega⟩
  ·go_wp2
   exact ⟨⟨k + 1, by omega, by simp, HXS.out, HFY.out rfl, HES.out⟩, by simp [intOf]; omega⟩
  ·go_wp2
   exact ⟨⟨k + 1, by omega, by simp, HXA.out, HFN.out rfl, HEA.out⟩, by simp [intOf]; omega⟩
 ·obtain rfl : k = N := by omega
  have h1 : ¬ (k : Int) < (k : Int) := by omega
  have e1 : rowArr (sndF ws (pl, mi) nt k) = rowArr (rowM (soundB ws (pl, mi) nt)) := rowArr_congr fun a _ => by
   unfold sndF
   by_cases h : a < k
   ·rw [if_pos h]
   ·rw [if_neg h]
    have e : soundB ws (pl, mi) nt a = fun _ => false := by
     funext b
     have := HN.out
     simp only [soundB, show ¬ a < ws.length by omega, decide_false, Bool.and_false, Bool.false_and]
    rw [rowM, e, mask_zero]
  have hr' : RowsAt W (B + 1) (rowM (soundB ws (pl, mi) nt)) := by unfold RowsAt; rw [← e1]; exact hr
  have hrow := RowsAt.row (g := rowM (soundB ws (pl, mi) nt)) hr'
  have hE2 := hE.after (Turn.setRow W (B + 1) (rowArr (rowM (soundB ws (pl, mi) nt)))) (fun b' h1 h2 => by have := HB.out; omega)
  clear hr e1 hx
  go_wp2_with (first
   | (refine wpList_load_row rfl 223 (.tmp 4) rfl (B + 1) rfl _ _ _ _ hr' Tryz.underlying223 rfl (Tryz.relInfo _) ?_)
   | (refine wpList_store_row rfl 223 (.tmp 4) (.tmp 37) rfl (B + 1) (rowArr (rowM (soundB ws (pl, mi) nt))) rfl rfl _ _ hr' (Tryz.relInfo _) (by simp only [rowArr_size]) (rowArr_one _) ?_))
  exact bodyPost_ret (v := .agg (rowArr (rowM (soundB ws (pl, mi) nt)))) (rel_result rfl rfl hrow) rfl ⟨rfl, hE2⟩

theorem rowM_edge {_n a : Nat} (x : Nat) (ha : a < 33) : rowM (edgeB a) x = if x = a then 2 ^ a else 0 := by
 by_cases h : x = a
 ·subst h
  rw [if_pos rfl, two_pow_mask (n := 33) ha]
  exact mask_congr fun i _ => by simp [edgeB]
 ·rw [if_neg h]
  have e : edgeB a x = fun _ => false := by funext b; simp [edgeB, h]
  rw [rowM, e, mask_zero]

theorem edge_in {w : World} {en : Bool} {v : Value} {ws : Wd} (hv : WordAt w v ws) (hl : ws.length ≤ 32) :
  Calls Tryz.prog 249 #[.agg #[.bool en], v] w fun e w' => e = .returned (.agg (rowArr (rowM (edgeB (if en then ws.length else 0))))) ∧ Ext w w' := by
 have z1 := zero_rel
 have z2 := relArr_size noB
 have z3 := relArr_ne noB
 obtain ⟨ao, cap, rfl, _⟩ := hv.slice
 obtain ⟨N, hN⟩ : ∃ N, ws.length = N := ⟨_, rfl⟩
 rw [hN] at hl ⊢
 obtain ⟨B, hB⟩ : ∃ B, w.heap.size = B := ⟨_, rfl⟩
 have hr : RowsAt ((w.alloc (.cells #[.bool en] 245)).alloc (.cells (relArr noB) 223)) (w.heap.size + 1) (fun _ => 0) := by
  refine (new_at (by simp)).trans ?_
  rw [rowArr_rel, rowArr_congr (g := fun _ => 0) fun a _ => rowM_no a]
 have hE : Ext w ((w.alloc (.cells #[.bool en] 245)).alloc (.cells (relArr noB) 223)) := ((Turn.refl _ w).alloc _).alloc _
 have hx : ((w.alloc (.cells #[.bool en] 245)).alloc (.cells (relArr noB) 223)).heap[w.heap.size]? = some (.cells #[.bool en] 245 (0, 0)) := new_keep (new_at rfl)
 have HR := Lib.hid hr; have HE := Lib.hid hE; have HX := Lib.hid hx
 clear hN hB hr hE hx
 go_enter Tryz.func249, Tryz.ntmps249
 go_upto_region 1 with (fail)
 have hr := HR.out; have hE := HE.out; have hx := HX.out
 clear z1 z2 z3 HR HE HX
 generalize ((w.alloc (.cells #[.bool en] 245)).alloc (.cells (relArr noB) 223)) = w1 at hr hE hx ⊢
 obtain ⟨B, hB⟩ : ∃ B, w.heap.size = B := ⟨_, rfl⟩
 rw [hB] at hr hx ⊢
 have HB := Lib.hid hB
 clear hB
 have x0 := cell_of_one hx
 have fin : ∀ (k : Nat) (P : Nat), 2 ^ k = P → k < 33 → RowsAt (w1.setCell ⟨B + 1, k, none⟩ (.int .u64 (P : Int))) (B + 1) (rowM (edgeB k)) ∧ Ext w (w1.setCell ⟨B + 1, k, none⟩ (.int .u64 (P : Int))) := fun k P hP hk => by
  subst hP
  have h := hr.store k (2 ^ k)
  have e : rowArr (fun i => if i = k then 2 ^ k else 0) = rowArr (rowM (edgeB k)) := rowArr_congr fun a _ => (rowM_edge (_n := 0) a hk).symm
  refine ⟨?_, hE.after (Turn.set1 w1 (B + 1) k _) (fun b' h1 h2 => by have := HB.out; omega)⟩
  unfold RowsAt; rw [← e]; exact h
 have HF := Lib.hid fin; have HR := Lib.hid hr
 have hB1 := hr.lt
 clear fin hE
 cases en
 ·clear HR
  have c1 := hr.cell (a := 0) (by omega)
  have fr := hr.free 0
  obtain ⟨f1, f2⟩ := HF.out 0 1 rfl (by omega)
  have F1 := Lib.hid f1
  have hrow := RowsAt.row (g := rowM (edgeB 0)) f1
  have hE2 := f2.after (Turn.setRow (w1.setCell ⟨B + 1, 0, none⟩ (.int .u64 ((1 : Nat) : Int))) (B + 1) (rowArr (rowM (edgeB 0)))) (fun b' h1 h2 => by have := HB.out; omega)
  have HROW := Lib.hid hrow; have HE2 := Lib.hid hE2
  clear hr hx f2 hrow hE2 f1
  go_wp2_with (first
   | (refine wpList_load_row rfl 223 (.tmp 4) rfl (B + 1) rfl _ _ _ _ F1.out Tryz.underlying223 rfl (Tryz.relInfo _) ?_)
   | (refine wpList_store_row rfl 223 (.tmp 4) (.tmp 14) rfl (B + 1) (rowArr (rowM (edgeB 0))) rfl rfl _ _ F1.out (Tryz.relInfo _) (by simp only [rowArr_size]) (rowArr_one _) ?_))
  exact bodyPost_ret (v := .agg (rowArr (rowM (edgeB 0)))) (rel_result rfl rfl HROW.out) rfl ⟨rfl, HE2.out⟩
 ·have hk3 : (N : Int) < 33 := by omega
  have hk4 : (N : Int) < 64 := by omega
  have hw := pow_u64 (k := N) (by omega)
  obtain ⟨P, hP⟩ : ∃ P, 2 ^ N = P := ⟨_, rfl⟩
  rw [hP] at hw
  have HP := Lib.hid hP
  clear hP HR
  have c1 := hr.cell (a := N) (by omega)
  have fr := hr.free N
  obtain ⟨f1, f2⟩ := HF.out N P HP.out (by omega)
  have F1 := Lib.hid f1
  have hrow := RowsAt.row (g := rowM (edgeB N)) f1
  have hE2 := f2.after (Turn.setRow (w1.setCell ⟨B + 1, N, none⟩ (.int .u64 ((P : Nat) : Int))) (B + 1) (rowArr (rowM (edgeB N)))) (fun b' h1 h2 => by have := HB.out; omega)
  have HROW := Lib.hid hrow; have HE2 := Lib.hid hE2
  clear hr hx f2 hrow hE2 f1
  go_wp2_with (first
   | (refine wpList_load_row rfl 223 (.tmp 4) rfl (B + 1) rfl _ _ _ _ F1.out Tryz.underlying223 rfl (Tryz.relInfo _) ?_)
   | (refine wpList_store_row rfl 223 (.tmp 4) (.tmp 14) rfl (B + 1) (rowArr (rowM (edgeB N))) rfl rfl _ _ F1.out (Tryz.relInfo _) (by simp only [rowArr_size]) (rowArr_one _) ?_))
  exact bodyPost_ret (v := .agg (rowArr (rowM (edgeB N)))) (rel_result rfl rfl HROW.out) rfl ⟨rfl, HE2.out⟩
end Go.Proofs.YtamkkhlabfahmaaGreatDoor
