/- A chronology and the reference's one, side by side: both nil, or both with the same relation. -/
import Derived.Test.YtnnnbmkhgcpjoaaDoorAgree
namespace Go.Proofs.YtnnnbmkhgcpjoaaDoor
open Go.RowKit Go.Ab

/-- Both are nil, or both are chronologies of n events with one relation; all their blocks lie from base on. -/
def Both (n : Int) (W : World) (base : Nat) (o r : Option Addr) : Prop :=
  (o = none ∧ r = none) ∨ ∃ (m b c : Nat) (R : Bin), (m : Int) = n ∧ m ≤ 64 ∧ o = some ⟨b, 0, none⟩ ∧ r = some ⟨c, 0, none⟩ ∧ base ≤ b ∧ OrdR W b m R ∧ RefO W base c m R ∧ Rel m R

theorem Both.ext {n : Int} {A B : World} {base : Nat} {o r : Option Addr} (h : Both n A base o r) (ht : Ext A B) : Both n B base o r := by
  rcases h with h | ⟨m, b, c, R, hmn, hm, ho, hr, hb, h1, h2, h3⟩
  · exact .inl h
  · exact .inr ⟨m, b, c, R, hmn, hm, ho, hr, hb, h1.keep ht id, h2.ext ht, h3⟩

theorem RefRows.turn {S : Nat → Prop} {A B : World} {base n : Nat} {R : Bin} {k : Nat} {V : Nat → Value} (h : RefRows A base n R k V) (ht : Turn S A B) (hS : ∀ g cs fr, A.heap[g]? = some (.cells cs 4 fr) → ¬ S g) : RefRows B base n R k V :=
  ⟨fun i hi => own_keep (h.row i hi) ht fun g hg => by
    rcases (h.row i hi).2 with ⟨q, _⟩ | ⟨g', cap, cur, q, _, hg', _⟩
    · rw [q] at hg; cases hg
    · rw [q] at hg; cases hg; exact hS _ _ _ hg', h.apart⟩
theorem RefK.turn {S : Nat → Prop} {A B : World} {base b n : Nat} {R : Bin} {k : Nat} (h : RefK A base b n R k) (ht : Turn S A B)
    (hS : ∀ g cs t fr, t = 4 ∨ t = 66 ∨ t = 65 → A.heap[g]? = some (.cells cs t fr) → ¬ S g) : RefK B base b n R k := by
  obtain ⟨vB, V, h0, h1, h2, h3⟩ := h
  refine ⟨vB, V, h0, ht.heap h1 (hS _ _ _ _ (.inr (.inr rfl)) h1), own_keep h2 ht fun g hg => ?_, h3.turn ht fun g cs fr => hS g cs _ fr (.inl rfl)⟩
  rcases h2.2 with ⟨q, _⟩ | ⟨g', cap, cur, q, _, hg', _⟩
  · rw [q] at hg; cases hg
  · rw [q] at hg; cases hg; exact hS _ _ _ _ (.inr (.inl rfl)) hg'

theorem RefK.down {A : World} {base base' b n : Nat} {R : Bin} {k : Nat} (h : RefK A base b n R k) (hb : base' ≤ base) : RefK A base' b n R k := by
  obtain ⟨vB, V, h0, h1, h2, h3⟩ := h
  exact ⟨vB, V, Nat.le_trans hb h0, h1, own_base h2 hb, fun i hi => own_base (h3.row i hi) hb, h3.apart⟩

/-- What is left to be said to the reference. -/
def Half (n : Int) (base : Nat) (o r : Option Addr) (x y z : Int) (W : World) : Prop :=
  ∀ W1, Ext W W1 → Calls Tryd.prog 18 #[.pointer r, .int .i64 x, .int .i64 y] W1 fun e W2 => e = .returned (.int .i64 z) ∧ Turn (base ≤ ·) W1 W2 ∧ Both n W2 base o r

theorem both_before {n : Int} {W : World} {base : Nat} {o r : Option Addr} (h : Both n W base o r) (hT : Tab W) (hg : 0 < base) (x y : Int) :
    Calls Tryd.prog 17 #[.pointer o, .int .i64 x, .int .i64 y] W fun e W' => ∃ z, e = .returned (.int .i64 z) ∧ Turn (base ≤ ·) W W' ∧ Half n base o r x y z W' := by
  rcases h with ⟨rfl, rfl⟩ | ⟨m, b, c, R, hmn, hm, rfl, rfl, hb, h1, h2, h3⟩
  · refine (before_z (.inl rfl) x y).mono ?_
    rintro e W' ⟨rfl, hE⟩
    refine ⟨1, rfl, hE.of, fun W1 hE1 => (refBefore_nil x y W1).mono ?_⟩
    rintro e _ ⟨rfl, rfl⟩
    exact ⟨rfl, Turn.refl _ _, .inl ⟨rfl, rfl⟩⟩
  · refine (before_R b m R hm h3 W h1 hT (by omega) x y).mono ?_
    rintro e W' ⟨rfl, ht, h1'⟩
    have h2' : RefO W' base c m R := RefK.turn h2 ht fun g cs t fr hh hgg e => by
      subst e
      have e1 : W.heap[g]? = some (.cells (ordArr true m (bfR m R) (afR m R)) 58 (0, 0)) := h1
      rw [e1] at hgg
      simp only [Option.some.injEq, Obj.cells.injEq] at hgg
      obtain ⟨_, q, _⟩ := hgg
      rw [← q] at hh
      revert hh; decide
    refine ⟨_, rfl, ht.mono (fun g _ e => by subst e; exact hb), fun W1 hE1 => (refBefore_R hm h3 (h2'.ext hE1) x y).mono ?_⟩
    rintro e W2 ⟨rfl, ht2, h2''⟩
    refine ⟨rfl, ht2.mono (fun g _ hh => hh.1), .inr ⟨m, b, c, befN m R x y, hmn, hm, rfl, rfl, hb, ?_, h2'', befN_rel h3 x y⟩⟩
    have h1'' : OrdR W1 b m (befN m R x y) := OrdR.keep h1' hE1 id
    refine OrdR.keep h1'' ht2 ?_
    rintro ⟨_, cs, fr, hh⟩
    have e1 : W1.heap[b]? = some (.cells (ordArr true m (bfR m (befN m R x y)) (afR m (befN m R x y))) 58 (0, 0)) := h1''
    rw [e1] at hh
    simp only [Option.some.injEq, Obj.cells.injEq] at hh
    exact absurd hh.2.1 (by decide)

theorem both_is {n : Int} {W : World} {base : Nat} {o r : Option Addr} (h : Both n W base o r) (x y : Int) :
    ∃ p, (∀ m, Calls Tryd.prog 31 #[.pointer o, .int .i64 x, .int .i64 y] (W.drewN m) fun e w' => e = .returned (.bool p) ∧ w' = W.drewN m) ∧ (∀ m, Calls Tryd.prog 35 #[.pointer r, .int .i64 x, .int .i64 y] (W.drewN m) fun e w' => e = .returned (.bool p) ∧ w' = W.drewN m) := by
  have hDm : ∀ m, Ext W (W.drewN m) := fun m => (Turn.refl _ W).drewN m
  rcases h with ⟨rfl, rfl⟩ | ⟨m, b, c, R, hmn, hm, rfl, rfl, hb, h1, h2, h3⟩
  · refine ⟨false, fun m => (is_z (.inl rfl) x y).mono ?_, fun m => (refIs_nil x y _).mono ?_⟩
    all_goals rintro e _ ⟨rfl, rfl⟩; exact ⟨rfl, rfl⟩
  · refine ⟨isR m R x y, fun k => (is_R b m R hm _ (h1.keep (hDm k) id) x y).mono ?_, fun k => (refIs_ok (h2.ext (hDm k)) x y).mono ?_⟩
    all_goals rintro e _ ⟨rfl, rfl⟩; exact ⟨rfl, rfl⟩
theorem both_free {n : Int} {W : World} {base : Nat} {o r : Option Addr} (h : Both n W base o r) (x y : Int) :
    ∃ p, (∀ m, Calls Tryd.prog 33 #[.pointer o, .int .i64 x, .int .i64 y] (W.drewN m) fun e w' => e = .returned (.bool p) ∧ w' = W.drewN m) ∧ (∀ m, Calls Tryd.prog 36 #[.pointer r, .int .i64 x, .int .i64 y] (W.drewN m) fun e w' => e = .returned (.bool p) ∧ w' = W.drewN m) := by
  have hDm : ∀ m, Ext W (W.drewN m) := fun m => (Turn.refl _ W).drewN m
  rcases h with ⟨rfl, rfl⟩ | ⟨m, b, c, R, hmn, hm, rfl, rfl, hb, h1, h2, h3⟩
  · refine ⟨false, fun m => (free_z (.inl rfl) x y).mono ?_, fun m => (refFree_nil x y _).mono ?_⟩
    all_goals rintro e _ ⟨rfl, rfl⟩; exact ⟨rfl, rfl⟩
  · refine ⟨freeR m R x y, fun k => (free_R b m R hm _ (h1.keep (hDm k) id) x y).mono ?_, fun k => (refFree_ok (h2.ext (hDm k)) x y).mono ?_⟩
    all_goals rintro e _ ⟨rfl, rfl⟩; exact ⟨rfl, rfl⟩
theorem both_agree {n : Int} {W : World} {base : Nat} {o r : Option Addr} (h : Both n W base o r) (hT : Tab W) (x y : Int) :
    Calls Tryd.prog 32 #[.pointer o, .pointer r, .agg #[.int .i64 x, .int .i64 y]] W fun e w' => e = .returned (.bool true) ∧ Ext W w' := by
  rcases h with ⟨rfl, rfl⟩ | ⟨m, b, c, R, hmn, hm, rfl, rfl, hb, h1, h2, h3⟩
  · exact agree_nil x y
  · exact agree_ok hm h3 h1 h2 hT x y
theorem both_copy {n : Int} {W : World} {base : Nat} {o r : Option Addr} (h : Both n W base o r) (hs : base ≤ W.heap.size) :
    Calls Tryd.prog 34 #[.pointer o] W fun e w' => ∃ o', e = .returned (.pointer o') ∧ Ext W w' ∧ Both n w' base o' r := by
  rcases h with ⟨rfl, rfl⟩ | ⟨m, b, c, R, hmn, hm, rfl, rfl, hb, h1, h2, h3⟩
  · refine (copy_z (.inl rfl)).mono ?_
    rintro e _ ⟨rfl, rfl⟩
    exact ⟨none, rfl, Turn.refl _ _, .inl ⟨rfl, rfl⟩⟩
  · refine (copy_ok b m _ _ W h1).mono ?_
    rintro e w' ⟨rfl, hE, h1'⟩
    exact ⟨_, rfl, hE, .inr ⟨m, W.heap.size, c, R, hmn, hm, rfl, rfl, hs, h1', h2.ext hE, h3⟩⟩

/-- The reference's New is still to be called. -/
def HalfNew (base : Nat) (n : Int) (o : Option Addr) (z : Int) (q : Bool) (W : World) : Prop :=
  Calls Tryd.prog 16 #[.int .i64 n] W fun e W' => ∃ r, e = .returned (.tuple #[.pointer r, .int .i64 z]) ∧ r.isNone = q ∧ Ext W W' ∧ Both n W' base o r
theorem both_new {W : World} {base : Nat} (hs : base ≤ W.heap.size) (n : Int) :
    Calls Tryd.prog 15 #[.int .i64 n] W fun e W' => ∃ o z q, e = .returned (.tuple #[.pointer o, .int .i64 z]) ∧ o.isNone = q ∧ Ext W W' ∧ HalfNew base n o z q W' := by
  by_cases hn : n < 0 ∨ 64 < n
  · refine (new_bad n hn _).mono ?_
    rintro e _ ⟨rfl, rfl⟩
    refine ⟨none, 2, true, rfl, rfl, Turn.refl _ _, (refNew_bad n hn _).mono ?_⟩
    rintro e _ ⟨rfl, rfl⟩
    exact ⟨none, rfl, rfl, Turn.refl _ _, .inl ⟨rfl, rfl⟩⟩
  · obtain ⟨n, rfl⟩ := Int.eq_ofNat_of_zero_le (show 0 ≤ n by omega)
    have hn64 : n ≤ 64 := by omega
    refine (new_R n hn64 W).mono ?_
    rintro e w1 ⟨rfl, hE1, ho⟩
    refine ⟨_, 0, false, rfl, rfl, hE1, (refNew_ok n hn64 w1).mono ?_⟩
    rintro e w2 ⟨rfl, hE2, hr⟩
    refine ⟨_, rfl, rfl, hE2, .inr ⟨n, W.heap.size, w1.heap.size, noR, rfl, hn64, rfl, rfl, hs, OrdR.keep ho hE2 id, ?_, Rel.empty n⟩⟩
    exact RefK.down hr (Nat.le_trans hs hE1.size)
end Go.Proofs.YtnnnbmkhgcpjoaaDoor
