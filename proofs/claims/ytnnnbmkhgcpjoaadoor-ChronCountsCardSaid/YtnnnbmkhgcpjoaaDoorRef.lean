/- ablautref13.Order in memory; New. -/
import Derived.Test.YtnnnbmkhgcpjoaaDoorPlay
import Derived.Test.YtnnnbmkhgcpjoaaDoorClose
import Derived.RegionTactic
import Derived.Maps.AppendAt
import Derived.Deep.AppendLies
import Derived.Deep.RegionLaw
namespace Go.Proofs.YtnnnbmkhgcpjoaaDoor
open Go.RowKit Go.Ab

theorem run_make1 {P : Program} (w : World) (base : Nat) (t e : TypeId) (z : Value) (bytes n : Nat) (h1 : P.underlying t = some (.slice e)) (hinfo : (P.info? e).map (fun i => (i.zero, i.size, i.bytes)) = some (some z, 1, bytes)) (hz : z.cells = #[z])
    (b2 : bytes * n ≤ 281474976710656) (b3 : n ≤ maxLen) (b4 : base ≤ w.heap.size) :
    ∃ w', (Instr.makeSlice t (.int .i64 (n : Int)) (.int .i64 (n : Int))).run P w = .ok (.slice (some ⟨w.heap.size, 0, none⟩) n n) w' ∧ w'.ownsRow base e 1 (.slice (some ⟨w.heap.size, 0, none⟩) n n) n (List.replicate n z) ∧ Ext w w' := by
  obtain ⟨i, hi, hz1, hs1, hb1⟩ := info_parts hinfo
  subst hb1
  obtain ⟨w', hr, h2, h3⟩ := run_make_full (P := P) w base t e i z 1 h1 hi hz1 hs1 .i64 .i64 n b2 b3 b4
  rw [hz, Nat.mul_one, madeCells_one] at h2
  exact ⟨w', hr, h2, (Turn.refl _ w).grown h3 (fun k e => by cases e)⟩

/-- What lies in cells of another type is another block. -/
theorem own_ne {w : World} {base : Nat} {e t : TypeId} {sz : Nat} {v : Value} {n : Nat} {xs : List Value} {b : Nat} {cs : Array Value} {fr : Nat × Nat} (h : w.ownsRow base e sz v n xs) (hb : w.heap[b]? = some (.cells cs t fr)) (hne : e ≠ t) : ∀ g, v.ownBlock = some g → g ≠ b := by
  intro g hg heq
  rcases h.2 with ⟨q, _⟩ | ⟨g', cap, cur, q, _, hg', _⟩
  · rw [q] at hg; cases hg
  · rw [q] at hg; cases hg
    rw [show g' = b from heq, hb] at hg'
    simp only [Option.some.injEq, Obj.cells.injEq] at hg'
    exact hne hg'.2.1.symm
theorem own_apart {w : World} {base base' : Nat} {e t : TypeId} {sz sz' : Nat} {v u : Value} {n m : Nat} {xs ys : List Value} (h : w.ownsRow base e sz v n xs) (k : w.ownsRow base' t sz' u m ys) (hne : e ≠ t) : ∀ g, v.ownBlock = some g → ¬ u.ownBlock = some g := by
  intro g hg hu
  rcases k.2 with ⟨q, _⟩ | ⟨g', cap, cur, q, _, hg', _⟩
  · rw [q] at hu; cases hu
  · rw [q] at hu; cases hu
    exact own_ne h hg' hne _ hg rfl

/-- A row of bools. -/
def boolRow (n : Nat) (f : Nat → Bool) : List Value := (List.range n).map fun j => .bool (f j)
theorem boolRow_no (n : Nat) : List.replicate n (Value.bool false) = boolRow n (fun _ => false) := by
  apply List.ext_getElem?
  intro i
  by_cases h : i < n <;> simp [boolRow, h]

/-- The first k rows of the reference's table. -/
structure RefRows (w : World) (base n : Nat) (R : Bin) (k : Nat) (V : Nat → Value) : Prop where
  row : ∀ i, i < k → w.ownsRow base 4 1 (V i) n (boolRow n (R i))
  apart : ∀ i j, i < k → j < k → i ≠ j → (V i).ownBlock ≠ (V j).ownBlock

/-- Block b is the reference's chronology of n events, with k rows. -/
def RefK (w : World) (base b n : Nat) (R : Bin) (k : Nat) : Prop :=
  ∃ vB V, base ≤ b ∧ w.heap[b]? = some (.cells #[.bool true, .int .i64 n, vB] 65 (0, 0)) ∧ w.ownsRow base 66 1 vB k ((List.range k).map V) ∧ RefRows w base n R k V
theorem RefRows.ext {A B : World} {base n : Nat} {R : Bin} {k : Nat} {V : Nat → Value} (h : RefRows A base n R k V) (ht : Ext A B) : RefRows B base n R k V :=
  ⟨fun i hi => own_ext (h.row i hi) ht, h.apart⟩
theorem RefK.ext {A B : World} {base b n : Nat} {R : Bin} {k : Nat} (h : RefK A base b n R k) (ht : Ext A B) : RefK B base b n R k := by
  obtain ⟨vB, V, h0, h1, h2, h3⟩ := h
  exact ⟨vB, V, h0, ht.keep h1, own_ext h2 ht, h3.ext ht⟩

theorem Tryd.infoBool : (Tryd.prog.info? 4).map (fun i => (i.zero, i.size, i.bytes)) = some (some (.bool false), 1, 1) := by kernel_rfl
theorem Tryd.infoBools : (Tryd.prog.info? 66).map (fun i => (i.zero, i.size, i.bytes)) = some (some (.slice none 0 0), 1, 24) := by kernel_rfl

set_option maxRecDepth 100000 in
set_option maxHeartbeats 4000000 in
theorem refNew_ok (n : Nat) (hn : n ≤ 64) (w : World) :
    Calls Tryd.prog 16 #[.int .i64 n] w fun e w' => e = .returned (.tuple #[.pointer (some ⟨w.heap.size, 0, none⟩), .int .i64 0]) ∧ Ext w w' ∧ RefK w' w.heap.size w.heap.size n noR n := by
  go_enter Tryd.func16, Tryd.ntmps16
  go_wp2
  refine wp_loop (fun a W => ∃ (k : Nat), k ≤ n ∧ a.defers = [] ∧ (a.tmps.size = 32 ∧ a.tmps.getD 0 undef = .int .i64 n ∧ a.tmps.getD 4 undef = .pointer (some ⟨w.heap.size, 0, none⟩) ∧ a.tmps.getD 5 undef = .int .i64 k) ∧ RefK W w.heap.size w.heap.size n noR k ∧ Ext w W)
    (fun a _ => n - (intOf (a.tmps.getD 5 undef)).toNat) ?_ ?_
  · refine ⟨0, by omega, rfl, ⟨rfl, rfl, rfl, rfl⟩, ⟨_, fun _ => undef, Nat.le_refl _, new_at rfl, World.ownsRow_nil _ _ _ _, ⟨fun i h => by omega, fun i j h => by omega⟩⟩, (Turn.refl _ _).alloc _⟩
  rintro ⟨t, _⟩ W ⟨k, hk, hds, ⟨hsz, f0, f4, f5⟩, ⟨vB, V, _, hb, hO, hV⟩, hE⟩
  subst hds
  obtain ⟨u', hu⟩ := frame_fun hsz
  obtain ⟨u, rfl⟩ : ∃ x, x = u' := ⟨_, rfl⟩
  have hu' : t = #[u 0, u 1, u 2, u 3, u 4, u 5, u 6, u 7, u 8, u 9, u 10, u 11, u 12, u 13, u 14, u 15, u 16, u 17, u 18, u 19, u 20, u 21, u 22, u 23, u 24, u 25, u 26, u 27, u 28, u 29, u 30, u 31] := hu
  clear hu
  subst hu'
  change u 0 = _ at f0
  change u 4 = _ at f4
  change u 5 = _ at f5
  rw [f0, f4, f5]
  clear f0 f4 f5 hsz
  by_cases hk2 : k < n
  · have hk3 : (k : Int) < (n : Int) := by omega
    have hbl := (Array.getElem?_eq_some_iff.1 hb).1
    obtain ⟨w1, hm, hM, hE1⟩ := run_make1 (P := Tryd.prog) W.drew w.heap.size 66 4 _ 1 n Tryd.underlying66 Tryd.infoBool rfl (by omega) (by unfold maxLen; omega) (by have := hE.size; exact this)
    have c2 : W.cell? ⟨w.heap.size, 2, none⟩ = some vB := by simp [World.cell?, hb]
    have c2' : w1.cell? ⟨w.heap.size, 2, none⟩ = some vB := hE1.cell_some (show W.drew.cell? ⟨w.heap.size, 2, none⟩ = some vB from c2) id
    have hA1 : Ext W.drew (w1.alloc (.cells #[Value.slice (some ⟨W.heap.size, 0, none⟩) n n] 66)) := hE1.alloc _
    obtain ⟨ii, hi, hz, hs, hby⟩ := info_parts Tryd.infoBools
    have hOd := own_ext hO ((Turn.refl _ W).drew.trans hA1)
    have hbA : w.heap.size ≤ (w1.alloc (.cells #[Value.slice (some ⟨W.heap.size, 0, none⟩) n n] 66)).heap.size := by
      have := hE.size; have := hA1.size; have hdr : W.drew.heap.size = W.heap.size := rfl; omega
    have hm' : (Instr.makeSlice 66 (.int .i64 (n : Int)) (.int .i64 (n : Int))).run Tryd.prog W.drew = .ok (Value.slice (some ⟨W.heap.size, 0, none⟩) n n) w1 := hm
    have hOb : ∀ g, vB.ownBlock = some g → ¬ w.heap.size = g := fun g hg e => by
      rcases hO.2 with ⟨q, _⟩ | ⟨g', cap, cur, q, _, hg', _⟩
      · rw [q] at hg; cases hg
      · rw [q] at hg; cases hg; rw [show g' = w.heap.size from e.symm, hb] at hg'; cases hg'
    have hfin : ∀ w2, (w1.alloc (.cells #[Value.slice (some ⟨W.heap.size, 0, none⟩) n n] 66)).grownBy w2 vB.ownBlock → Turn (fun b => vB.ownBlock = some b) W w2 ∧ w2.heap[w.heap.size]? = some (.cells #[.bool true, .int .i64 n, vB] 65 (0, 0)) := fun w2 hG2 => by
      have hT2 : Turn (fun b => vB.ownBlock = some b) W w2 := ((Turn.refl _ W).drew.trans hA1.of).grown hG2 (fun q e => .inr e)
      exact ⟨hT2, hT2.heap hb (fun e => hOb _ e rfl)⟩
    have c2'' : (w1.alloc (.cells #[Value.slice (some ⟨W.heap.size, 0, none⟩) n n] 66)).cell? ⟨w.heap.size, 2, none⟩ = some vB := hA1.cell_some (show W.drew.cell? ⟨w.heap.size, 2, none⟩ = some vB from c2) id
    have hdone : ∀ (g cap : Nat) (w2 : World), w2.ownsRow w.heap.size 66 1 (.slice (some ⟨g, 0, none⟩) (k + 1) cap) (k + 1) ((List.range k).map V ++ [Value.slice (some ⟨W.heap.size, 0, none⟩) n n]) → (w1.alloc (.cells #[Value.slice (some ⟨W.heap.size, 0, none⟩) n n] 66)).grownBy w2 vB.ownBlock →
        RefK (w2.setCell ⟨w.heap.size, 2, none⟩ (.slice (some ⟨g, 0, none⟩) (k + 1) cap)) w.heap.size w.heap.size n noR (k + 1) ∧ Ext w (w2.setCell ⟨w.heap.size, 2, none⟩ (.slice (some ⟨g, 0, none⟩) (k + 1) cap)) := by
      intro g cap w2 hO2 hG2
      obtain ⟨hT2, hb2⟩ := hfin w2 hG2
      have hTs := Turn.set1 w2 w.heap.size 2 (.slice (some ⟨g, 0, none⟩) (k + 1) cap)
      have hb3 := heap_setCell_row (o := 2) (v := .slice (some ⟨g, 0, none⟩) (k + 1) cap) hb2
      refine ⟨⟨_, fun i => if i = k then Value.slice (some ⟨W.heap.size, 0, none⟩) n n else V i, Nat.le_refl _, hb3, ?_, ?_, ?_⟩, ?_⟩
      · have e : (List.range (k + 1)).map (fun i => if i = k then Value.slice (some ⟨W.heap.size, 0, none⟩) n n else V i) = (List.range k).map V ++ [Value.slice (some ⟨W.heap.size, 0, none⟩) n n] := by
          rw [List.range_succ, List.map_append]
          congr 1
          · apply List.map_congr_left
            intro i hi'
            have := List.mem_range.1 hi'
            rw [if_neg (by omega)]
          · simp
        rw [e]
        exact own_keep hO2 hTs (fun g' hg' => own_ne hO2 hb2 (by decide) g' hg')
      · intro i hi'
        by_cases hik : i = k
        · rw [if_pos hik]
          have h1 := (own_ext hM ((Turn.refl _ w1).alloc (.cells #[Value.slice (some ⟨W.heap.size, 0, none⟩) n n] 66)))
          have h2 := own_keep h1 ((Turn.refl (fun b => vB.ownBlock = some b) _).grown hG2 (fun q e => .inr e)) (fun g' hg' e => by
            have := (hO.lt g' e).2
            simp [Value.ownBlock] at hg'
            change W.heap.size = g' at hg'
            omega)
          have h3 := own_keep h2 hTs (fun g' hg' => own_ne h2 hb2 (by decide) g' hg')
          rw [boolRow_no] at h3
          exact h3
        · rw [if_neg hik]
          have h1 := hV.row i (by omega)
          have h2 := own_keep h1 hT2 (own_apart h1 hO (by decide))
          exact own_keep h2 hTs (fun g' hg' => own_ne h2 hb2 (by decide) g' hg')
      · intro i j hi' hj' hij
        by_cases hik : i = k
        · rw [if_pos hik, if_neg (by omega)]
          intro e
          have := ((hV.row j (by omega)).lt _ e.symm).2
          change W.heap.size < W.heap.size at this
          omega
        · rw [if_neg hik]
          by_cases hjk : j = k
          · rw [if_pos hjk]
            intro e
            have := ((hV.row i (by omega)).lt _ e).2
            change W.heap.size < W.heap.size at this
            omega
          · rw [if_neg hjk]
            exact hV.apart i j (by omega) (by omega) hij
      · exact (hE.after hT2 (fun b' h1 h2 => by have := (hO.lt _ h2).1; omega)).setCell (p := ⟨w.heap.size, 2, none⟩) (.inl (Nat.le_refl _)) _
    have HD := Lib.hid hdone
    clear hdone
    have HF := Lib.hid hfin; have HOB := Lib.hid hOb
    clear hm hfin hOb
    go_wp2
    go_region_law (first
      | (refine step_append_lies _ rfl (.tmp 24) (.tmp 27) 63 rfl w.heap.size 66 ii _ 1 24 Tryd.underlying63 hi hz hs hby rfl (by decide) vB k _ rfl hOd ⟨w1.heap.size, 0, none⟩ 1 1 [Value.slice (some ⟨W.heap.size, 0, none⟩) n n] rfl rfl new_cells
          (by intro u hu; simp at hu; subst hu; rfl) (by decide) (by unfold maxLen; omega) (by omega) hbA _ rfl ?_
         intro g cap w2 hO2 hG2 hg2 hl2
         obtain ⟨hT2, hb2⟩ := HF.out w2 hG2
         have fz : w2.frozen? ⟨w.heap.size, 2, none⟩ = false := by simp [World.frozen?, hb2]
         have cz : w2.cell? ⟨w.heap.size, 2, none⟩ = some vB := by simp [World.cell?, hb2]))
    all_goals go_wp2
    all_goals
      obtain ⟨d1, d2⟩ := HD.out _ _ _ hO2 hG2
      exact ⟨⟨k + 1, by omega, by first | rfl | trivial, ⟨rfl, rfl, rfl, rfl⟩, d1, d2⟩, by simp [intOf]; omega⟩
  · obtain rfl : k = n := by omega
    go_wp2
    go_ret2
    exact ⟨rfl, hE, ⟨vB, V, Nat.le_refl _, hb, hO, hV⟩⟩
end Go.Proofs.YtnnnbmkhgcpjoaaDoor
