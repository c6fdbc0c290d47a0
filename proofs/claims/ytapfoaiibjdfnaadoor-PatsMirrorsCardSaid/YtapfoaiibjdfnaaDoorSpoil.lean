/- ablautlaw06.spoil. -/
import Derived.Test.YtapfoaiibjdfnaaDoorMirror
namespace Go.Proofs.YtapfoaiibjdfnaaDoor
open Go.RowKit Go.Ab
attribute [local go_sem] Oper.semAt_some wide_fn wide_depth

def SpoilOk (p : Pat) : Prop := ∀ (K : Nat → Prop) (w : World) (cs : List Value), PatSep 27 w p cs K → (∀ b, K b → b < w.heap.size) →
  Calls Tryd.prog 41 #[.agg cs.toArray] w fun e w' => e = .returned (.tuple #[]) ∧ Turn K w w'

set_option maxRecDepth 100000 in
set_option maxHeartbeats 16000000 in
theorem spoil_step (k : Int) (pl mi : Nat) (nt : Bool) (mn mx : Int) (l : List Pat) (ih : ∀ p ∈ l, SpoilOk p) : SpoilOk (.node k pl mi nt mn mx l) := by
  intro K w cs hp hKw
  obtain ⟨ao, cap, xs, Ks, rfl, hO, hg, hs, hd, hc⟩ : ∃ ao cap, ∃ (xs : List Value) (Ks : Nat → Nat → Prop), cs = patCells k pl mi nt mn mx ao l.length cap ∧ w.ownsRow 0 27 7 (.slice ao l.length cap) l.length xs ∧
      (∀ g, (Value.slice ao l.length cap).ownBlock = some g → K g ∧ ∀ j, j < l.length → ¬ Ks j g) ∧ (∀ j b, j < l.length → Ks j b → K b) ∧ (∀ i j b, i < l.length → j < l.length → i ≠ j → Ks i b → ¬ Ks j b) ∧ (∀ j (h : j < l.length), PatSep 27 w l[j] (chunk xs j) (Ks j)) := by
    cases hp with
    | mk xs Ks hpl hmi hO hg hs hd hc => exact ⟨_, _, xs, Ks, rfl, hO, hg, hs, hd, hc⟩
  have hnm := Nat.le_trans (own_len hO).1 (own_len hO).2
  unfold maxLen at hnm
  obtain ⟨N, hN⟩ : ∃ N, l.length = N := ⟨_, rfl⟩
  have HN := Lib.hid hN; have HC := Lib.hid hc; have IH := Lib.hid ih
  rw [hN] at hO hg hs hd hnm ⊢
  clear hN hc ih hp
  have HO := Lib.hid hO; have HG := Lib.hid hg; have HSK := Lib.hid hs; have HD := Lib.hid hd; have HKW := Lib.hid hKw
  unfold patCells
  clear hO hg hs hd hKw
  go_enter Tryd.func41, Tryd.ntmps41
  go_wp2_with fail
  obtain ⟨B, hB⟩ : ∃ B, w.heap.size = B := ⟨_, rfl⟩
  have hx : (w.alloc (.cells #[.int .i64 k, .int .u32 (pl : Int), .int .u32 (mi : Int), .bool nt, .int .i64 mn, .int .i64 mx, .slice ao N cap] 27)).heap[B]? = some (.cells #[.int .i64 k, .int .u32 (pl : Int), .int .u32 (mi : Int), .bool nt, .int .i64 mn, .int .i64 mx, .slice ao N cap] 27 (0, 0)) := by
    subst hB; exact new_at rfl
  have hE : Ext w (w.alloc (.cells #[.int .i64 k, .int .u32 (pl : Int), .int .u32 (mi : Int), .bool nt, .int .i64 mn, .int .i64 mx, .slice ao N cap] 27)) := (Turn.refl _ w).alloc _
  generalize (w.alloc (.cells #[.int .i64 k, .int .u32 (pl : Int), .int .u32 (mi : Int), .bool nt, .int .i64 mn, .int .i64 mx, .slice ao N cap] 27)) = w1 at hx hE ⊢
  rw [hB]
  have HB := Lib.hid hB
  clear hB
  refine wp_loop (fun a W => ∃ (i : Nat) (ys : List Value), i ≤ N ∧ a.defers = [] ∧ (a.tmps.size = 21 ∧ a.tmps.getD 1 undef = .pointer (some ⟨B, 0, none⟩) ∧ a.tmps.getD 2 undef = .int .i64 i) ∧
      W.heap[B]? = some (.cells #[.int .i64 k, .int .u32 (pl : Int), .int .u32 (mi : Int), .bool nt, .int .i64 mn, .int .i64 mx, .slice ao N cap] 27 (0, 0)) ∧ W.ownsRow 0 27 7 (.slice ao N cap) N ys ∧
      (∀ j (h : j < l.length), i ≤ j → chunk ys j = chunk xs j ∧ PatSep 27 W l[j] (chunk ys j) (Ks j)) ∧ Turn K w W)
    (fun a _ => N - (intOf (a.tmps.getD 2 undef)).toNat) ?_ ?_
  · exact ⟨0, xs, by omega, rfl, ⟨rfl, rfl, rfl⟩, hx, own_ext HO.out hE, fun j h _ => ⟨rfl, (HC.out j h).keep hE fun _ _ h => h⟩, Ext.of hE⟩
  clear hx hE
  rintro ⟨t, _⟩ W ⟨i, ys, hi, hds, ⟨hsz, f1, f2⟩, hx, hOW, hch, hT⟩
  subst hds
  obtain ⟨u', hu⟩ := frame_fun hsz
  obtain ⟨u, rfl⟩ : ∃ x, x = u' := ⟨_, rfl⟩
  have hu' : t = #[u 0, u 1, u 2, u 3, u 4, u 5, u 6, u 7, u 8, u 9, u 10, u 11, u 12, u 13, u 14, u 15, u 16, u 17, u 18, u 19, u 20] := hu
  clear hu
  subst hu'
  change u 1 = _ at f1
  change u 2 = _ at f2
  rw [f1, f2]
  clear f1 f2 hsz
  have cX := fun j => cell_of_row _ _ j _ _ _ hx
  by_cases hiN : i < N
  · have h1 : (i : Int) < (N : Int) := by omega
    have h0 : (0 : Int) ≤ (i : Int) := by omega
    have hil : i < l.length := by rw [HN.out]; exact hiN
    obtain ⟨g, rfl⟩ := own_some hOW (by omega)
    obtain ⟨hc1, hc2⟩ := hch i hil (Nat.le_refl _)
    have hra := own_chunk hOW i
    have hih := IH.out l[i] (List.getElem_mem hil) (Ks i) W _ hc2 (fun b hb => Nat.lt_of_lt_of_le (HKW.out b (HSK.out i b hiN hb)) hT.size)
    obtain ⟨ek, epl, emi, ent, emn, emx, eao, en, ecap, hcs⟩ := sep_cells hc2
    obtain ⟨c0, c1, c2, c3, c4, c5, c6⟩ := patCells_at hra hcs
    rw [hcs] at hih
    unfold patCells at hih
    have HIH := Lib.hid hih; have HOW := Lib.hid hOW; have HCH := Lib.hid hch; have HT := Lib.hid hT; have HX := Lib.hid hx
    clear hih hOW hch hT hc1 hc2 hra hcs hx
    go_wp2_with fail
    refine HIH.out.mono ?_
    rintro e W2 ⟨rfl, hT2⟩
    have hgK := HG.out g rfl
    have hKB : ∀ b, K b → b ≠ B := fun b hb e => by have := HKW.out b hb; have := HB.out; omega
    have hx2 := hT2.heap HX.out (fun h => hKB _ (HSK.out i _ hiN h) rfl)
    have hO2 := own_keep HOW.out hT2 (fun g' e => by cases e; exact hgK.2 i hiN)
    have hT02 : Turn K w W2 := HT.out.trans (hT2.mono fun b _ h => HSK.out i b hiN h)
    have hch2 : ∀ j (h : j < l.length), i + 1 ≤ j → chunk ys j = chunk xs j ∧ PatSep 27 W2 l[j] (chunk ys j) (Ks j) := fun j h hj => by
      obtain ⟨q1, q2⟩ := HCH.out j h (by omega)
      exact ⟨q1, q2.keep hT2 fun b hb => HD.out j i b (by rw [← HN.out]; exact h) hiN (by omega) hb⟩
    have HO2 := Lib.hid hO2; have HT02 := Lib.hid hT02; have HC2 := Lib.hid hch2; have HGK := Lib.hid hgK; have HKB := Lib.hid hKB; have HX2 := Lib.hid hx2
    have HTH := Lib.hid (show W2.there g (i * 7) (#[.int .i64 9, .int .u32 0, .int .u32 0, .bool false, .int .i64 0, .int .i64 0, .slice none 0 0] : Array Value).size from own_there hO2 (by simp only [List.size_toArray, List.length_cons, List.length_nil]; omega))
    clear cX
    have cX := fun j => cell_of_row _ _ j _ _ _ hx2
    clear hx2 hO2 hT02 hch2 hgK hKB hT2 c0 c1 c2 c3 c4 c5 c6 HIH HOW HCH HT HX
    have hT9 := Turn.setCells W2 g (#[.int .i64 9, .int .u32 0, .int .u32 0, .bool false, .int .i64 0, .int .i64 0, .slice none 0 0] : Array Value).toList (i * 7)
    have hO9 := own_setMid HO2.out hiN (cs := (#[.int .i64 9, .int .u32 0, .int .u32 0, .bool false, .int .i64 0, .int .i64 0, .slice none 0 0] : Array Value).toList) rfl
    have hx9 := hT9.heap HX2.out (fun e => HKB.out g HGK.out.1 e.symm)
    have hT09 : Turn K w _ := HT02.out.trans (hT9.mono fun b _ e => by rw [e]; exact HGK.out.1)
    have hch9 : ∀ j (h : j < l.length), i + 1 ≤ j → chunk (overL ys (i * 7) (#[.int .i64 9, .int .u32 0, .int .u32 0, .bool false, .int .i64 0, .int .i64 0, .slice none 0 0] : Array Value).toList) j = chunk xs j ∧ PatSep 27 (W2.setCells g (i * 7) (#[.int .i64 9, .int .u32 0, .int .u32 0, .bool false, .int .i64 0, .int .i64 0, .slice none 0 0] : Array Value).toList) l[j] (chunk (overL ys (i * 7) (#[.int .i64 9, .int .u32 0, .int .u32 0, .bool false, .int .i64 0, .int .i64 0, .slice none 0 0] : Array Value).toList) j) (Ks j) := fun j h hj => by
      obtain ⟨q1, q2⟩ := HC2.out j h hj
      have e1 := chunk_over (cs := (#[.int .i64 9, .int .u32 0, .int .u32 0, .bool false, .int .i64 0, .int .i64 0, .slice none 0 0] : Array Value).toList) (k := j) HO2.out.1 hiN rfl
      rw [if_neg (by omega)] at e1
      rw [e1]
      exact ⟨q1, q2.keep hT9 fun b hb e => HGK.out.2 j (by rw [← HN.out]; exact h) (by rw [← e]; exact hb)⟩
    have HO9 := Lib.hid hO9; have HX9 := Lib.hid hx9; have HT9 := Lib.hid hT09; have HC9 := Lib.hid hch9
    clear hT9 hO9 hx9 hT09 hch9 HC2 HO2 HT02 HX2
    go_wp2_with (refine wpList_store_mid rfl 27 (.tmp 20) (.tmp 19) rfl g (i * 7) #[.int .i64 9, .int .u32 0, .int .u32 0, .bool false, .int .i64 0, .int .i64 0, .slice none 0 0] rfl rfl HTH.out (by kernel_rfl) (by kernel_rfl) ?_; generalize W2.setCells g (i * 7) (#[.int .i64 9, .int .u32 0, .int .u32 0, .bool false, .int .i64 0, .int .i64 0, .slice none 0 0] : Array Value).toList = W9 at HO9 HX9 HT9 HC9 ⊢)
    exact ⟨⟨i + 1, _, by omega, by first | rfl | trivial, ⟨rfl, rfl, rfl⟩, HX9.out, HO9.out, HC9.out, HT9.out⟩, by first | (simp [intOf]; done) | (simp [intOf]; omega)⟩
  · obtain rfl : N = i := by omega
    have h1 : ¬ (N : Int) < (N : Int) := by omega
    have HT := Lib.hid hT
    clear hx hOW hch hT
    go_wp2
    refine bodyPost_end (results_none rfl _ _ _) rfl ?_
    exact ⟨rfl, HT.out⟩

mutual
theorem spoil_all : ∀ p : Pat, SpoilOk p
  | .node k pl mi nt mn mx l => spoil_step k pl mi nt mn mx l (spoil_alls l)
theorem spoil_alls : ∀ l : List Pat, ∀ p ∈ l, SpoilOk p
  | [], _, h => by cases h
  | q :: l, p, h => (List.mem_cons.1 h).elim (fun e => e ▸ spoil_all q) (fun h => spoil_alls l p h)
end
end Go.Proofs.YtapfoaiibjdfnaaDoor
