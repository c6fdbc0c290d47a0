/- slices.Collect of ints over an iterator with blocks of its own; law.Hits. law.run: its iterator in any mode; how many replacements there are; slices of words. What law.Trace returns, in memory; rows of places and words as they grow. math/bits.Len64, of a row. -/
import Derived.Test.YtamkkhlabfahmaaGreatDoorGa09
import Derived.Test.YtamkkhlabfahmaaGreatDoorGa16
import Derived.Test.YtamkkhlabfahmaaGreatDoorGa08
import Derived.Test.YtamkkhlabfahmaaGreatDoorGa15
import Derived.Test.YtamkkhlabfahmaaGreatDoorGa00
import Derived.Lib.Strings
import Derived.Lib.Slices
import Derived.Lib.Small
import Derived.Lib.Walk
import Derived.Lib.BitFns
set_option maxRecDepth 100000
set_option maxHeartbeats 8000000
namespace Go.Proofs.YtamkkhlabfahmaaGreatDoor
open Go.RowKit Go.Ab
attribute [local go_sem] Oper.semAt_some wide_fn wide_depth

abbrev natE : Nat → (Nat → Prop) → Nat → World → Array Value → Prop := fun _ _ x _ ys => ys = #[.int .i64 (x : Int)]

theorem append_seqO {w : World} {gf : Nat} {lb : Array Value} (hen : ∀ args w, (callFunc gf args).run Tryz.prog w = .ok (.enter gf args) w) {M : Nat → Nat → Prop} {xs : List Nat} (hseq : ∀ w1, Ext w w1 → IterO Tryz.prog gf lb M natE xs (fun b => b < w.heap.size) w1) (hl : xs.length ≤ 1000) :
  Calls Tryz.prog 153 #[.slice none 0 0, .func (.func gf) #[] lb] w fun e w' => ∃ u, e = .returned u ∧ w'.ownsRow w.heap.size 3 1 u xs.length (natV xs) ∧ Ext w w' := by
 refine calls_of_wp_marks Tryz.func153 rfl ?_
 simp only [Tryz.ntmps153, List.size_toArray, List.length_cons, List.length_nil, Nat.reduceAdd, Nat.reduceSub, Array.replicate_succ, Array.replicate_zero, List.push_toArray, List.append_toArray, List.nil_append, List.cons_append]
 have HSEQ := Lib.hid hseq; have HEN := Lib.hid hen
 clear hseq hen
 go_wp2
 obtain ⟨B, hB⟩ : ∃ B, w.heap.size = B := ⟨_, rfl⟩
 have hL1 : (w.alloc (.cells #[.slice none 0 0] 46)).heap[B]? = some (.cells #[.slice none 0 0] 46 (0, 0)) := new_at hB.symm
 have hE1 : Ext w (w.alloc (.cells #[.slice none 0 0] 46)) := (Turn.refl _ w).alloc _
 have hs1 : (w.alloc (.cells #[.slice none 0 0] 46)).heap.size = B + 1 := by rw [← hB]; simp
 generalize (w.alloc (.cells #[.slice none 0 0] 46)) = w1 at hL1 hE1 hs1 ⊢
 have hit := HSEQ.out w1 hE1
 rw [hB] at hit ⊢
 have HB := Lib.hid hB
 clear hB
 refine wp_rangeO (xs := xs) (K := fun b => b < B) rfl HEN.out hit (fun b h => by omega) (fun _ _ x A ys h => by rw [h]; rfl) (fun _ _ x A D ys h _ _ => h)
  (fun O pre V => ∃ u, V.heap[B]? = some (.cells #[u] 46 (0, 0)) ∧ V.ownsRow B 3 1 u pre.length (natV pre) ∧ (∀ g, u.ownBlock = some g → g ≠ B ∧ g ≠ B + 1 ∧ g ≠ B + 2 ∧ ¬ O g) ∧ Ext w V)
  (fun _ _ _ _ => False) ?hI ?hIx ?h0 (fun ys t => (t.setIfInBounds 7 (ys.getD 0 undef)).setIfInBounds 5 (ys.getD 0 undef)) ?assign ?body ?done ?stop
 case hI =>
  rintro O O' pre P Q ⟨u, i1, i2, i3, i4⟩ hO ht0 hO'
  have ht : Turn (fun b => O b ∨ b = B + 2) P Q := ht0.mono (fun b _ h => h.elim (fun q => .inl q.1) (fun q => .inr (by omega)))
  refine ⟨u, ht.heap i1 (fun h => ?_), own_keep i2 ht (fun b hb e => ?_), fun g hg => ?_, i4.after ht (fun b' h1 h2 => ?_)⟩
  ·rcases h with h | h
   ·have := (hO _ h).1; omega
   ·omega
  ·have := i3 b hb
   exact e.elim this.2.2.2 (fun q => this.2.2.1 q)
  ·obtain ⟨q1, q2, q3, q4⟩ := i3 g hg
   exact ⟨q1, q2, q3, fun h => by rcases (hO' g h).1 with h | h; exact q4 h; have := (i2.lt _ hg).2; omega⟩
  ·have := HB.out
   rcases h2 with h | h
   ·have := (hO _ h).1; omega
   ·omega
 case hIx => exact fun _ _ _ _ _ _ h _ _ _ => h
 case h0 =>
  intro V hV _
  exact ⟨.slice none 0 0, hV.keep hL1, World.ownsRow_nil _ _ _ _, (fun g hg => by cases hg), Turn.trans hE1 hV⟩
 case assign =>
  rintro _ _ i ys V Kn rfl hK
  gi_wp2
  exact hK
 case body =>
  rintro O pre i rest ys V hx hsz hO ht ⟨u, i1, i2, i3, i4⟩ rfl
  simp only [pq]
  have hpl : pre.length < 1000 := by
   have := congrArg List.length hx
   simp at this
   omega
  have cL := cell_of_one i1
  have fL := free_of_one i1
  have hBV : B < V.heap.size := (Array.getElem?_eq_some_iff.1 i1).1
  have hX := Lib.hid hx; have HO := Lib.hid hO
  clear hx hO
  refine wpIn_block ?_
  refine wpIn_region_plain (by kernel_rfl) (by rintro ⟨_, _, h⟩; exact h) ?_
  have I1 := Lib.hid i1
  clear i1
  go_wp2_with (at_builtin; refine append_row rfl (.tmp 8) (.tmp 10) 46 rfl B 3 _ 1 8 Tryz.underlying46 Tryz.infoI rfl (by decide) _ _ _ rfl (own_ext i2 ((Turn.refl _ V).alloc _)) ⟨V.heap.size, 0, none⟩ 1 1 [.int .i64 i] rfl rfl (new_cells' rfl) ?c2 ?c3 ?c4 ?c5 ?_)
  case c2 => first | rfl | (intro u hu; simp at hu; rcases hu with rfl; rfl)
  case c3 => unfold maxLen; omega
  case c4 => omega
  case c5 => simp; omega
  intro ao' c' w5 hO5 hT5 hB5
  have hT6 : Turn (fun b' => u.ownBlock = some b') V w5 := Turn.trans (Turn.alloc (Turn.refl _ V) _) hT5
  have hL5 := hT6.heap I1.out (fun e => (i3 _ e).1 rfl)
  have hE5 : Ext w w5 := Turn.after i4 hT6 (fun b' h1 e => by have := (i2.lt _ e).1; have := HB.out; omega)
  have hg5 : ∀ g, (Value.slice ao' (pre.length + 1) c').ownBlock = some g → g ≠ B ∧ g ≠ B + 1 ∧ g ≠ B + 2 ∧ ¬ O g := by
   intro g hg
   rcases hB5 with e | e
   ·exact i3 g (e ▸ hg)
   ·rw [hg] at e; cases e
    exact ⟨by first | omega | (simp; omega), by first | omega | (simp; omega), by first | omega | (simp; omega), fun h => by have := (HO.out _ h).2; first | omega | (simp at this; omega)⟩
  have cL5 := cell_of_one hL5
  have fL5 := free_of_one hL5
  have hT7 := Turn.set1 w5 B 0 (.slice ao' (pre.length + 1) c')
  have hL7 : (w5.setCell ⟨B, 0, none⟩ (.slice ao' (pre.length + 1) c')).heap[B]? = some (.cells #[.slice ao' (pre.length + 1) c'] 46 (0, 0)) := by
   simp only [World.setCell, Array.getElem?_modify, hL5]
   simp
  have hKV : Turn (fun b => ¬ (b < B ∨ O b ∨ b = B + 1 ∨ b = B + 1 + 1)) V (w5.setCell ⟨B, 0, none⟩ (.slice ao' (pre.length + 1) c')) := by
   refine (hT6.mono (fun b' _ e hn => ?_)).trans (hT7.mono (fun b' _ e hn => ?_))
   ·obtain ⟨q1, q2, q3, q4⟩ := i3 _ e
    have := (i2.lt _ e).1
    rcases hn with h | h | h
    ·omega
    ·exact q4 h
    ·omega
   ·rcases hn with h | h | h
    ·omega
    ·have := (HO.out _ h).1; omega
    ·omega
  have hfin : ∃ u, (w5.setCell ⟨B, 0, none⟩ (.slice ao' (pre.length + 1) c')).heap[B]? = some (.cells #[u] 46 (0, 0)) ∧ (w5.setCell ⟨B, 0, none⟩ (.slice ao' (pre.length + 1) c')).ownsRow B 3 1 u (pre ++ [i]).length (natV (pre ++ [i])) ∧ (∀ g, u.ownBlock = some g → g ≠ B ∧ g ≠ B + 1 ∧ g ≠ B + 2 ∧ ¬ O g) ∧ Ext w (w5.setCell ⟨B, 0, none⟩ (.slice ao' (pre.length + 1) c')) := by
   refine ⟨_, hL7, ?_, hg5, Turn.after hE5 hT7 (fun b h1 h2 => by have := HB.out; omega)⟩
   rw [natV_append, List.length_append]
   exact own_keep hO5 hT7 (fun b hb e => (hg5 b hb).1 e)
  have HKV := Lib.hid hKV; have HFIN := Lib.hid hfin
  clear hKV hfin hL7 hT7 hg5 hE5 hT6 hT5 hO5 hB5 cL fL i2 i3 i4 ht
  go_wp2
  exact ⟨HKV.out, HFIN.out⟩
 case done =>
  rintro O V ⟨u, i1, i2, i3, i4⟩ hO ht hD
  have cL := cell_of_one i1
  clear hE1 hL1 hit
  go_wp2
  have hm : Marks B ({ target := .collected w1.heap.size, args := #[] } :: []) V := Marks.cons (base := B) trivial (by omega) hD (fun e he => by cases he)
  refine bodyPostM_ret hm (fun w' => results_tmp rfl _ _ _) (fun w' ht' hs => ⟨u, rfl, ?_, ?_⟩)
  ·rw [HB.out]
   exact own_keep i2 ht' (fun b hb e => by obtain ⟨cur, hc⟩ := own_block_ty i2 hb; exact Shut.not hc rfl e)
  ·exact Turn.after i4 ht' (fun b' h2 h3 => by have := h3.1; have := HB.out; omega)
 case stop => exact fun _ _ _ _ _ _ _ h => h.elim

theorem collect_natO {w : World} {gf : Nat} {lb : Array Value} (hen : ∀ args w, (callFunc gf args).run Tryz.prog w = .ok (.enter gf args) w) {M : Nat → Nat → Prop} {xs : List Nat} (hseq : ∀ w1, Ext w w1 → IterO Tryz.prog gf lb M natE xs (fun b => b < w.heap.size) w1) (hl : xs.length ≤ 1000) :
  Calls Tryz.prog 110 #[.func (.func gf) #[] lb] w fun e w' => ∃ u, e = .returned u ∧ w'.ownsRow w.heap.size 3 1 u xs.length (natV xs) ∧ Ext w w' := by
 have h := append_seqO hen hseq hl
 have H := Lib.hid h
 clear h hseq hen
 go_enter Tryz.func110, Tryz.ntmps110
 go_wp2_with fail
 refine H.out.mono ?_
 rintro e w' ⟨u, rfl, hO, hE⟩
 obtain ⟨uo, uc, rfl⟩ := own_slice hO
 have HO := Lib.hid hO
 clear hO
 go_wp2
 go_ret
 exact ⟨_, rfl, HO.out, hE⟩

/-- What Hits returns. -/
def hitsV (l : LawD) (ws : Wd) : List Nat := if lawW l ws = 0 then hitsL l ws else []
theorem hitsL_length (l : LawD) (ws : Wd) : (hitsL l ws).length ≤ ws.length + 1 := by
 unfold hitsL; exact Nat.le_trans (List.length_filter_le _ _) (by simp)
theorem wE_le {ws : Wd} (h : wE ws = 0) : ws.length ≤ 32 := by
 apply Nat.le_of_not_lt; intro h2
 unfold wE at h; rw [if_pos h2] at h; cases h
theorem lawW_zero {l : LawD} {ws : Wd} (h : lawW l ws = 0) : lawB l = true ∧ wE ws = 0 := by
 unfold lawW at h
 split at h
 ·rename_i h1; exact ⟨h1, h⟩
 ·cases h

theorem lhits_any {w : World} {l : LawD} {cs : List Value} {v : Value} {ws : Wd} (hl : LawAt w l cs) (hv : WordAt w v ws) (hT : Tab w) :
  Calls Tryz.prog 66 #[.agg cs.toArray, v] w fun e w' => ∃ u, e = .returned (.tuple #[u, .int .i64 (lawW l ws)]) ∧ w'.ownsRow w.heap.size 3 1 u (hitsV l ws).length (natV (hitsV l ws)) ∧ Ext w w' := by
 obtain ⟨vo, vc, rfl, _⟩ := hv.slice
 have hck := fun (V : World) (hE : Ext w V) => lwcheck_any (hl.ext hE) (hv.ext hE) (hT.keep hE id)
 have hhi := fun (V : World) (hE : Ext w V) => hits_any (hl.ext hE) (ao := vo) (n := ws.length) (c := vc) 0
 have hco : lawW l ws = 0 → ∀ (b : Nat) (V : World), Ext w V → LBx V b l cs → SlBox V (b + 1) (.slice vo ws.length vc) → V.heap[b + 2]? = some (.cells #[.int .i64 ((0 : Nat) : Int)] 3 (0, 0)) →
   Calls Tryz.prog 110 #[.func (.func 147) #[] #[.pointer (some ⟨b, 0, none⟩), .pointer (some ⟨b + 1, 0, none⟩), .pointer (some ⟨b + 2, 0, none⟩)]] V fun e w' => ∃ u, e = .returned u ∧ w'.ownsRow V.heap.size 3 1 u (hitsL l ws).length (natV (hitsL l ws)) ∧ Ext V w' := by
  intro h0 b V hE hB1 hB2 hB3
  obtain ⟨hlaw, hw0⟩ := lawW_zero h0
  obtain ⟨hk4, _⟩ := lawB_parts hlaw
  have hwl := wE_le hw0
  refine collect_natO (M := fun _ _ => False) (enters_of Tryz.func147 (by kernel_rfl) rfl) (fun w1 hw1 => ?_) (by have := hitsL_length l ws; omega)
  rw [← hitsF_zero]
  refine hits_iter (cs := cs) (v := .slice vo ws.length vc) 0 (by omega) (by omega) (fun W hW => ?_)
  have hVW : Ext V W := Turn.after hw1 hW (fun b hb hn => hn hb)
  exact ⟨hB1.ext hVW, hVW.keep hB2, (hv.ext hE).ext hVW, (hT.keep hE id).keep hVW id, hVW.keep hB3⟩
 obtain ⟨wn, hwn⟩ : ∃ n, ws.length = n := ⟨_, rfl⟩
 rw [hwn] at hck hhi hco
 rw [hwn]
 obtain ⟨nm, k1, p1, m1, n1, a1, b1, o1, N1, c1, k2, p2, m2, n2, a2, b2, o2, N2, c2, io, N3, ic, oo, N4, oc, md, rfl, HLA, HPL, HPR, HIF, HOU, HNM, HN1, HN2, HN3, HN4, HMD, q0, q1, q2, q3, q4⟩ := law_gen hl
 obtain ⟨R, hR⟩ : ∃ R, lawW l ws = R := ⟨_, rfl⟩
 rw [hR] at hck hco ⊢
 have HHV : Hid (hitsV l ws = if R = 0 then hitsL l ws else []) := Lib.hid (by unfold hitsV; rw [hR])
 have HCK := Lib.hid hck; have HHI := Lib.hid hhi; have HCO := Lib.hid hco
 clear hl hv hT hwn hck hhi hco hR
 obtain ⟨w0, hw0⟩ : ∃ D, w.alloc (.cells #[.string nm, .int .i64 k1, .int .u32 (p1 : Int), .int .u32 (m1 : Int), .bool n1, .int .i64 a1, .int .i64 b1, .slice o1 N1 c1, .int .i64 k2, .int .u32 (p2 : Int), .int .u32 (m2 : Int), .bool n2, .int .i64 a2, .int .i64 b2, .slice o2 N2 c2, .slice io N3 ic, .slice oo N4 oc, .int .i64 md] 34) = D := ⟨_, rfl⟩
 have hE0 : Ext w w0 := by rw [← hw0]; exact (Turn.refl _ w).alloc _
 have hl0 : w0.heap[w.heap.size]? = some (.cells #[.string nm, .int .i64 k1, .int .u32 (p1 : Int), .int .u32 (m1 : Int), .bool n1, .int .i64 a1, .int .i64 b1, .slice o1 N1 c1, .int .i64 k2, .int .u32 (p2 : Int), .int .u32 (m2 : Int), .bool n2, .int .i64 a2, .int .i64 b2, .slice o2 N2 c2, .slice io N3 ic, .slice oo N4 oc, .int .i64 md] 34 (0, 0)) := by rw [← hw0]; exact new_at rfl
 have HL0 := Lib.hid hl0; have HW0 := Lib.hid hw0
 clear hl0 hw0
 go_enter Tryz.func66, Tryz.ntmps66
 go_upto_region 1 with (fail)
 rw [HW0.out]
 obtain ⟨B, hB⟩ : ∃ b, w.heap.size = b := ⟨_, rfl⟩
 have HBW := Lib.hid hB
 rw [hB] at HL0 ⊢
 clear hB HW0
 go_wp2_with (refine wpList_load_row rfl 34 (.tmp 2) rfl B rfl _ _ _ _ HL0.out Tryz.underlying34 rfl Tryz.lawInfo ?_)
 refine (HCK.out _ hE0).mono ?_
 rintro e w1 ⟨rfl, hN⟩
 have hE1 := hE0.trans hN
 have HL1 := Lib.hid (hN.keep HL0.out)
 clear hN hE0 HL0
 by_cases h0 : R = 0
 case neg =>
  have h1 : (R != 0) = true := by rw [bne_iff_ne]; exact h0
  go_wp2
  go_ret2
  exact ⟨_, rfl, by rw [HHV.out, if_neg h0]; exact World.ownsRow_nil _ _ _ _, hE1⟩
 subst h0
 go_wp2_with (refine wpList_load_row rfl 34 (.tmp 2) rfl B rfl _ _ _ _ HL1.out Tryz.underlying34 rfl Tryz.lawInfo ?_)
 refine (HHI.out _ hE1).mono ?_
 rintro e w2 ⟨rfl, hs2, hLB, hSB, hFB, hE2⟩
 have hc := HCO.out (by first | trivial | rfl) _ w2 (hE1.trans hE2) hLB hSB hFB
 have HC := Lib.hid hc; have HS2 := Lib.hid hs2
 clear hc hLB hSB hFB hs2
 go_wp2_with fail
 refine HC.out.mono ?_
 rintro e w3 ⟨u, rfl, hO, hE3⟩
 obtain ⟨uo, uc, rfl⟩ := own_slice hO
 have hE4 := (hE1.trans hE2).trans hE3
 have hbz := (hE1.trans hE2).size
 have HO := Lib.hid (own_base hO hbz)
 clear hO
 go_wp2
 go_ret2
 exact ⟨_, rfl, by rw [HHV.out]; exact HO.out, hE4⟩
end Go.Proofs.YtamkkhlabfahmaaGreatDoor

namespace Go.Proofs.YtamkkhlabfahmaaGreatDoor
open Go.RowKit Go.Ab

theorem run_iter {w : World} {BW BL Bk Bm : Nat} {l : LawD} {cs : List Value} {vo : Option Addr} {vc : Nat} {ws : Wd} {K : Nat → Prop} (hlaw : lawB l = true) (hwl : ws.length ≤ 32) (hcap : ws.length ≤ vc) (hkv : KeptIn K (.slice vo ws.length vc))
  (hKw : ∀ b, K b → b < w.heap.size) (hst : ∀ W, Turn (fun b => ¬ K b) w W → RunSt W BW BL Bk Bm l cs vo vc ws) :
  ∃ m, IterO Tryz.prog 130 #[.pointer (some ⟨BW, 0, none⟩), .pointer (some ⟨BL, 0, none⟩), .pointer (some ⟨Bk, 0, none⟩), .pointer (some ⟨Bm, 0, none⟩)] (RunM m) (RunE m) (traceL l ws) K w := by
 obtain ⟨_, _, _, ⟨h1, h3⟩, _⟩ := lawB_parts hlaw
 by_cases e1 : l.mode = 1
 ·exact ⟨9, run_all hlaw e1 hwl hcap hkv hKw hst⟩
 by_cases e2 : l.mode = 2
 ·exact ⟨2, run_right hlaw e2 hwl hcap hkv hKw hst⟩
 ·exact ⟨2, run_left hlaw (by omega) hwl hcap hkv hKw hst⟩

section
variable {α : Type} {H : List α → Nat → Bool} {P : List α → List α} {k m : Nat}
theorem allT_count (w : List α) : ∀ (n i : Nat) (d : List α), (allT H P k w n i d).length ≤ n
 | 0, _, _ => by simp [allT]
 | n + 1, i, d => by
  unfold allT
  split
  ·rw [List.length_cons]; split
   ·have := allT_count w n (i + 1) (d ++ P ((w.drop i).take k) ++ (w.drop i).take 1); omega
   ·have := allT_count w n (i + k) (d ++ P ((w.drop i).take k)); omega
  ·have := allT_count w n (i + 1) (d ++ (w.drop i).take 1); omega
theorem rightT_count : ∀ (n : Nat) (w : List α) (i : Nat), (rightT H P k m n w i).length ≤ n
 | 0, _, _ => by simp [rightT]
 | n + 1, w, i => by
  unfold rightT
  split
  ·simp
  ·split
   ·rw [List.length_cons]
    have := rightT_count n (repl P k w i) (i + m + (if k = 0 then 1 else 0)); omega
   ·have := rightT_count n w (i + 1); omega
theorem leftT_count : ∀ (n : Nat) (w : List α) (i : Nat), (leftT H P k n w i).length ≤ n
 | 0, _, _ => by simp [leftT]
 | n + 1, _, 0 => by simp [leftT]
 | n + 1, w, i + 1 => by
  unfold leftT
  split
  ·rw [List.length_cons]
   have := leftT_count n (repl P k w i) (i + 1 - max k 1); omega
  ·have := leftT_count n w i; omega
end
theorem traceL_count (l : LawD) (ws : Wd) : (traceL l ws).length ≤ ws.length + 1 := by
 unfold traceL
 split
 ·exact allT_count _ _ _ _
 ·split
  ·exact rightT_count _ _ _
  ·exact leftT_count _ _ _

/-- One word as a value. -/
def OneW (w : World) (v : Value) (u : Wd) : Prop := ∃ ao c, v = .slice ao u.length c ∧ WordAt w (.slice ao u.length c) u ∧ u.length ≤ c
/-- Values that are these words. -/
def WordsAt (w : World) : List Value → List Wd → Prop
 | [], [] => True
 | v :: vs, u :: us => OneW w v u ∧ WordsAt w vs us
 | _, _ => False
theorem OneW.ext {A B : World} {v : Value} {u : Wd} (h : OneW A v u) (ht : Ext A B) : OneW B v u := by
 obtain ⟨ao, c, h1, h2, h3⟩ := h
 exact ⟨ao, c, h1, h2.ext ht, h3⟩
theorem WordsAt.ext {A B : World} : ∀ {vs : List Value} {us : List Wd}, WordsAt A vs us → Ext A B → WordsAt B vs us
 | [], [], _, _ => trivial
 | _ :: _, _ :: _, ⟨h1, h2⟩, ht => ⟨h1.ext ht, h2.ext ht⟩
theorem WordsAt.snoc {w : World} {v : Value} {u : Wd} : ∀ {vs : List Value} {us : List Wd}, WordsAt w vs us → OneW w v u → WordsAt w (vs ++ [v]) (us ++ [u])
 | [], [], _, h => ⟨h, trivial⟩
 | _ :: _, _ :: _, ⟨h1, h2⟩, h => ⟨h1, h2.snoc h⟩
theorem WordsAt.length {w : World} : ∀ {vs : List Value} {us : List Wd}, WordsAt w vs us → vs.length = us.length
 | [], [], _ => rfl
 | _ :: _, _ :: _, ⟨_, h2⟩ => by simp [h2.length]
theorem WordsAt.get {w : World} : ∀ {vs : List Value} {us : List Wd}, WordsAt w vs us → ∀ i, i < us.length → OneW w (vs.getD i undef) (us.getD i [])
 | [], [], _, i, h => by simp at h
 | _ :: _, _ :: _, ⟨h1, _⟩, 0, _ => h1
 | _ :: _, _ :: _, ⟨_, h2⟩, i + 1, h => h2.get i (by simpa using h)
end Go.Proofs.YtamkkhlabfahmaaGreatDoor

namespace Go.Proofs.YtamkkhlabfahmaaGreatDoor
open Go.RowKit Go.Ab
attribute [local go_sem] Oper.semAt_some wide_fn wide_depth

theorem cell_cells {A : World} {p : Addr} {v : Value} (h : A.cell? p = some v) : ∃ o, A.heap[p.block]? = some o ∧ o.isCells = true := by
 unfold World.cell? at h
 split at h
 ·exact ⟨_, by assumption, rfl⟩
 ·cases h
theorem cell_shut {base : Nat} {A B : World} (ht : Turn (Go.Ab.Shut base A) A B) {p : Addr} {v : Value} (h : A.cell? p = some v) : B.cell? p = some v := by
 obtain ⟨o, h1, h2⟩ := cell_cells h
 exact ht.cell_some h (Go.Ab.Shut.not h1 h2)
theorem Rd.shut {base : Nat} {A B : World} (ht : Turn (Go.Ab.Shut base A) A B) {v : Value} {n sz : Nat} {xs : List Value} (h : Rd A v n sz xs) : Rd B v n sz xs := by
 obtain ⟨h1, h2, ao, cap, hv, h3⟩ := h
 refine ⟨h1, h2, ao, cap, hv, fun hn => ?_⟩
 obtain ⟨g, off, ha, hg, hc⟩ := h3 hn
 exact ⟨g, off, ha, Nat.lt_of_lt_of_le hg ht.size, fun j hj => cell_shut ht (hc j hj)⟩
/-- A block that holds no cells. -/
theorem Rd.nocells {r : Nat} {A B : World} (ht : Turn (fun b => b = r) A B) (hr : ∃ o, A.heap[r]? = some o ∧ o.isCells = false) {v : Value} {n sz : Nat} {xs : List Value} (h : Rd A v n sz xs) : Rd B v n sz xs := by
 obtain ⟨h1, h2, ao, cap, hv, h3⟩ := h
 refine ⟨h1, h2, ao, cap, hv, fun hn => ?_⟩
 obtain ⟨g, off, ha, hg, hc⟩ := h3 hn
 refine ⟨g, off, ha, Nat.lt_of_lt_of_le hg ht.size, fun j hj => ht.cell_some (hc j hj) (fun e => ?_)⟩
 obtain ⟨o, q1, q2⟩ := cell_cells (hc j hj)
 obtain ⟨o', q3, q4⟩ := hr
 simp only at e q1
 rw [e, q3] at q1
 cases q1
 rw [q4] at q2; cases q2
theorem own_shut {base0 : Nat} {A B : World} {base : Nat} {e : TypeId} {sz : Nat} {v : Value} {n : Nat} {xs : List Value} (h : A.ownsRow base e sz v n xs) (ht : Turn (Go.Ab.Shut base0 A) A B) : B.ownsRow base e sz v n xs :=
 own_turn h ht fun _ _ hg ho => Go.Ab.Shut.not hg ho
theorem own_ne {W : World} {b1 b2 : Nat} {e1 e2 : TypeId} {s1 s2 n1 n2 : Nat} {v1 v2 : Value} {x1 x2 : List Value} (h1 : W.ownsRow b1 e1 s1 v1 n1 x1) (h2 : W.ownsRow b2 e2 s2 v2 n2 x2) (he : e1 ≠ e2) : ∀ g, v1.ownBlock = some g → v2.ownBlock ≠ some g := by
 intro g hg hg2
 obtain ⟨c1, q1⟩ := own_block_ty h1 hg
 obtain ⟨c2, q2⟩ := own_block_ty h2 hg2
 rw [q1] at q2
 simp only [Option.some.injEq, Obj.cells.injEq] at q2
 exact he q2.2.1
theorem cells_news {W : World} {g : Nat} {v : Value} {t : TypeId} (h : W.heap[g]? = some (.cells #[v] t (0, 0))) : ∀ j u, [v][j]? = some u → W.cell? ((⟨g, 0, none⟩ : Addr).add j) = some u := by
 intro j u hj
 match j, hj with
 | 0, hj =>
  simp at hj
  subst hj
  exact cell_of_one h

theorem OneW.keepS {S : Nat → Prop} {A B : World} {v : Value} {u : Wd} (h : OneW A v u) (ht : Turn (fun b => ¬ S b) A B) (hS : KeptIn S v) : OneW B v u := by
 obtain ⟨ao, c, rfl, h2, h3⟩ := h
 exact ⟨ao, c, rfl, wd_keepS h2 ht hS, h3⟩
theorem OneW.shut {base : Nat} {A B : World} (ht : Turn (Go.Ab.Shut base A) A B) {v : Value} {u : Wd} (h : OneW A v u) : OneW B v u := by
 obtain ⟨ao, c, rfl, h2, h3⟩ := h
 exact ⟨ao, c, rfl, ⟨Rd.shut ht h2.1, h2.2⟩, h3⟩
theorem WordsAt.keepS {S : Nat → Prop} {A B : World} (ht : Turn (fun b => ¬ S b) A B) : ∀ {vs : List Value} {us : List Wd}, WordsAt A vs us → (∀ x ∈ vs, KeptIn S x) → WordsAt B vs us
 | [], [], _, _ => trivial
 | _ :: _, _ :: _, ⟨h1, h2⟩, hS => ⟨h1.keepS ht (hS _ (by simp)), h2.keepS ht (fun x hx => hS x (by simp [hx]))⟩
theorem WordsAt.shut {base : Nat} {A B : World} (ht : Turn (Go.Ab.Shut base A) A B) : ∀ {vs : List Value} {us : List Wd}, WordsAt A vs us → WordsAt B vs us
 | [], [], _ => trivial
 | _ :: _, _ :: _, ⟨h1, h2⟩ => ⟨h1.shut ht, h2.shut ht⟩
theorem KeptIn.mono {S T : Nat → Prop} {v : Value} (h : KeptIn S v) (hst : ∀ b, S b → T b) : KeptIn T v := fun g o n c e h0 => hst _ (h g o n c e h0)

/-- Places, and words. -/
def TrOut (b : Nat) (W : World) (u v : Value) (t : List (Nat × Wd)) : Prop :=
 W.ownsRow b 3 1 u t.length (natV (t.map (·.1))) ∧ ∃ vals, W.ownsRow b 32 1 v t.length vals ∧ WordsAt W vals (t.map (·.2))
theorem TrOut.nil (b : Nat) (W : World) : TrOut b W (.slice none 0 0) (.slice none 0 0) [] := ⟨World.ownsRow_nil _ _ _ _, [], World.ownsRow_nil _ _ _ _, trivial⟩
theorem TrOut.ext {b : Nat} {A B : World} {u v : Value} {t : List (Nat × Wd)} (h : TrOut b A u v t) (ht : Ext A B) : TrOut b B u v t := by
 obtain ⟨h1, vals, h2, h3⟩ := h
 exact ⟨own_ext h1 ht, vals, own_ext h2 ht, h3.ext ht⟩
theorem TrOut.base {b b' : Nat} {A : World} {u v : Value} {t : List (Nat × Wd)} (h : TrOut b A u v t) (hb : b' ≤ b) : TrOut b' A u v t := by
 obtain ⟨h1, vals, h2, h3⟩ := h
 exact ⟨own_base h1 hb, vals, own_base h2 hb, h3⟩
theorem TrOut.slices {b : Nat} {A : World} {u v : Value} {t : List (Nat × Wd)} (h : TrOut b A u v t) : ∃ uo uc vo vc, u = .slice uo t.length uc ∧ v = .slice vo t.length vc ∧ t.length ≤ maxLen := by
 obtain ⟨h1, vals, h2, h3⟩ := h
 obtain ⟨_, _, uo, uc, rfl, _⟩ := Rd.of_own h1
 obtain ⟨_, h4, vo, vc, rfl, _⟩ := Rd.of_own h2
 exact ⟨uo, uc, vo, vc, rfl, rfl, h4⟩
/-- A word of these. -/
theorem TrOut.at {b : Nat} {A : World} {u vv : Value} {t : List (Nat × Wd)} (h : TrOut b A u vv t) {i : Nat} (hi : i < t.length) :
  ∃ g cap ao c, vv = .slice (some ⟨g, 0, none⟩) t.length cap ∧ A.cell? ⟨g, i, none⟩ = some (.slice ao t[i].2.length c) ∧ WordAt A (.slice ao t[i].2.length c) t[i].2 ∧ t[i].2.length ≤ c := by
 obtain ⟨_, vals, h2, h3⟩ := h
 obtain ⟨q1, q2, ao, cap, rfl, q3⟩ := Rd.of_own h2
 obtain ⟨g, rfl⟩ := own_some h2 (by omega)
 obtain ⟨g', off, q4, _, q5⟩ := q3 (by omega)
 simp only [Option.some.injEq, Addr.mk.injEq] at q4
 obtain ⟨rfl, rfl, _⟩ := q4
 have hw := h3.get i (by simpa using hi)
 have hgd : (t.map (·.2)).getD i [] = t[i].2 := by rw [List.getD_eq_getElem?_getD, List.getElem?_map, List.getElem?_eq_getElem hi]; rfl
 rw [hgd] at hw
 obtain ⟨ao, c, hv, hw, hc⟩ := hw
 have := q5 i (by omega)
 rw [Nat.zero_add, hv] at this
 exact ⟨g, cap, ao, c, rfl, this, hw, hc⟩

/-- Where Trace stands. -/
structure TrI (w : World) (B P D m : Nat) (O : Nat → Prop) (pre : List (Nat × Wd)) (V : World) (u v : Value) (vals : List Value) : Prop where
 ru : V.heap[B + 1]? = some (.cells #[.slice none 0 0] 46 (0, 0))
 rv : V.heap[B + 2]? = some (.cells #[.slice none 0 0] 85 (0, 0))
 re : V.heap[B + 3]? = some (.cells #[.int .i64 0] 35 (0, 0))
 bu : V.heap[P]? = some (.cells #[u] 46 (0, 0))
 bv : V.heap[P + 1]? = some (.cells #[v] 85 (0, 0))
 ou : V.ownsRow (D + 2) 3 1 u pre.length (natV (pre.map (·.1)))
 ov : V.ownsRow (D + 2) 32 1 v pre.length vals
 wd : WordsAt V vals (pre.map (·.2))
 ub : ∀ g, u.ownBlock = some g → ¬ O g
 vb : ∀ g, v.ownBlock = some g → ¬ O g
 wk : ∀ x ∈ vals, KeptIn (fun g => D + 2 + m ≤ g ∧ g < V.heap.size ∧ u.ownBlock ≠ some g ∧ v.ownBlock ≠ some g) x
 ext : Ext w V
 short : longT pre = false
section
variable {w : World} {B P D m : Nat} {O : Nat → Prop} {pre : List (Nat × Wd)} {V : World} {u v : Value} {vals : List Value}
theorem TrI.turn (h : TrI w B P D m O pre V u v vals) {O' : Nat → Prop} {W : World} (hB : w.heap.size = B) (hBP : B + 4 ≤ P) (hPD : P + 2 ≤ D) (hO : ∀ b, O b → D + 2 ≤ b ∧ b < V.heap.size)
  (ht : Turn (fun b => (O b ∧ RunM m (D + 2) b) ∨ b = D + 1) V W) (hO' : ∀ b, O' b → (O b ∨ V.heap.size ≤ b) ∧ b < W.heap.size) : TrI w B P D m O' pre W u v vals := by
 have low : ∀ b, b < D → ¬ ((O b ∧ RunM m (D + 2) b) ∨ b = D + 1) := fun b hb hn => by
  rcases hn with h1 | h1
  ·have := (hO b h1.1).1; omega
  ·omega
 have hown : ∀ {x : Value}, (∀ g, x.ownBlock = some g → ¬ O g) → (∀ g, x.ownBlock = some g → D + 2 ≤ g) → ∀ g, x.ownBlock = some g → ¬ ((O g ∧ RunM m (D + 2) g) ∨ g = D + 1) := fun h1 h2 g hg hn => by
  rcases hn with h3 | h3
  ·exact h1 g hg h3.1
  ·have := h2 g hg; omega
 refine ⟨ht.heap h.ru (low _ (by omega)), ht.heap h.rv (low _ (by omega)), ht.heap h.re (low _ (by omega)), ht.heap h.bu (low _ (by omega)), ht.heap h.bv (low _ (by omega)), own_keep h.ou ht (hown h.ub (fun g hg => (h.ou.lt g hg).1)), own_keep h.ov ht (hown h.vb (fun g hg => (h.ov.lt g hg).1)), ?_, fun g hg hg2 => ?_, fun g hg hg2 => ?_, fun x hx => (h.wk x hx).mono fun b hb => ⟨hb.1, Nat.lt_of_lt_of_le hb.2.1 ht.size, hb.2.2⟩, h.ext.after ht (fun b hb hn => low b (by omega) hn), h.short⟩
 ·refine h.wd.keepS (S := fun g => D + 2 + m ≤ g) (ht.mono fun b _ hb hn => ?_) (fun x hx => (h.wk x hx).mono fun b hb => hb.1)
  rcases hb with h1 | h1
  ·have := h1.2; unfold RunM at this; omega
  ·omega
 ·rcases (hO' g hg2).1 with h1 | h1
  ·exact h.ub g hg h1
  ·have := (h.ou.lt g hg).2; omega
 ·rcases (hO' g hg2).1 with h1 | h1
  ·exact h.vb g hg h1
  ·have := (h.ov.lt g hg).2; omega
/-- A place and a word more. -/
theorem TrI.push (h : TrI w B P D m O pre V u v vals) (hB : w.heap.size = B) (hBP : B + 4 ≤ P) (hPD : P + 2 ≤ D) (hO : ∀ b, O b → D + 2 ≤ b ∧ b < V.heap.size) (_hDV : D + 2 ≤ V.heap.size)
  {x : Nat × Wd} {ao : Option Addr} {c : Nat} (hw : WordAt V (.slice ao x.2.length c) x.2) (hc : x.2.length ≤ c) (hk : KeptIn (fun g => O g ∧ D + 2 + m ≤ g ∧ g < V.heap.size) (.slice ao x.2.length c)) (h32 : x.2.length ≤ 32)
  {W : World} {u' v' : Value} (fu : W.ownsRow (D + 2) 3 1 u' (pre.length + 1) (natV (pre.map (·.1)) ++ [.int .i64 (x.1 : Int)])) (fv : W.ownsRow (D + 2) 32 1 v' (pre.length + 1) (vals ++ [.slice ao x.2.length c]))
  (ht : Turn (fun b => u.ownBlock = some b ∨ v.ownBlock = some b) V W) (hu : u'.ownBlock = u.ownBlock ∨ ∃ k, V.heap.size ≤ k ∧ u'.ownBlock = some k) (hv : v'.ownBlock = v.ownBlock ∨ ∃ k, V.heap.size ≤ k ∧ v'.ownBlock = some k) :
  (∃ u v vals, TrI w B P D m O (pre ++ [x]) ((W.setCell ⟨P, 0, none⟩ u').setCell ⟨P + 1, 0, none⟩ v') u v vals) ∧ Turn (fun b => ¬ ((b < D ∧ b ≠ P ∧ b ≠ P + 1 ∧ b ≠ B + 1 ∧ b ≠ B + 2 ∧ b ≠ B + 3) ∨ O b ∨ b = D ∨ b = D + 1)) V ((W.setCell ⟨P, 0, none⟩ u').setCell ⟨P + 1, 0, none⟩ v') := by
 obtain ⟨W2, hW2⟩ : ∃ D, (W.setCell ⟨P, 0, none⟩ u').setCell ⟨P + 1, 0, none⟩ v' = D := ⟨_, rfl⟩
 have hT2 : Turn (fun b => b = P ∨ b = P + 1) W W2 := by rw [← hW2]; exact ((Turn.set1 W P 0 u').mono fun b _ e => .inl e).trans ((Turn.set1 _ (P + 1) 0 v').mono fun b _ e => .inr e)
 have blk : ∀ b, (u.ownBlock = some b ∨ v.ownBlock = some b) → D + 2 ≤ b ∧ ¬ O b ∧ b < V.heap.size := fun b hb => by
  rcases hb with hb | hb
  ·exact ⟨(h.ou.lt b hb).1, h.ub b hb, (h.ou.lt b hb).2⟩
  ·exact ⟨(h.ov.lt b hb).1, h.vb b hb, (h.ov.lt b hb).2⟩
 have low : ∀ b, b < D → ¬ (u.ownBlock = some b ∨ v.ownBlock = some b) := fun b hb hn => by have := (blk b hn).1; omega
 have bu1 := ht.heap h.bu (low _ (by omega))
 have bv1 := ht.heap h.bv (low _ (by omega))
 have bu2 : W2.heap[P]? = some (.cells #[u'] 46 (0, 0)) := by
  rw [← hW2]; exact (Turn.set1 _ (P + 1) 0 v').heap (cell1_set u' bu1) (by omega)
 have bv2 : W2.heap[P + 1]? = some (.cells #[v'] 85 (0, 0)) := by
  rw [← hW2]; exact cell1_set v' ((Turn.set1 W P 0 u').heap bv1 (by omega))
 have hub : ∀ g, u'.ownBlock = some g → D + 2 ≤ g := fun g hg => (fu.lt g hg).1
 have hvb : ∀ g, v'.ownBlock = some g → D + 2 ≤ g := fun g hg => (fv.lt g hg).1
 have noO : ∀ {y y' : Value}, (∀ g, y.ownBlock = some g → ¬ O g) → (y'.ownBlock = y.ownBlock ∨ ∃ k, V.heap.size ≤ k ∧ y'.ownBlock = some k) → ∀ g, y'.ownBlock = some g → ¬ O g := fun h1 h2 g hg ho => by
  rcases h2 with h2 | ⟨k, h2, h3⟩
  ·exact h1 g (h2 ▸ hg) ho
  ·rw [h3] at hg; cases hg; have := (hO _ ho).2; omega
 have off : ∀ {y y' : Value} (g : Nat), y.ownBlock ≠ some g → g < V.heap.size → (y'.ownBlock = y.ownBlock ∨ ∃ k, V.heap.size ≤ k ∧ y'.ownBlock = some k) → y'.ownBlock ≠ some g := fun g h1 h2 h3 => by
  rcases h3 with h3 | ⟨k, h3, h4⟩
  ·rw [h3]; exact h1
  ·rw [h4]; intro e; cases e; omega
 have hsz := Nat.le_trans ht.size hT2.size
 have hTV : Turn (fun b => (u.ownBlock = some b ∨ v.ownBlock = some b) ∨ (b = P ∨ b = P + 1)) V W2 := (ht.mono fun b _ e => .inl e).trans (hT2.mono fun b _ e => .inr e)
 have knew : KeptIn (fun g => D + 2 + m ≤ g ∧ g < V.heap.size ∧ u.ownBlock ≠ some g ∧ v.ownBlock ≠ some g) (.slice ao x.2.length c) := hk.mono fun b hb => ⟨hb.2.1, hb.2.2, fun e => h.ub b e hb.1, fun e => h.vb b e hb.1⟩
 have kall : ∀ y ∈ vals ++ [.slice ao x.2.length c], KeptIn (fun g => D + 2 + m ≤ g ∧ g < V.heap.size ∧ u.ownBlock ≠ some g ∧ v.ownBlock ≠ some g) y := fun y hy => by
  rcases List.mem_append.1 hy with hy | hy
  ·exact h.wk y hy
  ·simp only [List.mem_singleton] at hy; subst hy; exact knew
 rw [hW2]
 refine ⟨⟨u', v', vals ++ [.slice ao x.2.length c], ⟨?_, ?_, ?_, bu2, bv2, ?_, ?_, ?_, noO h.ub hu, noO h.vb hv, fun y hy => (kall y hy).mono fun b hb => ⟨hb.1, Nat.lt_of_lt_of_le hb.2.1 hsz, off b hb.2.2.1 hb.2.1 hu, off b hb.2.2.2 hb.2.1 hv⟩, ?_, ?_⟩⟩, hTV.mono fun b hb e hn => ?_⟩
 ·exact hT2.heap (ht.heap h.ru (low _ (by omega))) (by omega)
 ·exact hT2.heap (ht.heap h.rv (low _ (by omega))) (by omega)
 ·exact hT2.heap (ht.heap h.re (low _ (by omega))) (by omega)
 ·rw [List.length_append, List.map_append]
  show W2.ownsRow _ _ _ _ _ (natV (pre.map (·.1) ++ [x.1]))
  rw [natV_append]
  exact own_keep fu hT2 (fun g hg e => by have := hub g hg; omega)
 ·rw [List.length_append]
  exact own_keep fv hT2 (fun g hg e => by have := hvb g hg; omega)
 ·rw [List.map_append]
  refine (h.wd.snoc ⟨ao, c, rfl, hw, hc⟩).keepS (S := fun g => D + 2 + m ≤ g ∧ g < V.heap.size ∧ u.ownBlock ≠ some g ∧ v.ownBlock ≠ some g) (hTV.mono fun b _ e hn => ?_) kall
  rcases e with (e | e) | e
  ·exact hn.2.2.1 e
  ·exact hn.2.2.2 e
  ·omega
 ·refine h.ext.after hTV (fun b hb e => ?_)
  rcases e with e | e
  ·exact low b (by omega) e
  ·omega
 ·have := h.short
  unfold longT at this ⊢
  rw [List.any_append, this]
  simp; omega
 ·rcases e with e | e
  ·obtain ⟨q1, q2, q3⟩ := blk b e
   rcases hn with hn | hn | hn | hn
   ·omega
   ·exact q2 hn
   ·omega
   ·omega
  ·rcases hn with hn | hn | hn | hn
   ·omega
   ·have := (hO b hn).1; omega
   ·omega
   ·omega
end
/-- Three cells are set. -/
theorem set3 {V : World} {b c d : Nat} {x1 x2 x3 : Value} {t1 t2 t3 : TypeId} (h1 : V.heap[b]? = some (.cells #[x1] t1 (0, 0))) (h2 : V.heap[c]? = some (.cells #[x2] t2 (0, 0))) (h3 : V.heap[d]? = some (.cells #[x3] t3 (0, 0))) (hbc : b ≠ c) (hcd : c ≠ d) (hbd : b ≠ d) (y1 y2 y3 : Value) :
  (((V.setCell ⟨b, 0, none⟩ y1).setCell ⟨c, 0, none⟩ y2).setCell ⟨d, 0, none⟩ y3).heap[b]? = some (.cells #[y1] t1 (0, 0)) ∧ (((V.setCell ⟨b, 0, none⟩ y1).setCell ⟨c, 0, none⟩ y2).setCell ⟨d, 0, none⟩ y3).heap[c]? = some (.cells #[y2] t2 (0, 0)) ∧ (((V.setCell ⟨b, 0, none⟩ y1).setCell ⟨c, 0, none⟩ y2).setCell ⟨d, 0, none⟩ y3).heap[d]? = some (.cells #[y3] t3 (0, 0)) ∧
  Turn (fun x => x = b ∨ x = c ∨ x = d) V (((V.setCell ⟨b, 0, none⟩ y1).setCell ⟨c, 0, none⟩ y2).setCell ⟨d, 0, none⟩ y3) :=
 ⟨(Turn.set1 _ d 0 y3).heap ((Turn.set1 _ c 0 y2).heap (cell1_set y1 h1) (by omega)) (by omega), (Turn.set1 _ d 0 y3).heap (cell1_set y2 ((Turn.set1 V b 0 y1).heap h2 (by omega))) (by omega),
  cell1_set y3 ((Turn.set1 _ c 0 y2).heap ((Turn.set1 V b 0 y1).heap h3 (by omega)) (by omega)), (((Turn.set1 V b 0 y1).mono fun x _ e => .inl e).trans ((Turn.set1 _ c 0 y2).mono fun x _ e => .inr (.inl e))).trans ((Turn.set1 _ d 0 y3).mono fun x _ e => .inr (.inr e))⟩
/-- Results in three cells. -/
theorem results_three {fn : Func} {p q r : Tmp} (h : fn.results = #[.cell p 46, .cell q 85, .cell r 35]) {tmps : Array Value} {w : World} {b c d : Nat} {x y z : Value}
  (hp : tmps.getD p undef = .pointer (some ⟨b, 0, none⟩)) (hq : tmps.getD q undef = .pointer (some ⟨c, 0, none⟩)) (hr : tmps.getD r undef = .pointer (some ⟨d, 0, none⟩))
  (hx : w.heap[b]? = some (.cells #[x] 46 (0, 0))) (hy : w.heap[c]? = some (.cells #[y] 85 (0, 0))) (hz : w.heap[d]? = some (.cells #[z] 35 (0, 0))) :
  (results fn tmps).run Tryz.prog w = .ok (.tuple #[x, y, z]) w := by
 have hp' : tmps[p]?.getD undef = .pointer (some ⟨b, 0, none⟩) := by simpa using hp
 have hq' : tmps[q]?.getD undef = .pointer (some ⟨c, 0, none⟩) := by simpa using hq
 have hr' : tmps[r]?.getD undef = .pointer (some ⟨d, 0, none⟩) := by simpa using hr
 have c1 := cell_of_one hx
 have c2 := cell_of_one hy
 have c3 := cell_of_one hz
 simp [results, h, hp', hq', hr', asAddr, go_sem, c1, c2, c3]
end Go.Proofs.YtamkkhlabfahmaaGreatDoor

namespace Go.Proofs.YtamkkhlabfahmaaGreatDoor
open Go.RowKit Go.Ab

theorem len_size : Lib.len8tab.size = 256 := by decide +kernel
theorem len_at : ∀ n : Fin Lib.len8tab.size, (Lib.len8tab[n.val]).toNat = Lib.bitLen n.val := by decide +kernel
theorem len_fin (y : Nat) (h : y < Lib.len8tab.size) : (Lib.len8tab[y]).toNat = Lib.bitLen y ∧ Lib.bitLen y ≤ 8 := ⟨len_at ⟨y, h⟩, Lib.bitLen_le8 ⟨y, by rw [← len_size]; exact h⟩⟩
theorem len_sum (x y s : Nat) (hx : x < 18446744073709551616) (hy : y = x / 2 ^ s) (h : 2 ^ s ≤ x) : Lib.bitLen x = s + Lib.bitLen y := by
 rw [hy]; exact Lib.bitLen_shift s x h hx
theorem wrap_small (s : Int) (b : Nat) (hs : 0 ≤ s ∧ s ≤ 56) (hb : b ≤ 8) : wrap64 (s + wrap64 (b : Int)) = s + b := by
 unfold wrap64; omega

theorem len_fit {x : Int} (h0 : 0 ≤ x) (h1 : x ≤ 18446744073709551615) (y : Int) (s : Nat) (hs : s ≤ 56) (hy : y = x / ((2 ^ s : Nat) : Int)) (hlo : ((2 ^ s : Nat) : Int) ≤ x) (_hhi : y < 256) (h : y.toNat < Lib.len8tab.size) :
  wrap64 ((s : Int) + wrap64 ((Lib.len8tab[y.toNat]).toNat : Int)) = (Lib.bitLen x.toNat : Int) := by
 obtain ⟨e1, e2⟩ := len_fin y.toNat h
 rw [e1, wrap_small _ _ ⟨by omega, by omega⟩ e2]
 obtain ⟨n, rfl⟩ := Int.eq_ofNat_of_zero_le h0
 have hy2 : y.toNat = n / 2 ^ s := by
  have e : ((n : Int) / ((2 ^ s : Nat) : Int)) = ((n / 2 ^ s : Nat) : Int) := (Int.natCast_ediv n (2 ^ s)).symm
  rw [hy, e, Int.toNat_natCast]
 have := len_sum n y.toNat s (by omega) hy2 (by exact_mod_cast hlo)
 rw [Int.toNat_natCast, this]
 omega
theorem len_fit0 {x : Int} (_h0 : 0 ≤ x) (_hhi : x < 256) (h : x.toNat < Lib.len8tab.size) :
  wrap64 (wrap64 ((Lib.len8tab[x.toNat]).toNat : Int)) = (Lib.bitLen x.toNat : Int) := by
 obtain ⟨e1, e2⟩ := len_fin x.toNat h
 rw [e1]
 have := wrap_small 0 (Lib.bitLen x.toNat) (by omega) e2
 rw [Int.zero_add, Int.zero_add] at this
 exact this

theorem len_core (x : Int) (w : World) (h0 : 0 ≤ x) (h1 : x ≤ 18446744073709551615) :
  Calls Tryz.prog 146 #[.int .u64 x] w fun e w' => e = .returned (.int .i64 (Lib.bitLen x.toNat)) ∧ w' = w := by
 have hsz := len_size
 go_enter Tryz.func146, Tryz.ntmps146
 go_wp2
 all_goals
  refine bodyPost_ret (results_tmp rfl _ _ _) rfl ⟨?_, rfl⟩
  show Ending.returned (.int .i64 _) = Ending.returned (.int .i64 _)
  refine ret_int ?_
 all_goals first
  | exact len_fit h0 h1 (x / 4294967296 / 65536 / 256) 56 (by omega) (by omega) (by omega) (by omega) _
  | exact len_fit h0 h1 (x / 4294967296 / 65536) 48 (by omega) (by omega) (by omega) (by omega) _
  | exact len_fit h0 h1 (x / 4294967296 / 256) 40 (by omega) (by omega) (by omega) (by omega) _
  | exact len_fit h0 h1 (x / 4294967296) 32 (by omega) (by omega) (by omega) (by omega) _
  | exact len_fit h0 h1 (x / 65536 / 256) 24 (by omega) (by omega) (by omega) (by omega) _
  | exact len_fit h0 h1 (x / 65536) 16 (by omega) (by omega) (by omega) (by omega) _
  | exact len_fit h0 h1 (x / 256) 8 (by omega) (by omega) (by omega) (by omega) _
  | exact len_fit0 h0 (by omega) _

theorem len_any (x : Nat) (hx : x < 18446744073709551616) (w : World) :
  Calls Tryz.prog 146 #[.int .u64 (x : Int)] w fun e w' => e = .returned (.int .i64 (Lib.bitLen x)) ∧ w' = w := len_core (x : Int) w (by omega) (by omega)
end Go.Proofs.YtamkkhlabfahmaaGreatDoor
