/- law.replace (printed by genrepl.py). law.run: what its iterator keeps (printed by genrun.py). PLAIN: ModeAll: the word as the program keeps it. A region that draws its order, in which a cell that is loaded is stored into by a LATE operation: S is asked behind the early operations only. No program is named. -/
import Derived.Test.YtamkkhlabfahmaaGreatDoorGa11
import Derived.Test.YtamkkhlabfahmaaGreatDoorGa08
import Derived.Test.YtamkkhlabfahmaaGreatDoorGa09
import Derived.Test.YtamkkhlabfahmaaGreatDoorGa00
set_option maxRecDepth 100000
set_option maxHeartbeats 16000000
namespace Go.Proofs.YtamkkhlabfahmaaGreatDoor
open Go.RowKit Go.Ab
attribute [local go_sem] Oper.semAt_some wide_fn wide_depth

theorem size_snd (D : World) : (sizeOf (Tryz.prog.elem 32)).run Tryz.prog D = .ok 2 D := by
 have h : Tryz.prog.elem 32 = 24 := by kernel_rfl
 obtain ⟨i, hi, _, h2, _⟩ := info_parts (@infoS)
 rw [h]; simp [sizeOf, typeInfo, hi, h2]
theorem under_snd : Tryz.prog.underlying 32 = some (.slice (Tryz.prog.elem 32)) := by kernel_rfl
/-- Three slices in a block of their own. -/
theorem three_rd {w : World} {a b c : Value} {t : TypeId} : Rd (w.alloc (.cells #[a, b, c] t)) (.slice (some ⟨w.heap.size, 0, none⟩) 3 3) 3 1 [a, b, c] := by
 refine ⟨rfl, by simp [maxLen], _, _, rfl, fun _ => ⟨_, _, rfl, by simp, fun j hj => ?_⟩⟩
 rw [Nat.zero_add, World.cell?_alloc_new]
 match j, hj with
 | 0, _ => rfl
 | 1, _ => rfl
 | 2, _ => rfl

theorem replace_any {w : World} {cs : List Value} {l : LawD} {vo : Option Addr} {vn vc : Nat} {ws : Wd} (hl : LawAt w l cs) (hv : WordAt w (.slice vo vn vc) ws) (hn : ws.length = vn) (hcap : vn ≤ vc) (i : Nat) (hi : i + l.ifs.length ≤ vn)
  (hok : ∀ x ∈ l.outs, fitB l.ifs.length x = true) (hsm : l.outs.length ≤ 100) (hwm : vn ≤ 800) :
  Calls Tryz.prog 64 #[.agg cs.toArray, .slice vo vn vc, .int .i64 i] w fun e w' => ∃ u, e = .returned u ∧ w'.ownsRow w.heap.size 24 2 u (replL l ws i).length (sndL (replL l ws i)) ∧ Ext w w' := by
 subst hn
 obtain ⟨nm, k1, p1, m1, n1, a1, b1, o1, N1, c1, k2, p2, m2, n2, a2, b2, o2, N2, c2, io, N3, ic, oo, N4, oc, md, rfl, HLA, HPL, HPR, HIF, HOU, HNM, HN1, HN2, HN3, HN4, HMD, q0, q1, q2, q3, q4⟩ := law_gen hl
 rw [HN3.out] at hi hok
 rw [HN4.out] at hsm
 have hw1 : WordAt w _ _ := WordAt.cut hv (a := 0) (b := i) (by omega) (by omega) hcap
 have hw2 : WordAt w _ _ := WordAt.cut hv (a := i) (b := i + N3) (by omega) hi hcap
 have hw3 : WordAt w _ _ := WordAt.cut hv (a := i + N3) (b := ws.length) hi (by omega) hcap
 rw [take_zero] at hw1
 rw [show i + N3 - i = N3 by omega] at hw2
 rw [take_mid rfl] at hw3
 have s1 := fun D => slice_h (A := vo) (n := ws.length) (c := vc) under_snd size_snd i (by omega) D
 have s2 := fun D => slice_lh (A := vo) (n := ws.length) (c := vc) under_snd size_snd i (i + N3) (by omega) (by omega) D
 have s3 := fun D => slice_l (A := vo) (n := ws.length) (c := vc) under_snd size_snd (i + N3) (by omega) D
 simp only [Int.natCast_add] at s2 s3
 obtain ⟨y1, z1, e1, hx1⟩ : ∃ y z e, sliced vo 0 i vc 2 = .slice y z e := ⟨_, _, _, rfl⟩
 obtain ⟨y2, z2, e2, hx2⟩ : ∃ y z e, sliced vo i (i + N3) vc 2 = .slice y z e := ⟨_, _, _, rfl⟩
 obtain ⟨y3, z3, e3, hx3⟩ : ∃ y z e, sliced vo (i + N3) ws.length vc 2 = .slice y z e := ⟨_, _, _, rfl⟩
 rw [hx1] at hw1 s1
 rw [hx2] at hw2 s2
 rw [hx3] at hw3 s3
 clear hx1 hx2 hx3
 have hmid : ((ws.drop i).take N3).length = N3 := by rw [List.length_take, List.length_drop]; omega
 have hE1 : Ext w (w.alloc (.cells #[.string nm, .int .i64 k1, .int .u32 (p1 : Int), .int .u32 (m1 : Int), .bool n1, .int .i64 a1, .int .i64 b1, .slice o1 N1 c1, .int .i64 k2, .int .u32 (p2 : Int), .int .u32 (m2 : Int), .bool n2, .int .i64 a2, .int .i64 b2, .slice o2 N2 c2, .slice io N3 ic, .slice oo N4 oc, .int .i64 md] 34)) := (Turn.refl _ w).alloc _
 have hH1 : (w.alloc (.cells #[.string nm, .int .i64 k1, .int .u32 (p1 : Int), .int .u32 (m1 : Int), .bool n1, .int .i64 a1, .int .i64 b1, .slice o1 N1 c1, .int .i64 k2, .int .u32 (p2 : Int), .int .u32 (m2 : Int), .bool n2, .int .i64 a2, .int .i64 b2, .slice o2 N2 c2, .slice io N3 ic, .slice oo N4 oc, .int .i64 md] 34)).heap[w.heap.size]? = some (.cells #[.string nm, .int .i64 k1, .int .u32 (p1 : Int), .int .u32 (m1 : Int), .bool n1, .int .i64 a1, .int .i64 b1, .slice o1 N1 c1, .int .i64 k2, .int .u32 (p2 : Int), .int .u32 (m2 : Int), .bool n2, .int .i64 a2, .int .i64 b2, .slice o2 N2 c2, .slice io N3 ic, .slice oo N4 oc, .int .i64 md] 34 (0, 0)) := new_at rfl
 have hputs := fun (D : World) (hE : Ext w D) => put_any (HLA.out.ext hE) (hw2.ext hE) (by rw [hmid]; exact hok) (by rw [HN4.out]; omega)
 have HREP : Hid (replL l ws i = ws.take i ++ putL l ((ws.drop i).take N3) ++ ws.drop (i + N3)) := Lib.hid (by unfold replL repl; rw [HN3.out])
 have hpl := putL_length l ((ws.drop i).take N3)
 rw [HN4.out] at hpl
 have hpok : WdOk (putL l ((ws.drop i).take N3)) := putL_ok hw2.2 HOU.out.2
 obtain ⟨M, hM⟩ : ∃ M, putL l ((ws.drop i).take N3) = M := ⟨_, rfl⟩
 rw [hM] at hputs HREP hpl hpok
 obtain ⟨F, hF⟩ : ∃ F, replL l ws i = F := ⟨_, rfl⟩
 rw [hF] at HREP ⊢
 have HCON : Hid (∀ (uo : Option Addr) (uc : Nat) (w5 : World), w5.ownsRow (w.heap.size + 1) 24 2 (.slice uo N4 uc) N4 (sndL M) → Ext w w5 → Calls Tryz.prog 108 #[.slice (some ⟨w5.heap.size, 0, none⟩) 3 3] (w5.alloc (.cells #[.slice y1 z1 e1, .slice uo N4 uc, .slice y3 z3 e3] 32)) fun e w' => ∃ u, e = .returned u ∧ w'.ownsRow (w5.heap.size + 1) 24 2 u F.length (sndL F) ∧ Ext (w5.alloc (.cells #[.slice y1 z1 e1, .slice uo N4 uc, .slice y3 z3 e3] 32)) w') := Lib.hid fun uo uc w5 hO5 hE5 => by
  have hA : Ext w5 (w5.alloc (.cells #[.slice y1 z1 e1, .slice uo N4 uc, .slice y3 z3 e3] 32)) := (Turn.refl _ w5).alloc _
  have hr5 := Rd.of_own (own_ext hO5 hA)
  have hc := concat_any (w := w5.alloc (.cells #[.slice y1 z1 e1, .slice uo N4 uc, .slice y3 z3 e3] 32)) (us := [ws.take i, M, ws.drop (i + N3)]) (F := F) (by rw [HREP.out]; simp) (three_rd (w := w5))
   (fun j hj => by
    match j, hj with
    | 0, _ => exact (hw1.ext hE5).ext hA
    | 1, _ =>
     show WordAt _ (.slice uo N4 uc) M
     exact ⟨by rw [hpl]; exact hr5, hpok⟩
    | 2, _ => exact (hw3.ext hE5).ext hA) (by rw [HREP.out]; simp [hpl]; omega)
  rw [World.size_alloc] at hc
  exact hc
 have HPUTS := Lib.hid hputs
 clear hl hv hw1 hw2 hw3 hok hputs hmid hpl hpok hM hF
 go_enter Tryz.func64, Tryz.ntmps64
 go_upto_region 2 with (fail)
 obtain ⟨w1, hw1⟩ : ∃ D, w.alloc (.cells #[.string nm, .int .i64 k1, .int .u32 (p1 : Int), .int .u32 (m1 : Int), .bool n1, .int .i64 a1, .int .i64 b1, .slice o1 N1 c1, .int .i64 k2, .int .u32 (p2 : Int), .int .u32 (m2 : Int), .bool n2, .int .i64 a2, .int .i64 b2, .slice o2 N2 c2, .slice io N3 ic, .slice oo N4 oc, .int .i64 md] 34) = D := ⟨_, rfl⟩
 rw [hw1] at hE1 hH1 ⊢
 obtain ⟨B, hB⟩ : ∃ b, w.heap.size = b := ⟨_, rfl⟩
 rw [hB] at hH1 HCON ⊢
 have hs1 : w1.drew.heap.size = B + 1 := by show w1.heap.size = B + 1; rw [← hw1, ← hB]; simp
 have HL1 : Hid (w1.drew.heap[B]? = some (.cells #[.string nm, .int .i64 k1, .int .u32 (p1 : Int), .int .u32 (m1 : Int), .bool n1, .int .i64 a1, .int .i64 b1, .slice o1 N1 c1, .int .i64 k2, .int .u32 (p2 : Int), .int .u32 (m2 : Int), .bool n2, .int .i64 a2, .int .i64 b2, .slice o2 N2 c2, .slice io N3 ic, .slice oo N4 oc, .int .i64 md] 34 (0, 0))) := Lib.hid hH1
 have hp := HPUTS.out w1.drew (Turn.drew hE1)
 rw [hs1, HN4.out] at hp
 have hED : Ext w w1.drew := Turn.drew hE1
 clear hs1 hE1
 have HPUT := Lib.hid hp
 have HB := Lib.hid hB
 clear hp hH1 hw1 hB HPUTS
 refine wp_region_held_drew (S := fun _ => True) (by kernel_rfl) trivial ?_
 intro hS0
 refine tkH (i := 0) (d := 13) (v := ?_) rfl (Or.inl ⟨by rfl, ?_⟩) trivial ?_
 rotate_left
 ·intro w hSw; (try dsimp only at hSw); go_simp; try with_reducible rfl
 try simp only [Act.put, pq]
 refine tkH (i := 1) (d := 14) (v := ?_) rfl (Or.inl ⟨by rfl, ?_⟩) trivial ?_
 rotate_left
 ·intro w hSw; (try dsimp only at hSw); go_simp; try with_reducible rfl
 try simp only [Act.put, pq]
 refine tkH (i := 2) (d := 15) (v := ?_) rfl (Or.inl ⟨by rfl, ?_⟩) trivial ?_
 rotate_left
 ·intro w hSw; (try dsimp only at hSw); go_simp; try with_reducible rfl
 try simp only [Act.put, pq]
 refine tkH (i := 4) (d := 17) (v := ?_) rfl (Or.inl ⟨by rfl, ?_⟩) trivial ?_
 rotate_left
 ·intro w hSw; (try dsimp only at hSw); go_simp; try with_reducible rfl
 try simp only [Act.put, pq]
 refine tkH (i := 5) (d := 18) (v := ?_) rfl (Or.inl ⟨by rfl, ?_⟩) trivial ?_
 rotate_left
 ·intro w hSw; (try dsimp only at hSw); go_simp; try with_reducible rfl
 try simp only [Act.put, pq]
 refine tkH (i := 6) (d := 19) (v := ?_) rfl (Or.inl ⟨by rfl, ?_⟩) trivial ?_
 rotate_left
 ·intro w hSw; (try dsimp only at hSw); go_simp; try with_reducible rfl
 try simp only [Act.put, pq]
 refine tkH (i := 7) (d := 20) (v := ?_) rfl (Or.inl ⟨by rfl, ?_⟩) trivial ?_
 rotate_left
 ·intro w hSw; (try dsimp only at hSw); go_simp; try with_reducible rfl
 try simp only [Act.put, pq]
 refine tkH (i := 9) (d := 22) (v := ?_) rfl (Or.inl ⟨by rfl, ?_⟩) trivial ?_
 rotate_left
 ·intro w hSw; (try dsimp only at hSw); go_simp; try with_reducible rfl
 try simp only [Act.put, pq]
 refine tkH (i := 10) (d := 23) (v := ?_) rfl (Or.inl ⟨by rfl, ?_⟩) trivial ?_
 rotate_left
 ·intro w hSw; (try dsimp only at hSw); go_simp; try with_reducible rfl
 try simp only [Act.put, pq]
 refine tkH (i := 11) (d := 24) (v := ?_) rfl (Or.inl ⟨by rfl, ?_⟩) trivial ?_
 rotate_left
 ·intro w hSw; (try dsimp only at hSw); go_simp; try with_reducible rfl
 try simp only [Act.put, pq]
 refine wpAnyH_ready (rs := [3]) (by kernel_rfl) (by simp) ?_
 refine AllReadyH.cons rfl (fun K hK => ?_) AllReadyH.nil
 (try rw [if_pos (show Region.wanted _ _ = true from rfl)])
 refine wp_load_row 34 (.tmp 3) rfl B rfl _ _ _ _ HL1.out Tryz.underlying34 rfl Tryz.lawInfo ?_
 refine hK.out _ _ trivial (fun _ => ?_)
 clear hK K
 try simp only [Act.put, List.setIfInBounds_toArray]
 refine wpAnyH_ready (rs := [8]) (by kernel_rfl) (by simp) ?_
 refine AllReadyH.cons rfl (fun K hK => ?_) AllReadyH.nil
 (try rw [if_pos (show Region.wanted _ _ = true from rfl)])
 go_simp
 refine HPUT.out.mono ?_
 rintro e w5 ⟨u, rfl, hO5, hN5⟩
 refine hK.out _ _ trivial (fun _ => ?_)
 clear hK K
 obtain ⟨uo, uc, rfl⟩ := own_slice hO5
 try simp only [Act.put, pq]
 refine wpAnyH_ready (rs := [12]) (by kernel_rfl) (by simp) ?_
 refine AllReadyH.cons rfl (fun K hK => ?_) AllReadyH.nil
 (try rw [if_pos (show Region.wanted _ _ = true from rfl)])
 go_simp
 refine hK.out _ _ trivial (fun _ => ?_)
 clear hK K
 try simp only [Act.put, pq]
 refine wpAnyH_ready (rs := [13]) (by kernel_rfl) (by simp) ?_
 refine AllReadyH.cons rfl (fun K hK => ?_) AllReadyH.nil
 (try rw [if_pos (show Region.wanted _ _ = true from rfl)])
 go_simp
 refine (HCON.out uo uc w5 hO5 (Turn.trans hED hN5)).mono ?_
 rintro e w6 ⟨u6, rfl, hO6, hN6⟩
 refine hK.out _ _ trivial (fun _ => ?_)
 clear hK K
 try simp only [Act.put, pq]
 refine tkH (i := 14) (d := 6) (v := ?_) rfl (Or.inl ⟨by rfl, ?_⟩) trivial ?_
 rotate_left
 ·intro w hSw; (try dsimp only at hSw); go_simp; try with_reducible rfl
 try simp only [Act.put, pq]
 refine wpAnyH_done (by kernel_rfl) ?_ _
 go_wp2
 go_ret
 have hEF : Ext w w6 := Turn.trans (Turn.trans hED hN5) (Turn.trans ((Turn.refl _ w5).alloc _) hN6)
 refine ⟨_, rfl, own_base hO6 ?_, hEF⟩
 have h1 := (Turn.trans hED hN5).size
 omega


/-- A slice lies in kept blocks. -/
def KeptIn (S : Nat → Prop) (v : Value) : Prop := ∀ g o n c, v = .slice (some ⟨g, o, none⟩) n c → 0 < n → S g
/-- What law.run yields: a place, and a word in a block that is not turned any more. -/
def RunE (m n : Nat) (O : Nat → Prop) (x : Nat × Wd) (W : World) (ys : Array Value) : Prop := ∃ ao c, ys = #[.int .i64 (x.1 : Int), .slice ao x.2.length c] ∧ WordAt W (.slice ao x.2.length c) x.2 ∧ x.2.length ≤ c ∧ KeptIn (fun g => O g ∧ n + m ≤ g ∧ g < W.heap.size) (.slice ao x.2.length c)
/-- The blocks that it turns: its first m ones. -/
def RunM (m n b : Nat) : Prop := b < n + m
/-- What the iterator has captured. -/
structure RunSt (W : World) (BW BL Bk Bm : Nat) (l : LawD) (cs : List Value) (vo : Option Addr) (vc : Nat) (ws : Wd) : Prop where
 law : LBx W BL l cs
 box : SlBox W BW (.slice vo ws.length vc)
 word : WordAt W (.slice vo ws.length vc) ws
 tab : Tab W
 bk : W.heap[Bk]? = some (.cells #[.int .i64 (l.ifs.length : Int)] 3 (0, 0))
 bm : W.heap[Bm]? = some (.cells #[.int .i64 (l.outs.length : Int)] 3 (0, 0))
theorem wd_keepS {S : Nat → Prop} {A B : World} {v : Value} {w : Wd} (h : WordAt A v w) (ht : Turn (fun b => ¬ S b) A B) (hS : KeptIn S v) : WordAt B v w :=
 by
  cases w with
  | nil =>
   obtain ⟨⟨h1, h2, ao, cap, hv, _⟩, h4⟩ := h
   exact ⟨⟨h1, h2, ao, cap, hv, fun h => by simp at h⟩, h4⟩
  | cons s w =>
   obtain ⟨ao, cap, hv, _⟩ := h.slice
   exact ⟨h.1.keep ht (fun g o n c e hn => hn (hS g o n c e (by rw [hv] at e; cases e; simp))), h.2⟩
theorem box_set {W : World} {b : Nat} {v : Value} (u : Value) (h : SlBox W b v) : SlBox (W.setCell ⟨b, 0, none⟩ u) b u := by
 unfold SlBox at h ⊢
 simp only [World.setCell, Array.getElem?_modify, h]; simp
/-- Where the run stands: O: the iterator's own blocks; Y0: the box of yield; Y0 + 1: the box of the word. -/
structure RunNow (w V : World) (K O : Nat → Prop) (J : (Nat → Prop) → List (Nat × Wd) → World → Prop) (Y0 lp : Nat) (tr : List (Nat × Wd)) (u : Wd) (uo : Option Addr) (uc : Nat) : Prop where
 j : J O tr V
 oy : O Y0
 on : O (Y0 + 1)
 lt : ∀ b, O b → Y0 ≤ b ∧ b < V.heap.size
 t : Turn (fun b => ¬ K b) w V
 y : V.heap[Y0]? = some (.cells #[.func (.yield lp) #[] #[]] 167 (0, 0))
 n : SlBox V (Y0 + 1) (.slice uo u.length uc)
 wd : WordAt V (.slice uo u.length uc) u
 cap : u.length ≤ uc
 kept : KeptIn (fun b => K b ∨ O b) (.slice uo u.length uc)
section
variable {w V : World} {K O : Nat → Prop} {J : (Nat → Prop) → List (Nat × Wd) → World → Prop} {Y0 lp m : Nat} {tr : List (Nat × Wd)} {u : Wd} {uo : Option Addr} {uc : Nat}
theorem RunNow.ext {V' : World} (h : RunNow w V K O J Y0 lp tr u uo uc) (hE : Ext V V') (hJ : ∀ O O' pre A B, J O pre A → Turn (fun b => O b ∧ RunM m Y0 b) A B → (∀ b, O' b → (O b ∨ A.heap.size ≤ b) ∧ b < B.heap.size) → J O' pre B) : RunNow w V' K O J Y0 lp tr u uo uc :=
 ⟨hJ _ _ _ _ _ h.j (Ext.of hE) (fun b hb => ⟨.inl hb, Nat.lt_of_lt_of_le (h.lt b hb).2 hE.size⟩), h.oy, h.on, fun b hb => ⟨(h.lt b hb).1, Nat.lt_of_lt_of_le (h.lt b hb).2 hE.size⟩, h.t.trans (Ext.of hE), hE.keep h.y, hE.keep h.n, h.wd.ext hE, h.cap, h.kept⟩
theorem RunNow.yielded {B : World} {x : Nat × Wd} (h : RunNow w V K O J Y0 lp tr u uo uc) (hj : J O (tr ++ [x]) B) (ht : Turn (fun b => ¬ K b ∧ ¬ O b) V B) : RunNow w B K O J Y0 lp (tr ++ [x]) u uo uc :=
 ⟨hj, h.oy, h.on, fun b hb => ⟨(h.lt b hb).1, Nat.lt_of_lt_of_le (h.lt b hb).2 ht.size⟩, h.t.trans (ht.mono fun _b _ hb => hb.1), ht.heap h.y (fun hb => hb.2 h.oy), ht.heap h.n (fun hb => hb.2 h.on), wd_keepS (S := fun b => K b ∨ O b) h.wd (ht.mono fun _b _ hb hn => hn.elim hb.1 hb.2) h.kept, h.cap, h.kept⟩
/-- A new word is laid, and put into the box. -/
theorem RunNow.put2 {V1 : World} {r : Wd} {ro : Option Addr} {rc : Nat} (h : RunNow w V K O J Y0 lp tr u uo uc) (hK : ∀ b, K b → b < Y0) (hO1 : V1.ownsRow V.heap.size 24 2 (.slice ro r.length rc) r.length (sndL r)) (hE : Ext V V1) (hr : WdOk r) (hm : 2 ≤ m)
  (hJ : ∀ O O' pre A B, J O pre A → Turn (fun b => O b ∧ RunM m Y0 b) A B → (∀ b, O' b → (O b ∨ A.heap.size ≤ b) ∧ b < B.heap.size) → J O' pre B) : ∃ O', RunNow w (V1.setCell ⟨Y0 + 1, 0, none⟩ (.slice ro r.length rc)) K O' J Y0 lp tr r ro rc ∧ (∀ b, O b → O' b) ∧ KeptIn (fun g => O' g ∧ V.heap.size ≤ g ∧ g < (V1.setCell ⟨Y0 + 1, 0, none⟩ (.slice ro r.length rc)).heap.size) (.slice ro r.length rc) := by
 have hset : Turn (fun b => b = Y0 + 1) V1 (V1.setCell ⟨Y0 + 1, 0, none⟩ (.slice ro r.length rc)) := Turn.set1 V1 (Y0 + 1) 0 _
 have hlt1 := (h.lt _ h.on).2
 have hVM : Turn (fun b => O b ∧ RunM m Y0 b) V (V1.setCell ⟨Y0 + 1, 0, none⟩ (.slice ro r.length rc)) := Turn.trans (Ext.of hE) (hset.mono fun b _ e => by rw [e]; exact ⟨h.on, by unfold RunM; omega⟩)
 have hVO : Turn O V (V1.setCell ⟨Y0 + 1, 0, none⟩ (.slice ro r.length rc)) := Turn.trans (Ext.of hE) (hset.mono fun b _ e => by rw [e]; exact h.on)
 have hlen := own_len hO1
 have hb : ∀ g, (Value.slice ro r.length rc).ownBlock = some g → V.heap.size ≤ g ∧ g < V1.heap.size := fun g hg => hO1.lt g hg
 have hO2 := own_keep hO1 hset (fun g hg e => by have := hb g hg; omega)
 have hown : ∀ g o n c, Value.slice ro r.length rc = .slice (some ⟨g, o, none⟩) n c → (Value.slice ro r.length rc).ownBlock = some g := by
  intro g o n c e
  rw [e]
  rcases hO1.2 with ⟨q, _⟩ | ⟨g', c', cur, q, _⟩
  ·rw [q] at e; cases e
  ·rw [q] at e; cases e; rfl
 refine ⟨fun b => O b ∨ (Value.slice ro r.length rc).ownBlock = some b, ⟨hJ _ _ _ _ _ h.j hVM (fun b hb' => ?_), .inl h.oy, .inl h.on, fun b hb' => ?_, ?_, ?_, box_set _ (hE.keep h.n), own_word hO2 hr, hlen.1, ?_⟩, fun b hb => .inl hb, fun g o n c e h0' => by have := hb g (hown g o n c e); exact ⟨.inr (hown g o n c e), this.1, Nat.lt_of_lt_of_le this.2 hset.size⟩⟩
 ·rcases hb' with hb' | hb'
  ·exact ⟨.inl hb', Nat.lt_of_lt_of_le (h.lt b hb').2 hVO.size⟩
  ·exact ⟨.inr (hb b hb').1, Nat.lt_of_lt_of_le (hb b hb').2 hset.size⟩
 ·rcases hb' with hb' | hb'
  ·exact ⟨(h.lt b hb').1, Nat.lt_of_lt_of_le (h.lt b hb').2 hVO.size⟩
  ·have := (h.lt _ h.oy).2; exact ⟨by have := (hb b hb').1; omega, Nat.lt_of_lt_of_le (hb b hb').2 hset.size⟩
 ·exact (h.t.trans (Ext.of hE)).trans (hset.mono fun b _ e hk => by have := hK _ hk; omega)
 ·exact hset.heap (hE.keep h.y) (by omega)
 ·exact fun g o n c e h0' => .inr (.inr (hown g o n c e))
theorem RunNow.put {V1 : World} {r : Wd} {ro : Option Addr} {rc : Nat} (h : RunNow w V K O J Y0 lp tr u uo uc) (hK : ∀ b, K b → b < Y0) (hO1 : V1.ownsRow V.heap.size 24 2 (.slice ro r.length rc) r.length (sndL r)) (hE : Ext V V1) (hr : WdOk r) (hm : 2 ≤ m)
  (hJ : ∀ O O' pre A B, J O pre A → Turn (fun b => O b ∧ RunM m Y0 b) A B → (∀ b, O' b → (O b ∨ A.heap.size ≤ b) ∧ b < B.heap.size) → J O' pre B) : ∃ O', RunNow w (V1.setCell ⟨Y0 + 1, 0, none⟩ (.slice ro r.length rc)) K O' J Y0 lp tr r ro rc := by
 obtain ⟨O', h1, _⟩ := h.put2 hK hO1 hE hr hm hJ
 exact ⟨O', h1⟩
end
/-- The length of the word in a box. -/
def boxLen (W : World) (b : Nat) : Nat := match W.cell? ⟨b, 0, none⟩ with | some (.slice _ n _) => n | _ => 0
theorem boxLen_eq {W : World} {b : Nat} {ao : Option Addr} {n c : Nat} (h : SlBox W b (.slice ao n c)) : boxLen W b = n := by unfold boxLen; rw [cell_of_one h]
end Go.Proofs.YtamkkhlabfahmaaGreatDoor

namespace Go.Proofs.YtamkkhlabfahmaaGreatDoor
open Go.RowKit Go.Ab

def AllB (l : LawD) (ws : Wd) (pre : List Nat) (tr : List (Nat × Wd)) (u : Wd) (next : Nat) : Prop :=
 ∃ d, AllAt l ws pre tr next d ∧ u = d ++ ws.drop next ∧ tr.length ≤ next ∧ next ≤ ws.length + 1
/-- The shift: how much longer the beginning has become. -/
def shiftZ (l : LawD) (tr : List (Nat × Wd)) : Int := ((tr.length * l.outs.length : Nat) : Int) - ((tr.length * l.ifs.length : Nat) : Int)
theorem AllB.start {l : LawD} {ws : Wd} (h : l.mode = 1) : AllB l ws [] [] ws 0 := ⟨[], .start h, by simp, by simp, by omega⟩
theorem AllB.pass {l : LawD} {ws : Wd} {pre : List Nat} {tr : List (Nat × Wd)} {u : Wd} {next a : Nat} (h : AllB l ws pre tr u next) (ha : a < next) : AllB l ws (pre ++ [a]) tr u next := by
 obtain ⟨d, h1, h2, h3, h4⟩ := h
 exact ⟨d, h1.pass ha, h2, h3, h4⟩
theorem AllB.done {l : LawD} {ws : Wd} {tr : List (Nat × Wd)} {u : Wd} {next : Nat} (h : AllB l ws (hitsL l ws) tr u next) : traceL l ws = tr := by
 obtain ⟨d, h1, _⟩ := h
 exact h1.done
/-- One replacement: the word r, made of the word u as it is, and of the word as it was. -/
theorem AllB.hit {l : LawD} {ws : Wd} {pre rest : List Nat} {tr : List (Nat × Wd)} {u : Wd} {next a : Nat} (h : AllB l ws pre tr u next) (hx : hitsL l ws = pre ++ a :: rest) (ha : next ≤ a) :
  ∃ (c : Nat) (r : Wd), (c : Int) = (a : Int) + shiftZ l tr ∧ c ≤ u.length ∧ r = u.take c ++ putL l ((ws.drop a).take l.ifs.length) ++ ws.drop (a + l.ifs.length) ∧ r.length + l.ifs.length = c + l.outs.length + (ws.length - a) ∧ c ≤ a + tr.length * l.outs.length ∧ tr.length ≤ ws.length ∧ a + l.ifs.length ≤ ws.length ∧
   AllB l ws (pre ++ [a]) (tr ++ [(a, r)]) r (a + max l.ifs.length 1) ∧ ∃ rest2, traceL l ws = tr ++ (a, r) :: rest2 := by
 obtain ⟨d, h1, h2, h3, h4⟩ := h
 obtain ⟨p1, p2, p3, p4⟩ := pair_split hx
 have hle := hit_le p1
 obtain ⟨d1, hd1, hl1, h5⟩ := h1.hit hx ha
 have hdu : u.take d1.length = d1 := by
  rw [h2, hd1, List.length_append, List.take_append, List.take_of_length_le (by omega)]
  congr 1
  rw [show d.length + ((ws.drop next).take (a - next)).length - d.length = ((ws.drop next).take (a - next)).length by omega]
  rw [List.length_take, List.length_drop]
  rw [show min (a - next) (ws.length - next) = a - next by omega]
 have hcu : d1.length ≤ u.length := by rw [← hdu, List.length_take]; omega
 refine ⟨d1.length, d1 ++ putL l ((ws.drop a).take l.ifs.length) ++ ws.drop (a + l.ifs.length), by unfold shiftZ; omega, hcu, by rw [hdu], ?_, by omega, by omega, hle, ⟨_, h5, ?_, ?_, by omega⟩, ?_⟩
 ·rw [List.length_append, List.length_append, putL_length, List.length_drop]; omega
 ·by_cases hk : l.ifs.length = 0
  ·rw [if_pos hk, hk]
   simp only [Nat.add_zero, Nat.zero_max, List.append_assoc]
   congr 2
   skip
   rw [← List.drop_drop, List.take_append_drop]
  ·rw [if_neg hk, show a + max l.ifs.length 1 = a + l.ifs.length by omega]
 ·rw [List.length_append, List.length_singleton]; omega
 ·obtain ⟨⟨n, _, ht⟩, _⟩ := h5
  exact ⟨_, by rw [ht, List.append_assoc]; rfl⟩
theorem shiftZ_succ (l : LawD) (tr : List (Nat × Wd)) (x : Nat × Wd) : shiftZ l (tr ++ [x]) = shiftZ l tr + (l.outs.length : Int) - (l.ifs.length : Int) := by
 unfold shiftZ
 rw [List.length_append, List.length_singleton, Nat.add_mul, Nat.add_mul]; omega
end Go.Proofs.YtamkkhlabfahmaaGreatDoor

namespace Go.Ab
open Go.RowKit

section
variable {P : Program} {ops : Array Oper} {Q : Exit → Act → World → Prop} {md : Region.Mode} {S : World → Prop} {Lt : List Nat}

/-- What has come up stands behind all that it waits for. -/
def Closed (md : Region.Mode) (ops : Array Oper) (listed : Array Bool) : Prop :=
 ∀ k o, ops[k]? = some o → listed.getD k false = true → ∀ e ∈ o.after, Region.binds md e = true → listed.getD e.on false = true
/-- Does k wait for i, by a chain of at most so many edges? -/
def waits (md : Region.Mode) (ops : Array Oper) (i : Nat) : Nat → Nat → Bool
 | 0, _ => false
 | f + 1, k => match ops[k]? with
  | some o => o.after.toList.any fun e => Region.binds md e && (e.on == i || waits md ops i f e.on)
  | none => false
theorem waits_not {listed : Array Bool} {i : Nat} (hc : Closed md ops listed) (hi : listed.getD i false = false) : ∀ (f k : Nat), waits md ops i f k = true → listed.getD k false = false ∧ ¬ k ∈ Region.ready md ops listed
 | 0, _, h => by cases h
 | f + 1, k, h => by
  unfold waits at h
  cases ho : ops[k]? with
  | none => rw [ho] at h; cases h
  | some o =>
   rw [ho] at h
   obtain ⟨e, he, hb⟩ := List.any_eq_true.1 h
   rw [Bool.and_eq_true, Bool.or_eq_true, beq_iff_eq] at hb
   have he' : e ∈ o.after := by simpa using he
   have hon : listed.getD e.on false = false := by
    rcases hb.2 with h1 | h1
    ·rw [h1]; exact hi
    ·exact (waits_not hc hi f e.on h1).1
   constructor
   ·cases hk : listed.getD k false with
    | false => rfl
    | true => rw [hc k o ho hk e he' hb.1] at hon; cases hon
   ·intro hr
    obtain ⟨_, o', ho', hall⟩ := mem_ready.1 hr
    rw [ho] at ho'
    cases ho'
    rw [hall e he' hb.1] at hon; cases hon
theorem Closed.step {listed : Array Bool} {j : Nat} (hc : Closed md ops listed) (hj : j ∈ Region.ready md ops listed) : Closed md ops (listed.setIfInBounds j true) := by
 intro k o ho hk e he hb
 refine getD_set_true ?_
 by_cases hkj : k = j
 ·subst hkj
  obtain ⟨_, o', ho', hall⟩ := mem_ready.1 hj
  rw [ho] at ho'
  cases ho'
  exact hall e he hb
 ·rw [getD_set_ne false (Ne.symm hkj)] at hk
  exact hc k o ho hk e he hb

/-- Whatever order is picked from here on; S holds behind every operation that is not late. -/
def wpAnyE (P : Program) (md : Region.Mode) (ops : Array Oper) (Q : Exit → Act → World → Prop) (S : World → Prop) (Lt : List Nat) : Nat → Array Bool → Act → World → Prop
 | 0, listed, a, w => Region.ready md ops listed = [] ∧ Q .normal a w
 | fuel + 1, listed, a, w =>
  (Region.ready md ops listed = [] → Q .normal a w) ∧
  ∀ i ∈ Region.ready md ops listed, wpOp P ops Q i (fun a' w' => (Lt.contains i = false → S w') ∧ wpAnyE P md ops Q S Lt fuel (listed.setIfInBounds i true) a' w') a w

theorem wpAny_of_late : ∀ (fuel : Nat) (listed : Array Bool) (a : Act) (w : World), wpAnyE P md ops Q S Lt fuel listed a w → wpAny P md ops Q fuel listed a w
 | 0, _, _, _, h => h
 | fuel + 1, _, _, _, h => ⟨h.1, fun i hi => wpOp_mono (fun a' w' h' => wpAny_of_late fuel _ a' w' h'.2) (h.2 i hi)⟩

theorem wpAnyE_first {i : Nat} {oi : Oper} {v : Value} (hi : ops[i]? = some oi) (hsel : ∀ (j : Nat) (o : Oper) cs b, ops[j]? = some o → o.op ≠ .select cs b)
  (hQ : ∀ c a w, Q (.panic c) (a.put oi.dst v) w → Q (.panic c) a w) (hlate : ∀ j, Lt.contains j = true → waits md ops i ops.size j = true) :
  ∀ (fuel : Nat) (listed : Array Bool) (a : Act) (w : World), Closed md ops listed →
   (∀ j oj, ops[j]? = some oj → j ≠ i → listed.getD j true = false → (∀ e ∈ oj.after, Region.binds md e = true → e.on ≠ i) → oi.apart ops oj = true) →
   i ∈ Region.ready md ops listed → YieldsIf P ops S oi v a → S w →
   wpAnyE P md ops Q S Lt fuel (listed.setIfInBounds i true) (a.put oi.dst v) w → wpAnyE P md ops Q S Lt (fuel + 1) listed a w := by
 intro fuel
 induction fuel with
 | zero =>
  intro listed a w _ _ hr hy hS H
  refine ⟨fun h => (by rw [h] at hr; cases hr), fun j hj => ?_⟩
  by_cases hji : j = i
  ·subst hji; exact hy.wpOp hi hS ⟨fun _ => hS, H⟩
  ·have := ready_mono hj hji
   rw [H.1] at this
   cases this
 | succ fuel ih =>
  intro listed a w hcl hfree hr hy hS H
  refine ⟨fun h => (by rw [h] at hr; cases hr), fun j hj => ?_⟩
  by_cases hji : j = i
  ·subst hji; exact hy.wpOp hi hS ⟨fun _ => hS, H⟩
  ·have h1 := H.2 j (ready_mono hj hji)
   have hiun : listed.getD i false = false := by
    have h0 := (mem_ready.1 hr).1
    rcases Nat.lt_or_ge i listed.size with h' | h'
    ·simp [h'] at h0 ⊢; exact h0
    ·simp [Array.getElem?_eq_none h']
   have hearly : Lt.contains j = false := by
    cases hl : Lt.contains j with
    | false => rfl
    | true => exact absurd hj (waits_not hcl hiun _ _ (hlate j hl)).2
   obtain ⟨hjun, oj, hoj, hall⟩ := mem_ready.1 hj
   have hnot : ∀ e ∈ oj.after, Region.binds md e = true → e.on ≠ i := fun e he hb heq => by
    have h1 := hall e he hb
    rw [heq, hiun] at h1; cases h1
   have h2 := wpOp_putIf hoj (hfree j oj hoj hji hjun hnot) (fun cs b => hsel i oi cs b hi) (fun cs b => hsel j oj cs b hoj) hQ hy h1
   have hfree' : ∀ k ok, ops[k]? = some ok → k ≠ i → (listed.setIfInBounds j true).getD k true = false →
     (∀ e ∈ ok.after, Region.binds md e = true → e.on ≠ i) → oi.apart ops ok = true := fun k ok hk hki hun hno => by
    refine hfree k ok hk hki ?_ hno
    by_cases hjk : j = k
    ·subst hjk; exact hjun
    ·rw [getD_set_ne true hjk] at hun; exact hun
   refine wpOp_mono (fun a' w' h3 => ⟨h3.2.1, ih (listed.setIfInBounds j true) a' w' (hcl.step hj) hfree' (ready_mono hr (Ne.symm hji)) h3.1 (h3.2.1 hearly) ?_⟩) h2
   rw [Array.setIfInBounds_comm _ _ hji]
   exact h3.2.2

def closedB (md : Region.Mode) (ops : Array Oper) (listed : Array Bool) : Bool :=
 (List.range ops.size).all fun k => !listed.getD k false || match ops[k]? with
  | some o => o.after.toList.all fun e => !Region.binds md e || listed.getD e.on false
  | none => true
theorem closedB_spec {listed : Array Bool} (h : closedB md ops listed = true) : Closed md ops listed := by
 intro k o ho hk e he hb
 have h1 := List.all_eq_true.1 h k (List.mem_range.2 (Array.getElem?_eq_some_iff.1 ho).1)
 rw [hk, ho] at h1
 simp only [Bool.not_true, Bool.false_or] at h1
 have h2 := List.all_eq_true.1 h1 e (by simpa using he)
 rw [hb] at h2
 simpa using h2
theorem wpAnyE_take {i : Nat} {oi : Oper} {v : Value} {fuel : Nat} {listed : Array Bool} {a : Act} {w : World} (hi : ops[i]? = some oi)
  (hs : Region.noSelect ops = true) (hf : Region.free md ops listed i = true) (hr : (Region.ready md ops listed).contains i = true) (hc : closedB md ops listed = true) (hl : (Lt.all fun j => waits md ops i ops.size j) = true)
  (hQ : ∀ c a w, Q (.panic c) (a.put oi.dst v) w → Q (.panic c) a w) (hy : YieldsIf P ops S oi v a) (hS : S w)
  (h : wpAnyE P md ops Q S Lt fuel (listed.setIfInBounds i true) (a.put oi.dst v) w) : wpAnyE P md ops Q S Lt (fuel + 1) listed a w :=
 wpAnyE_first hi (Region.noSelect_spec hs) hQ (fun j hj => List.all_eq_true.1 hl j (by simpa using hj)) fuel listed a w (closedB_spec hc) (Region.free_spec hi hf) (by simpa using hr) hy hS h

theorem tkE {i d : Nat} {oi : Oper} {v : Value} {fuel : Nat} {listed : Array Bool} {a : Act} {w : World} (hi : ops[i]? = some oi)
  (hy : YieldsIf P ops S oi v a) (hS : S w) (h : wpAnyE P md ops Q S Lt fuel (listed.setIfInBounds i true) (a.put (some d) v) w)
  (hs : Region.noSelect ops = true := by kernel_rfl) (hf : Region.free md ops listed i = true := by kernel_rfl) (hr : (Region.ready md ops listed).contains i = true := by kernel_rfl) (hc : closedB md ops listed = true := by kernel_rfl) (hl : (Lt.all fun j => waits md ops i ops.size j) = true := by kernel_rfl) (hd : oi.dst = some d := by rfl)
  (hQ : ∀ c a w, Q (.panic c) (a.put (some d) v) w → Q (.panic c) a w := by exact fun _ _ _ h => h) : wpAnyE P md ops Q S Lt (fuel + 1) listed a w :=
 wpAnyE_take hi hs hf hr hc hl (by rw [hd]; exact hQ) hy hS (by rw [hd]; exact h)

def AllReadyE (P : Program) (md : Region.Mode) (ops : Array Oper) (Q : Exit → Act → World → Prop) (S : World → Prop) (Lt : List Nat) (fuel : Nat) (listed : Array Bool) (a : Act) (w : World) (rs : List Nat) : Prop :=
 ∀ i ∈ rs, wpOp P ops Q i (fun a' w' => (Lt.contains i = false → S w') ∧ wpAnyE P md ops Q S Lt fuel (listed.setIfInBounds i true) a' w') a w
theorem AllReadyE.nil {fuel : Nat} {listed : Array Bool} {a : Act} {w : World} : AllReadyE P md ops Q S Lt fuel listed a w [] := fun _ h => by cases h
/-- An early operation. -/
theorem AllReadyE.cons {fuel : Nat} {listed : Array Bool} {a : Act} {w : World} {i : Nat} {o : Oper} {rs : List Nat} (ho : ops[i]? = some o)
  (h : ∀ K' : Act → World → Prop, Go.Shut (∀ a w, S w → (S w → wpAnyE P md ops Q S Lt fuel (listed.setIfInBounds i true) a w) → K' a w) → if Region.wanted o (yielded ops a.tmps) = true then Oper.wp P o a w K' Q else K' (a.put o.dst undef) w)
  (hs : AllReadyE P md ops Q S Lt fuel listed a w rs) : AllReadyE P md ops Q S Lt fuel listed a w (i :: rs) := fun j hj => by
 rcases List.mem_cons.1 hj with rfl | hj
 ·exact wpOp_step ho (fun K' hK => h K' (fun a w hS hW => hK a w ⟨fun _ => hS, hW hS⟩))
 ·exact hs j hj
/-- A late one: nothing is asked of S. -/
theorem AllReadyE.late {fuel : Nat} {listed : Array Bool} {a : Act} {w : World} {i : Nat} {o : Oper} {rs : List Nat} (ho : ops[i]? = some o) (hl : Lt.contains i = true)
  (h : ∀ K' : Act → World → Prop, Go.Shut (∀ a w, wpAnyE P md ops Q S Lt fuel (listed.setIfInBounds i true) a w → K' a w) → if Region.wanted o (yielded ops a.tmps) = true then Oper.wp P o a w K' Q else K' (a.put o.dst undef) w)
  (hs : AllReadyE P md ops Q S Lt fuel listed a w rs) : AllReadyE P md ops Q S Lt fuel listed a w (i :: rs) := fun j hj => by
 rcases List.mem_cons.1 hj with rfl | hj
 ·exact wpOp_step ho (fun K' hK => h K' (fun a w hW => hK a w ⟨fun q => (by rw [hl] at q; cases q), hW⟩))
 ·exact hs j hj
theorem wpAnyE_ready {rs : List Nat} {fuel : Nat} {listed : Array Bool} {a : Act} {w : World} (hr : Region.ready md ops listed = rs) (hne : rs ≠ [])
  (h : AllReadyE P md ops Q S Lt fuel listed a w rs) : wpAnyE P md ops Q S Lt (fuel + 1) listed a w := ⟨fun h0 => absurd (hr ▸ h0) hne, hr ▸ h⟩
theorem wpAnyE_done {listed : Array Bool} {a : Act} {w : World} (hr : Region.ready md ops listed = []) (h : Q .normal a w) :
  ∀ fuel, wpAnyE P md ops Q S Lt fuel listed a w
 | 0 => ⟨hr, h⟩
 | _ + 1 => ⟨fun _ => h, by rw [hr]; simp⟩
/-- THE BEGINNING, outside a round, and within one. -/
theorem wp_region_late {id : Nat} {a : Act} {w : World} (Lt : List Nat) (hm : P.follows .mixedOrders = true) (hS : S w.drew)
  (h : S w.drew → wpAnyE P .any ops Q S Lt ops.size (Array.replicate ops.size false) a w.drew) : (Code.region id ops true).wp P Q a w :=
 wp_region_any hm (wpAny_of_late _ _ _ _ (h hS))
theorem wpIn_region_late {id l n : Nat} {a : Act} {w : World} (Lt : List Nat) (hm : P.follows .mixedOrders = true) (hd : noDefer ops = true) (hQ : ¬ LetsOut Q) (hS : S w.drew)
  (h : S w.drew → wpAnyE P .any ops Q S Lt ops.size (Array.replicate ops.size false) a w.drew) : (Code.region id ops true).wpIn (Fence.wide.inRound l) n P Q a w :=
 wpIn_region_any' hm hd hQ (wpAny_of_late _ _ _ _ (h hS))
end
end Go.Ab
