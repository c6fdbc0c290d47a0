/- ablautlaw06.PatsTimes: the walk (printed by gentimes.py). -/
import Derived.Test.YtapfoaiibjdfnaaDoorTimesRA
import Derived.Test.YtapfoaiibjdfnaaDoorTimesRB
import Derived.Test.YtapfoaiibjdfnaaDoorTimesRC
namespace Go.Proofs.YtapfoaiibjdfnaaDoor
open Go.RowKit Go.Ab
attribute [local go_sem] Oper.semAt_some wide_fn wide_depth

theorem times_plain {p : Pat} {ws : Wd} (h : relE p ws = 0) (hs : sizeP p ≤ 12) {k : Nat} (hk : k ≤ 3) :
    ∃ R1 R3 R5 : Bin2, (relE (.node 5 0 0 false k k [p]) ws = 0 ∧ relP ws (.node 5 0 0 false k k [p]) = R1) ∧ (relE (.node 3 0 0 false 0 0 (List.replicate k p)) ws = 0 ∧ relP ws (.node 3 0 0 false 0 0 (List.replicate k p)) = R1) ∧ (relE (.node 5 0 0 false k ((k : Int) + 1) [p]) ws = 0 ∧ relP ws (.node 5 0 0 false k ((k : Int) + 1) [p]) = R3) ∧ (relE (.node 3 0 0 false 0 0 [.node 5 0 0 false k k [p], .node 5 0 0 false 0 1 [p]]) ws = 0 ∧ relP ws (.node 3 0 0 false 0 0 [.node 5 0 0 false k k [p], .node 5 0 0 false 0 1 [p]]) = R3) ∧ (relE (.node 5 0 0 false k (-1) [p]) ws = 0 ∧ relP ws (.node 5 0 0 false k (-1) [p]) = R5) ∧ (relE (.node 3 0 0 false 0 0 [.node 5 0 0 false k (-1) [p], .node 5 0 0 false 0 (-1) [p]]) ws = 0 ∧ relP ws (.node 3 0 0 false 0 0 [.node 5 0 0 false k (-1) [p], .node 5 0 0 false 0 (-1) [p]]) = R5) ∧
      ∀ a b, (R1 a b = true → R3 a b = true) ∧ (R3 a b = true → R5 a b = true) := by
  have hn : ws.length ≤ 32 := (relE_zero.1 h).2.1
  have ht : totP p ≤ 12 := by rw [sizeP_tot] at hs; omega
  have ha := good_allN h
  have htl : ∀ k, totL (List.replicate k p) = k * totP p := by
    intro k
    induction k with
    | zero => simp [totL]
    | succ k ih => rw [List.replicate_succ, totL_cons, ih, Nat.add_mul]; omega
  have hr : ∀ (lo hi : Int), 0 ≤ lo → lo ≤ 32 → (hi = -1 ∨ (lo ≤ hi ∧ hi ≤ 32)) → allN (.node 5 0 0 false lo hi [p]) ∧ totP (.node 5 0 0 false lo hi [p]) = totP p + 1 := fun lo hi h1 h2 h3 => ⟨allN_rep ha h1 h2 h3, by rw [totP_node, totL_cons]; simp [totL]⟩
  have r1 := hr k k (by omega) (by omega) (by omega)
  have r2 := hr k ((k : Int) + 1) (by omega) (by omega) (by omega)
  have r3 := hr 0 1 (by omega) (by omega) (by omega)
  have r4 := hr k (-1) (by omega) (by omega) (by omega)
  have r5 := hr 0 (-1) (by omega) (by omega) (by omega)
  have two : ∀ x y : Pat, allN x → allN y → totP x = totP p + 1 → totP y = totP p + 1 → relE (.node 3 0 0 false 0 0 [x, y]) ws = 0 := by
    intro x y h1 h2 h3 h4
    refine good_of h (allN_seq fun z hz => ?_) ?_
    · simp only [List.mem_cons, List.not_mem_nil, or_false] at hz
      rcases hz with rfl | rfl
      · exact h1
      · exact h2
    · rw [totP_node, totL_cons, totL_cons]; simp [totL]; omega
  refine ⟨powB (relP ws p) ws.length k, sumB (relP ws p) ws.length k 1, sumB (relP ws p) ws.length k ws.length, ⟨good_of h r1.1 (by omega), times_one ws hn p k⟩, ⟨good_of h (allN_seq fun z hz => by rw [List.eq_of_mem_replicate hz]; exact ha) ?_, times_list ws hn p k⟩, ⟨good_of h r2.1 (by omega), times_more ws hn p k⟩, ⟨two _ _ r1.1 r3.1 r1.2 r3.2, times_next ws hn p k⟩, ⟨good_of h r4.1 (by omega), times_often ws hn p k⟩, ⟨two _ _ r4.1 r5.1 r4.2 r5.2, times_on ws hn p k⟩, times_le ws hn p k⟩
  rw [totP_node, htl]
  have := Nat.mul_le_mul hk ht
  omega

theorem rep_cells {K : Nat → Prop} {w : World} {p : Pat} {cs : List Value} (hp : PatAt K w p cs) (lo hi : Int) :
    Calls Tryd.prog 31 #[.agg cs.toArray, .int .i64 lo, .int .i64 hi] w fun e w' => ∃ ao cap, e = .returned (.agg #[.int .i64 5, .int .u32 0, .int .u32 0, .bool false, .int .i64 lo, .int .i64 hi, .slice ao 1 cap]) ∧ PatAt (fun g => g < w'.heap.size) w' (.node 5 0 0 false lo hi [p]) (patCells 5 0 0 false lo hi ao 1 cap) ∧ Ext w w' := by
  refine (rep_any hp lo hi).mono ?_
  rintro e w' ⟨ds, he, h1, h2⟩
  have h3 := PatAt.bound (p := .node 5 0 0 false lo hi [p]) h1
  obtain ⟨ao, cap, rfl, _⟩ := patAt_cells h3
  exact ⟨ao, cap, he, h3, h2⟩
theorem own_pats {w : World} {base m : Nat} {t : TypeId} {v : Value} {css : List (List Value)} {l : List Pat} {K : Nat → Prop} (h : w.ownsRow base t 7 v m css.flatten) (hl : l.length = m) (hc : css.length = m) (h7 : ∀ c ∈ css, c.length = 7)
    (hp : ∀ j (hj : j < l.length), PatAt K w l[j] (css.getD j [])) : ∃ ao cap, v = .slice ao m cap ∧ PatAt (fun g => g < w.heap.size) w (.node 3 0 0 false 0 0 l) (patCells 3 0 0 false 0 0 ao m cap) := by
  rcases h.2 with ⟨rfl, rfl⟩ | ⟨g, cap, cur, rfl, _, hg, hnc, hcm, _⟩
  · obtain rfl : l = [] := List.eq_nil_of_length_eq_zero hl
    refine ⟨none, 0, rfl, ?_⟩
    unfold PatAt
    exact ⟨none, 0, rfl, by decide, by decide, by simp, by decide, by unfold PatsAt; trivial⟩
  · refine ⟨_, cap, rfl, ?_⟩
    unfold PatAt
    subst hl
    refine ⟨_, cap, rfl, by decide, by decide, hnc, hcm, PatsAt.mk fun j hj => ?_⟩
    refine ⟨g, 0, css.getD j [], rfl, (Array.getElem?_eq_some_iff.1 hg).1, (Array.getElem?_eq_some_iff.1 hg).1, fun i u hu => ?_, PatAt.bound (hp j hj)⟩
    have hcj : (css.getD j []).length = 7 := by
      rw [List.getD_eq_getElem?_getD, List.getElem?_eq_getElem (by omega)]
      exact h7 _ (List.getElem_mem _)
    have hi : i < 7 := by rw [← hcj]; exact (List.getElem?_eq_some_iff.1 hu).1
    have hf := flatten_get css h7 j i (by omega) hi
    rw [hu] at hf
    rw [show 0 + (0 + j) * 7 + i = j * 7 + i by omega, h.cellAt (j * 7 + i) (by omega)]
    exact hf

set_option maxRecDepth 100000 in
set_option maxHeartbeats 16000000 in
theorem times_law (w : World) (hT : Tab w) {p : Pat} {cs : List Value} {v : Value} {ws : Wd} (hp : PatAt (fun g => g < w.heap.size) w p cs) (hv : WordAt w v ws) (fr : Int) (hf0 : 0 ≤ fr) (hf1 : fr ≤ 255) :
    Calls Tryd.prog 9 #[.agg cs.toArray, v, .int .u8 fr] w fun e w' => e = .returned (.bool true) ∧ Ext w w' := by
  have hK : ∀ (V : World), Ext w V → ∀ g, g < w.heap.size → g < V.heap.size := fun V hE g h => Nat.lt_of_lt_of_le h hE.size
  have hgx := fun (V : World) (hE : Ext w V) => good_any (hp.ext hE) (hK V hE) (hv.ext hE) (hT.keep hE id)
  have hsx := fun (V : World) (hE : Ext w V) => size_any (hp.ext hE) (hK V hE)
  have hwo := fun (V : World) (hE : Ext w V) => works_any V (hT.keep hE id)
  have hrp := fun (V : World) (hE : Ext w V) (lo hi : Int) => rep_cells (hp.ext hE) lo hi
  have hou := fun (V : World) (hE : Ext w V) (r : Pat) (rs : List Value) (hr : PatAt (fun g => g < V.heap.size) V r rs) (h : relE r ws = 0) => outs_any hr (fun _ h => h) (hv.ext hE) (hT.keep hE id) h
  have hpl := fun (h : goodV p ws = true) (hs : sizeP p ≤ 12) (k : Nat) (hk : k ≤ 3) => times_plain (goodV_iff.1 h) hs hk
  have hln : goodV p ws = true → ws.length ≤ 32 := goodV_len
  have hpt := fun (V : World) (hE : Ext w V) => hp.ext hE
  have hsb : sizeP p ≤ 41 := by rw [sizeP_tot]; omega
  obtain ⟨ao, cap, rfl, hlc, hcm, _⟩ := patAt_cells hp
  obtain ⟨bo, bcap, rfl, hbm⟩ := hv.slice
  have HGX := Lib.hid hgx; have HSX := Lib.hid hsx; have HWO := Lib.hid hwo; have HRP := Lib.hid hrp; have HOU := Lib.hid hou; have HPL := Lib.hid hpl; have HLN := Lib.hid hln; have HPT := Lib.hid hpt
  clear hgx hsx hwo hrp hou hpl hln hpt hp hlc hcm hv hT hK
  obtain ⟨gx, hgx⟩ : ∃ b, goodV p ws = b := ⟨_, rfl⟩
  obtain ⟨sx, hsx⟩ : ∃ b, sizeP p = b := ⟨_, rfl⟩
  obtain ⟨n, hN⟩ : ∃ n, ws.length = n := ⟨_, rfl⟩
  rw [hgx] at HGX HPL HLN
  rw [hsx] at HSX HPL hsb
  rw [hN] at HGX HOU HLN hbm ⊢
  clear hgx hsx hN
  unfold maxLen at hbm
  unfold patCells at HGX HSX HRP HPT ⊢
  obtain ⟨f, rfl⟩ := Int.eq_ofNat_of_zero_le hf0
  obtain ⟨m, hmm⟩ : ∃ m, f % 4 = m := ⟨_, rfl⟩
  have hm : m ≤ 3 := by omega
  have hmi : ((f : Int).tmod 4) = (m : Int) := by rw [← hmm]; rfl
  have HMI := Lib.hid hmi
  clear hmi hmm hf0
  go_enter Tryd.func9, Tryd.ntmps9
  go_wp2_with fail
  have hx0 : (w.alloc (.cells #[.int .i64 p.k, .int .u32 (p.pl : Int), .int .u32 (p.mi : Int), .bool p.nt, .int .i64 p.mn, .int .i64 p.mx, .slice ao p.l.length cap] 27)).heap[w.heap.size]? = some (.cells #[.int .i64 p.k, .int .u32 (p.pl : Int), .int .u32 (p.mi : Int), .bool p.nt, .int .i64 p.mn, .int .i64 p.mx, .slice ao p.l.length cap] 27 (0, 0)) := new_at rfl
  have hE0 : Ext w (w.alloc (.cells #[.int .i64 p.k, .int .u32 (p.pl : Int), .int .u32 (p.mi : Int), .bool p.nt, .int .i64 p.mn, .int .i64 p.mx, .slice ao p.l.length cap] 27)) := (Turn.refl _ w).alloc _
  generalize (w.alloc (.cells #[.int .i64 p.k, .int .u32 (p.pl : Int), .int .u32 (p.mi : Int), .bool p.nt, .int .i64 p.mn, .int .i64 p.mx, .slice ao p.l.length cap] 27)) = w1 at hx0 hE0 ⊢
  generalize w.heap.size = B at hx0 ⊢
  refine (HGX.out _ hE0).mono ?_
  rintro e w2 ⟨rfl, hE2⟩
  have E := hE0.trans hE2
  have hx := hE2.keep hx0
  clear hE2 hx0 hE0
  cases gx
  · go_wp2_with fail
    refine (HWO.out _ E).mono ?_
    rintro e w3 ⟨rfl, hE3⟩
    have hE03 := E.trans hE3
    clear hE3
    go_wp2
    go_ret
    exact ⟨rfl, hE03⟩
  have cX := fun j => cell_of_row _ _ j _ _ _ hx
  go_wp2_with fail
  refine (HSX.out _ E).mono ?_
  rintro e w3 ⟨rfl, hN⟩
  replace E := E.trans hN
  replace hx := hN.keep hx
  clear hN cX
  by_cases hs12 : sx ≤ 12
  case neg =>
    have hg : (12 : Int) < (sx : Int) := by omega
    go_wp2_with fail
    refine (HWO.out _ E).mono ?_
    rintro e w4 ⟨rfl, hE4⟩
    have hE04 := E.trans hE4
    clear hE4
    go_wp2
    go_ret
    exact ⟨rfl, hE04⟩
  have hg : ¬ (12 : Int) < (sx : Int) := by omega
  have hn : n ≤ 32 := HLN.out (by first | rfl | trivial)
  obtain ⟨R1, R3, R5, ⟨p1, q1⟩, ⟨p2, q2⟩, ⟨p3, q3⟩, ⟨p4, q4⟩, ⟨p5, q5⟩, ⟨p6, q6⟩, hle⟩ := HPL.out (by first | rfl | trivial) hs12 m hm
  have P1 := Lib.hid p1; have P2 := Lib.hid p2; have P3 := Lib.hid p3; have P4 := Lib.hid p4; have P5 := Lib.hid p5; have P6 := Lib.hid p6
  have Q1 := Lib.hid q1; have Q2 := Lib.hid q2; have Q3 := Lib.hid q3; have Q4 := Lib.hid q4; have Q5 := Lib.hid q5; have Q6 := Lib.hid q6
  have HLE := Lib.hid hle; have HX := Lib.hid hx
  clear p1 p2 p3 p4 p5 p6 q1 q2 q3 q4 q5 q6 hle hx HPL HLN hs12 hsb
  obtain ⟨B1, hB1⟩ : ∃ b, w3.heap.size = b := ⟨_, rfl⟩
  have HB1 := Lib.hid hB1
  have hBB : B < B1 := by rw [← hB1]; exact (Array.getElem?_eq_some_iff.1 HX.out).1
  have hmi := HMI.out
  clear hB1
  go_wp2
  clear hmi hg
  refine wp_loop (fun a W => ∃ (i : Nat) (v8 : Value), i ≤ m ∧ a.defers = [] ∧ (a.tmps.size = 227 ∧ a.tmps.getD 1 undef = .slice bo n bcap ∧ a.tmps.getD 3 undef = .pointer (some ⟨B, 0, none⟩) ∧ a.tmps.getD 7 undef = .int .i64 m ∧ a.tmps.getD 8 undef = v8 ∧ a.tmps.getD 9 undef = .int .i64 i) ∧ W.ownsRow B1 27 7 v8 i (List.replicate i ([.int .i64 p.k, .int .u32 (p.pl : Int), .int .u32 (p.mi : Int), .bool p.nt, .int .i64 p.mn, .int .i64 p.mx, .slice ao p.l.length cap] : List Value)).flatten ∧ Ext w3 W)
    (fun a _ => m - (intOf (a.tmps.getD 9 undef)).toNat) ?_ ?_
  · exact ⟨0, _, by omega, rfl, ⟨rfl, rfl, rfl, rfl, rfl, rfl⟩, World.ownsRow_nil _ _ _ _, Turn.refl _ _⟩
  rintro ⟨t, _⟩ W ⟨i, v8, hi, hds, ⟨hsz, f1, f3, f7, f8, f9⟩, hO, hE⟩
  subst hds
  obtain ⟨u', hu⟩ := frame_fun hsz
  obtain ⟨u, rfl⟩ : ∃ x, x = u' := ⟨_, rfl⟩
  have hu' : t = #[u 0, u 1, u 2, u 3, u 4, u 5, u 6, u 7, u 8, u 9, u 10, u 11, u 12, u 13, u 14, u 15, u 16, u 17, u 18, u 19, u 20, u 21, u 22, u 23, u 24, u 25, u 26, u 27, u 28, u 29, u 30, u 31, u 32, u 33, u 34, u 35, u 36, u 37, u 38, u 39, u 40, u 41, u 42, u 43, u 44, u 45, u 46, u 47, u 48, u 49, u 50, u 51, u 52, u 53, u 54, u 55, u 56, u 57, u 58, u 59, u 60, u 61, u 62, u 63, u 64, u 65, u 66, u 67, u 68, u 69, u 70, u 71, u 72, u 73, u 74, u 75, u 76, u 77, u 78, u 79, u 80, u 81, u 82, u 83, u 84, u 85, u 86, u 87, u 88, u 89, u 90, u 91, u 92, u 93, u 94, u 95, u 96, u 97, u 98, u 99, u 100, u 101, u 102, u 103, u 104, u 105, u 106, u 107, u 108, u 109, u 110, u 111, u 112, u 113, u 114, u 115, u 116, u 117, u 118, u 119, u 120, u 121, u 122, u 123, u 124, u 125, u 126, u 127, u 128, u 129, u 130, u 131, u 132, u 133, u 134, u 135, u 136, u 137, u 138, u 139, u 140, u 141, u 142, u 143, u 144, u 145, u 146, u 147, u 148, u 149, u 150, u 151, u 152, u 153, u 154, u 155, u 156, u 157, u 158, u 159, u 160, u 161, u 162, u 163, u 164, u 165, u 166, u 167, u 168, u 169, u 170, u 171, u 172, u 173, u 174, u 175, u 176, u 177, u 178, u 179, u 180, u 181, u 182, u 183, u 184, u 185, u 186, u 187, u 188, u 189, u 190, u 191, u 192, u 193, u 194, u 195, u 196, u 197, u 198, u 199, u 200, u 201, u 202, u 203, u 204, u 205, u 206, u 207, u 208, u 209, u 210, u 211, u 212, u 213, u 214, u 215, u 216, u 217, u 218, u 219, u 220, u 221, u 222, u 223, u 224, u 225, u 226] := hu
  clear hu
  subst hu'
  change u 1 = _ at f1
  change u 3 = _ at f3
  change u 7 = _ at f7
  change u 8 = _ at f8
  change u 9 = _ at f9
  rw [f1, f3, f7, f8, f9]
  clear f1 f3 f7 f8 f9 hsz
  have hx := hE.keep HX.out
  have cX := fun j => cell_of_row _ _ j _ _ _ hx
  have HO := Lib.hid hO
  clear hO
  by_cases him : i < m
  · have h1 : (i : Int) < (m : Int) := by omega
    have hwB : B1 ≤ W.heap.size := by have := hE.size; have := HB1.out; omega
    go_wp2_with (at_builtin; refine append_row rfl (.tmp 42) (.tmp 44) 25 rfl B1 27 _ 7 64 Tryd.underlying25 Tryd.infoPat rfl (by decide) _ _ _ rfl (own_ext HO.out ((Turn.refl _ W).alloc (.cells #[.int .i64 p.k, .int .u32 (p.pl : Int), .int .u32 (p.mi : Int), .bool p.nt, .int .i64 p.mn, .int .i64 p.mx, .slice ao p.l.length cap] 27))) ⟨W.heap.size, 0, none⟩ 1 1 [.int .i64 p.k, .int .u32 (p.pl : Int), .int .u32 (p.mi : Int), .bool p.nt, .int .i64 p.mn, .int .i64 p.mx, .slice ao p.l.length cap] rfl rfl (new_cells' rfl) ?c2 ?c3 ?c4 ?c5 ?_)
    case c2 => first | rfl | (intro u hu; simp only [List.mem_cons, List.not_mem_nil, or_false] at hu; rcases hu with rfl | rfl | rfl | rfl | rfl | rfl | rfl <;> rfl)
    case c3 => unfold maxLen; omega
    case c4 => omega
    case c5 => first | omega | (simp; omega)
    intro ao5 c5 w5 hO5 hT5 _
    have hT6 : Turn (fun b' => v8.ownBlock = some b') W w5 := Turn.trans (Turn.alloc (Turn.refl _ W) _) hT5
    have hE5 := hE.after hT6 (fun b' h1 e => by have := (HO.out.lt _ e).1; have := HB1.out; omega)
    have hrp : (List.replicate (i + 1) ([.int .i64 p.k, .int .u32 (p.pl : Int), .int .u32 (p.mi : Int), .bool p.nt, .int .i64 p.mn, .int .i64 p.mx, .slice ao p.l.length cap] : List Value)).flatten = (List.replicate i ([.int .i64 p.k, .int .u32 (p.pl : Int), .int .u32 (p.mi : Int), .bool p.nt, .int .i64 p.mn, .int .i64 p.mx, .slice ao p.l.length cap] : List Value)).flatten ++ [.int .i64 p.k, .int .u32 (p.pl : Int), .int .u32 (p.mi : Int), .bool p.nt, .int .i64 p.mn, .int .i64 p.mx, .slice ao p.l.length cap] := by rw [List.replicate_succ', List.flatten_append]; simp
    rw [← hrp] at hO5
    have HO5 := Lib.hid hO5
    clear hT5 hT6 hO5 hrp hE cX hx
    go_wp2
    exact ⟨⟨i + 1, _, by omega, by first | rfl | trivial, ⟨rfl, rfl, rfl, rfl, rfl, rfl⟩, HO5.out, hE5⟩, by simp [intOf]; omega⟩
  obtain rfl : i = m := by omega
  have h1 : ¬ (i : Int) < (i : Int) := by omega
  replace E := E.trans hE
  obtain ⟨lo', lc', rfl, hL⟩ := own_pats (l := List.replicate i p) HO.out (by simp) (by simp) (fun c hc => by rw [List.eq_of_mem_replicate hc]; rfl) (fun j hj => by
    have hj' : j < i := by simpa using hj
    have := HPT.out W E
    rw [List.getElem_replicate, List.getD_eq_getElem?_getD, List.getElem?_replicate, if_pos hj']
    exact this)
  have HL := Lib.hid hL
  clear hL HO him hi
  go_wp2_with fail
  refine (HRP.out _ E i i).mono ?_
  rintro e w11 ⟨ao1, cap1, rfl, hP, hN⟩
  replace E := E.trans hN
  replace HL := Lib.hid (PatAt.ext HL.out hN)
  clear cX
  replace hx := hN.keep hx
  have cX := fun j => cell_of_row _ _ j _ _ _ hx
  clear hN
  go_wp2_with fail
  refine (HOU.out _ E _ _ hP P1.out).mono ?_
  rintro e w12 ⟨u, rfl, hG, hN⟩
  replace E := E.trans hN
  replace HL := Lib.hid (PatAt.ext HL.out hN)
  clear cX
  replace hx := hN.keep hx
  have cX := fun j => cell_of_row _ _ j _ _ _ hx
  rw [Q1.out] at hG
  obtain ⟨g1, c1, rfl, hGC⟩ := Grid.open hG
  have H1 := Lib.hid hGC
  clear hG hGC
  clear hN
  clear hP
  go_wp2_with fail
  refine (seq_any' lo' i lc' _).mono ?_
  rintro e w13 ⟨rfl, hN⟩
  replace E := E.trans hN
  clear cX
  replace hx := hN.keep hx
  have cX := fun j => cell_of_row _ _ j _ _ _ hx
  replace H1 := Lib.hid (GridC.ext H1.out hN)
  replace HL := Lib.hid (PatAt.ext HL.out hN)
  clear hN
  go_wp2_with fail
  refine (HOU.out _ E _ _ (PatAt.bound HL.out) P2.out).mono ?_
  rintro e w14 ⟨u, rfl, hG, hN⟩
  replace E := E.trans hN
  clear cX
  replace hx := hN.keep hx
  have cX := fun j => cell_of_row _ _ j _ _ _ hx
  replace H1 := Lib.hid (GridC.ext H1.out hN)
  rw [Q2.out] at hG
  obtain ⟨g2, c2, rfl, hGC⟩ := Grid.open hG
  have H2 := Lib.hid hGC
  clear hG hGC
  clear hN
  clear HL
  go_wp2_with fail
  refine (HRP.out _ E i ((i : Int) + 1)).mono ?_
  rintro e w15 ⟨ao1, cap1, rfl, hP, hN⟩
  replace E := E.trans hN
  clear cX
  replace hx := hN.keep hx
  have cX := fun j => cell_of_row _ _ j _ _ _ hx
  replace H1 := Lib.hid (GridC.ext H1.out hN)
  replace H2 := Lib.hid (GridC.ext H2.out hN)
  clear hN
  go_wp2_with fail
  refine (HOU.out _ E _ _ hP P3.out).mono ?_
  rintro e w16 ⟨u, rfl, hG, hN⟩
  replace E := E.trans hN
  clear cX
  replace hx := hN.keep hx
  have cX := fun j => cell_of_row _ _ j _ _ _ hx
  replace H1 := Lib.hid (GridC.ext H1.out hN)
  replace H2 := Lib.hid (GridC.ext H2.out hN)
  rw [Q3.out] at hG
  obtain ⟨g3, c3, rfl, hGC⟩ := Grid.open hG
  have H3 := Lib.hid hGC
  clear hG hGC
  clear hN
  clear hP
  go_wp2
  have hcs : ∀ (D : World), Ext w16 D → D.cell? ⟨B, 0, none⟩ = some (.int .i64 p.k) ∧ D.cell? ⟨B, 1, none⟩ = some (.int .u32 (p.pl : Int)) ∧ D.cell? ⟨B, 2, none⟩ = some (.int .u32 (p.mi : Int)) ∧ D.cell? ⟨B, 3, none⟩ = some (.bool p.nt) ∧ D.cell? ⟨B, 4, none⟩ = some (.int .i64 p.mn) ∧ D.cell? ⟨B, 5, none⟩ = some (.int .i64 p.mx) ∧ D.cell? ⟨B, 6, none⟩ = some (.slice ao p.l.length cap) := by
    intro D hD
    have h0 := hD.keep hx
    simp [World.cell?, h0]
  have HS := Lib.hid hcs
  clear hcs cX
  refine wp_region_held_drew (S := (fun D => D.cell? ⟨B, 0, none⟩ = some (.int .i64 p.k) ∧ D.cell? ⟨B, 1, none⟩ = some (.int .u32 (p.pl : Int)) ∧ D.cell? ⟨B, 2, none⟩ = some (.int .u32 (p.mi : Int)) ∧ D.cell? ⟨B, 3, none⟩ = some (.bool p.nt) ∧ D.cell? ⟨B, 4, none⟩ = some (.int .i64 p.mn) ∧ D.cell? ⟨B, 5, none⟩ = some (.int .i64 p.mx) ∧ D.cell? ⟨B, 6, none⟩ = some (.slice ao p.l.length cap))) (by kernel_rfl) (HS.out _ (Turn.drew (Turn.refl _ w16))) ?_
  intro hS0
  refine wpAnyH_take (i := 0) (v := ?_) rfl (by kernel_rfl) (by kernel_rfl) (by kernel_rfl) (fun _ _ _ h => h) (Or.inl ⟨by rfl, ?_⟩) (hS0) ?_
  rotate_left
  · intro w hSw; (try dsimp only at hSw); go_simp; try with_reducible rfl
  change wpAnyH _ _ _ _ _ _ _ (Act.put _ (some 73) _) _
  try simp only [Act.put, List.setIfInBounds_toArray, List.set_cons_zero, List.set_cons_succ]
  refine wpAnyH_take (i := 1) (v := ?_) rfl (by kernel_rfl) (by kernel_rfl) (by kernel_rfl) (fun _ _ _ h => h) (Or.inl ⟨by rfl, ?_⟩) (hS0) ?_
  rotate_left
  · intro w hSw; (try dsimp only at hSw); go_simp; try with_reducible rfl
  change wpAnyH _ _ _ _ _ _ _ (Act.put _ (some 74) _) _
  try simp only [Act.put, List.setIfInBounds_toArray, List.set_cons_zero, List.set_cons_succ]
  refine wpAnyH_take (i := 2) (v := ?_) rfl (by kernel_rfl) (by kernel_rfl) (by kernel_rfl) (fun _ _ _ h => h) (Or.inl ⟨by rfl, ?_⟩) (hS0) ?_
  rotate_left
  · intro w hSw; (try dsimp only at hSw); go_simp; try with_reducible rfl
  change wpAnyH _ _ _ _ _ _ _ (Act.put _ (some 75) _) _
  try simp only [Act.put, List.setIfInBounds_toArray, List.set_cons_zero, List.set_cons_succ]
  refine wpAnyH_take (i := 4) (v := ?_) rfl (by kernel_rfl) (by kernel_rfl) (by kernel_rfl) (fun _ _ _ h => h) (Or.inl ⟨by rfl, ?_⟩) (hS0) ?_
  rotate_left
  · intro w hSw; (try dsimp only at hSw); go_simp; try with_reducible rfl
  change wpAnyH _ _ _ _ _ _ _ (Act.put _ (some 77) _) _
  try simp only [Act.put, List.setIfInBounds_toArray, List.set_cons_zero, List.set_cons_succ]
  refine wpAnyH_take (i := 8) (v := ?_) rfl (by kernel_rfl) (by kernel_rfl) (by kernel_rfl) (fun _ _ _ h => h) (Or.inl ⟨by rfl, ?_⟩) (hS0) ?_
  rotate_left
  · intro w hSw; (try dsimp only at hSw); go_simp; try with_reducible rfl
  change wpAnyH _ _ _ _ _ _ _ (Act.put _ (some 81) _) _
  try simp only [Act.put, List.setIfInBounds_toArray, List.set_cons_zero, List.set_cons_succ]
  refine wpAnyH_ready (rs := [3]) (by kernel_rfl) (by simp) ?_
  refine AllReadyH.cons rfl (fun K hK => ?_) AllReadyH.nil
  (try rw [if_pos (show Region.wanted _ _ = true from rfl)])
  go_simp
  refine (HRP.out _ (E.trans (Turn.drew (Turn.refl _ w16))) i i).mono ?_
  rintro e V1 ⟨ao1, cap1, rfl, hP1, hN⟩
  have hV1 : Ext w16 V1 := Turn.trans (Turn.drew (Turn.refl _ w16)) hN
  clear hN
  refine hK.out _ _ (HS.out _ hV1) (fun hS1 => ?_)
  clear hK K
  refine wpAnyH_ready (rs := [5]) (by kernel_rfl) (by simp) ?_
  refine AllReadyH.cons rfl (fun K hK => ?_) AllReadyH.nil
  (try rw [if_pos (show Region.wanted _ _ = true from rfl)])
  go_simp
  refine (HRP.out _ (E.trans hV1) 0 1).mono ?_
  rintro e V2 ⟨ao2, cap2, rfl, hP2, hN⟩
  have hV2 : Ext w16 V2 := Turn.trans hV1 hN
  replace hP1 := hP1.ext hN
  clear hN
  refine hK.out _ _ (HS.out _ hV2) (fun hS2 => ?_)
  clear hK K
  refine wpAnyH_ready (rs := [6]) (by kernel_rfl) (by simp) ?_
  refine AllReadyH.cons rfl (fun K hK => ?_) AllReadyH.nil
  (try rw [if_pos (show Region.wanted _ _ = true from rfl)])
  go_simp
  have hb : (V2.alloc (.cells #[.int .i64 5, .int .u32 0, .int .u32 0, .bool false, .int .i64 i, .int .i64 i, .slice ao1 1 cap1, .int .i64 5, .int .u32 0, .int .u32 0, .bool false, .int .i64 0, .int .i64 1, .slice ao2 1 cap2] 27)).heap[V2.heap.size]? = some (.cells #[.int .i64 5, .int .u32 0, .int .u32 0, .bool false, .int .i64 i, .int .i64 i, .slice ao1 1 cap1, .int .i64 5, .int .u32 0, .int .u32 0, .bool false, .int .i64 0, .int .i64 1, .slice ao2 1 cap2] 27 (0, 0)) := new_at rfl
  have hN : Ext V2 (V2.alloc (.cells #[.int .i64 5, .int .u32 0, .int .u32 0, .bool false, .int .i64 i, .int .i64 i, .slice ao1 1 cap1, .int .i64 5, .int .u32 0, .int .u32 0, .bool false, .int .i64 0, .int .i64 1, .slice ao2 1 cap2] 27)) := (Turn.refl _ _).alloc _
  have hV3 := Turn.trans hV2 hN
  replace hP1 := hP1.ext hN
  replace hP2 := hP2.ext hN
  clear hN
  generalize V2.alloc (.cells #[.int .i64 5, .int .u32 0, .int .u32 0, .bool false, .int .i64 i, .int .i64 i, .slice ao1 1 cap1, .int .i64 5, .int .u32 0, .int .u32 0, .bool false, .int .i64 0, .int .i64 1, .slice ao2 1 cap2] 27) = V3 at hb hV3 hP1 hP2 ⊢
  generalize V2.heap.size = gb at hb ⊢
  refine hK.out _ _ (HS.out _ hV3) (fun hS3 => ?_)
  clear hK K
  refine wpAnyH_ready (rs := [7]) (by kernel_rfl) (by simp) ?_
  refine AllReadyH.cons rfl (fun K hK => ?_) AllReadyH.nil
  (try rw [if_pos (show Region.wanted _ _ = true from rfl)])
  go_simp
  refine (seq_any' (some ⟨gb, 0, none⟩) 2 2 _).mono ?_
  rintro e V4 ⟨rfl, hN⟩
  have hV4 := Turn.trans hV3 hN
  replace hP1 := hP1.ext hN
  replace hP2 := hP2.ext hN
  replace hb := hN.keep hb
  clear hN
  refine hK.out _ _ (HS.out _ hV4) (fun hS4 => ?_)
  clear hK K
  refine wpAnyH_ready (rs := [9]) (by kernel_rfl) (by simp) ?_
  refine AllReadyH.cons rfl (fun K hK => ?_) AllReadyH.nil
  (try rw [if_pos (show Region.wanted _ _ = true from rfl)])
  go_simp
  have hpat : PatAt (fun g => g < V4.heap.size) V4 (.node 3 0 0 false 0 0 [.node 5 0 0 false i i [p], .node 5 0 0 false 0 1 [p]]) (patCells 3 0 0 false 0 0 (some ⟨gb, 0, none⟩) 2 2) := by
    unfold PatAt
    refine ⟨_, _, rfl, by decide, by decide, by simp, by decide, PatsAt.block (css := [[.int .i64 5, .int .u32 0, .int .u32 0, .bool false, .int .i64 i, .int .i64 i, .slice ao1 1 cap1], [.int .i64 5, .int .u32 0, .int .u32 0, .bool false, .int .i64 0, .int .i64 1, .slice ao2 1 cap2]]) hb rfl (by simp) ?_ (Array.getElem?_eq_some_iff.1 hb).1⟩
    intro j hj
    match j, hj with
    | 0, _ => exact PatAt.bound hP1
    | 1, _ => exact PatAt.bound hP2
  refine (HOU.out _ (E.trans hV4) _ _ hpat P4.out).mono ?_
  rintro e V5 ⟨u, rfl, hG, hN⟩
  have hV5 := Turn.trans hV4 hN
  clear hN hpat
  rw [Q4.out] at hG
  obtain ⟨g4, c4, rfl, hGC⟩ := Grid.open hG
  clear hG
  refine hK.out _ _ (HS.out _ hV5) (fun hS5 => ?_)
  clear hK K
  refine wpAnyH_take (i := 10) (v := ?_) rfl (by kernel_rfl) (by kernel_rfl) (by kernel_rfl) (fun _ _ _ h => h) (Or.inl ⟨by rfl, ?_⟩) (hS5) ?_
  rotate_left
  · intro w hSw; (try dsimp only at hSw); go_simp; try with_reducible rfl
  change wpAnyH _ _ _ _ _ _ _ (Act.put _ (some 72) _) _
  try simp only [Act.put, List.setIfInBounds_toArray, List.set_cons_zero, List.set_cons_succ]
  refine wpAnyH_take (i := 11) (v := ?_) rfl (by kernel_rfl) (by kernel_rfl) (by kernel_rfl) (fun _ _ _ h => h) (Or.inl ⟨by rfl, ?_⟩) (hS5) ?_
  rotate_left
  · intro w hSw; (try dsimp only at hSw); go_simp; try with_reducible rfl
  change wpAnyH _ _ _ _ _ _ _ (Act.put _ (some 83) _) _
  try simp only [Act.put, List.setIfInBounds_toArray, List.set_cons_zero, List.set_cons_succ]
  refine wpAnyH_take (i := 12) (v := ?_) rfl (by kernel_rfl) (by kernel_rfl) (by kernel_rfl) (fun _ _ _ h => h) (Or.inl ⟨by rfl, ?_⟩) (hS5) ?_
  rotate_left
  · intro w hSw; (try dsimp only at hSw); go_simp; try with_reducible rfl
  change wpAnyH _ _ _ _ _ _ _ (Act.put _ (some 84) _) _
  try simp only [Act.put, List.setIfInBounds_toArray, List.set_cons_zero, List.set_cons_succ]
  refine wpAnyH_take (i := 13) (v := ?_) rfl (by kernel_rfl) (by kernel_rfl) (by kernel_rfl) (fun _ _ _ h => h) (Or.inl ⟨by rfl, ?_⟩) (hS5) ?_
  rotate_left
  · intro w hSw; (try dsimp only at hSw); go_simp; try with_reducible rfl
  change wpAnyH _ _ _ _ _ _ _ (Act.put _ (some 16) _) _
  try simp only [Act.put, List.setIfInBounds_toArray, List.set_cons_zero, List.set_cons_succ]
  refine wpAnyH_take (i := 14) (v := ?_) rfl (by kernel_rfl) (by kernel_rfl) (by kernel_rfl) (fun _ _ _ h => h) (Or.inl ⟨by rfl, ?_⟩) (hS5) ?_
  rotate_left
  · intro w hSw; (try dsimp only at hSw); go_simp; try with_reducible rfl
  change wpAnyH _ _ _ _ _ _ _ (Act.put _ (some 17) _) _
  try simp only [Act.put, List.setIfInBounds_toArray, List.set_cons_zero, List.set_cons_succ]
  refine wpAnyH_done (by kernel_rfl) ?_ _
  replace E := Turn.trans E hV5
  replace hx := Turn.heap hV5 hx id
  have cX := fun j => cell_of_row _ _ j _ _ _ hx
  replace H1 := Lib.hid (GridC.ext H1.out hV5)
  replace H2 := Lib.hid (GridC.ext H2.out hV5)
  replace H3 := Lib.hid (GridC.ext H3.out hV5)
  have H4 := Lib.hid hGC
  clear hGC hS0 hS1 hS2 hS3 hS4 hS5 hV1 hV2 hV3 hV4 hV5 hP1 hP2 hb HS
  go_wp2_with fail
  refine (HRP.out _ E i (-1)).mono ?_
  rintro e w18 ⟨ao1, cap1, rfl, hP, hN⟩
  replace E := E.trans hN
  clear cX
  replace hx := hN.keep hx
  have cX := fun j => cell_of_row _ _ j _ _ _ hx
  replace H1 := Lib.hid (GridC.ext H1.out hN)
  replace H2 := Lib.hid (GridC.ext H2.out hN)
  replace H3 := Lib.hid (GridC.ext H3.out hN)
  replace H4 := Lib.hid (GridC.ext H4.out hN)
  clear hN
  go_wp2_with fail
  refine (HOU.out _ E _ _ hP P5.out).mono ?_
  rintro e w19 ⟨u, rfl, hG, hN⟩
  replace E := E.trans hN
  clear cX
  replace hx := hN.keep hx
  have cX := fun j => cell_of_row _ _ j _ _ _ hx
  replace H1 := Lib.hid (GridC.ext H1.out hN)
  replace H2 := Lib.hid (GridC.ext H2.out hN)
  replace H3 := Lib.hid (GridC.ext H3.out hN)
  replace H4 := Lib.hid (GridC.ext H4.out hN)
  rw [Q5.out] at hG
  obtain ⟨g5, c5, rfl, hGC⟩ := Grid.open hG
  have H5 := Lib.hid hGC
  clear hG hGC
  clear hN
  clear hP
  go_wp2
  have hcs : ∀ (D : World), Ext w19 D → D.cell? ⟨B, 0, none⟩ = some (.int .i64 p.k) ∧ D.cell? ⟨B, 1, none⟩ = some (.int .u32 (p.pl : Int)) ∧ D.cell? ⟨B, 2, none⟩ = some (.int .u32 (p.mi : Int)) ∧ D.cell? ⟨B, 3, none⟩ = some (.bool p.nt) ∧ D.cell? ⟨B, 4, none⟩ = some (.int .i64 p.mn) ∧ D.cell? ⟨B, 5, none⟩ = some (.int .i64 p.mx) ∧ D.cell? ⟨B, 6, none⟩ = some (.slice ao p.l.length cap) := by
    intro D hD
    have h0 := hD.keep hx
    simp [World.cell?, h0]
  have HS := Lib.hid hcs
  clear hcs cX
  refine wp_region_held_drew (S := (fun D => D.cell? ⟨B, 0, none⟩ = some (.int .i64 p.k) ∧ D.cell? ⟨B, 1, none⟩ = some (.int .u32 (p.pl : Int)) ∧ D.cell? ⟨B, 2, none⟩ = some (.int .u32 (p.mi : Int)) ∧ D.cell? ⟨B, 3, none⟩ = some (.bool p.nt) ∧ D.cell? ⟨B, 4, none⟩ = some (.int .i64 p.mn) ∧ D.cell? ⟨B, 5, none⟩ = some (.int .i64 p.mx) ∧ D.cell? ⟨B, 6, none⟩ = some (.slice ao p.l.length cap))) (by kernel_rfl) (HS.out _ (Turn.drew (Turn.refl _ w19))) ?_
  intro hS0
  refine wpAnyH_take (i := 0) (v := ?_) rfl (by kernel_rfl) (by kernel_rfl) (by kernel_rfl) (fun _ _ _ h => h) (Or.inl ⟨by rfl, ?_⟩) (hS0) ?_
  rotate_left
  · intro w hSw; (try dsimp only at hSw); go_simp; try with_reducible rfl
  change wpAnyH _ _ _ _ _ _ _ (Act.put _ (some 94) _) _
  try simp only [Act.put, List.setIfInBounds_toArray, List.set_cons_zero, List.set_cons_succ]
  refine wpAnyH_take (i := 1) (v := ?_) rfl (by kernel_rfl) (by kernel_rfl) (by kernel_rfl) (fun _ _ _ h => h) (Or.inl ⟨by rfl, ?_⟩) (hS0) ?_
  rotate_left
  · intro w hSw; (try dsimp only at hSw); go_simp; try with_reducible rfl
  change wpAnyH _ _ _ _ _ _ _ (Act.put _ (some 95) _) _
  try simp only [Act.put, List.setIfInBounds_toArray, List.set_cons_zero, List.set_cons_succ]
  refine wpAnyH_take (i := 3) (v := ?_) rfl (by kernel_rfl) (by kernel_rfl) (by kernel_rfl) (fun _ _ _ h => h) (Or.inl ⟨by rfl, ?_⟩) (hS0) ?_
  rotate_left
  · intro w hSw; (try dsimp only at hSw); go_simp; try with_reducible rfl
  change wpAnyH _ _ _ _ _ _ _ (Act.put _ (some 97) _) _
  try simp only [Act.put, List.setIfInBounds_toArray, List.set_cons_zero, List.set_cons_succ]
  refine wpAnyH_take (i := 7) (v := ?_) rfl (by kernel_rfl) (by kernel_rfl) (by kernel_rfl) (fun _ _ _ h => h) (Or.inl ⟨by rfl, ?_⟩) (hS0) ?_
  rotate_left
  · intro w hSw; (try dsimp only at hSw); go_simp; try with_reducible rfl
  change wpAnyH _ _ _ _ _ _ _ (Act.put _ (some 101) _) _
  try simp only [Act.put, List.setIfInBounds_toArray, List.set_cons_zero, List.set_cons_succ]
  refine wpAnyH_ready (rs := [2]) (by kernel_rfl) (by simp) ?_
  refine AllReadyH.cons rfl (fun K hK => ?_) AllReadyH.nil
  (try rw [if_pos (show Region.wanted _ _ = true from rfl)])
  go_simp
  refine (HRP.out _ (E.trans (Turn.drew (Turn.refl _ w19))) i (-1)).mono ?_
  rintro e V1 ⟨ao1, cap1, rfl, hP1, hN⟩
  have hV1 : Ext w19 V1 := Turn.trans (Turn.drew (Turn.refl _ w19)) hN
  clear hN
  refine hK.out _ _ (HS.out _ hV1) (fun hS1 => ?_)
  clear hK K
  refine wpAnyH_ready (rs := [4]) (by kernel_rfl) (by simp) ?_
  refine AllReadyH.cons rfl (fun K hK => ?_) AllReadyH.nil
  (try rw [if_pos (show Region.wanted _ _ = true from rfl)])
  go_simp
  refine (HRP.out _ (E.trans hV1) 0 (-1)).mono ?_
  rintro e V2 ⟨ao2, cap2, rfl, hP2, hN⟩
  have hV2 : Ext w19 V2 := Turn.trans hV1 hN
  replace hP1 := hP1.ext hN
  clear hN
  refine hK.out _ _ (HS.out _ hV2) (fun hS2 => ?_)
  clear hK K
  refine wpAnyH_ready (rs := [5]) (by kernel_rfl) (by simp) ?_
  refine AllReadyH.cons rfl (fun K hK => ?_) AllReadyH.nil
  (try rw [if_pos (show Region.wanted _ _ = true from rfl)])
  go_simp
  have hb : (V2.alloc (.cells #[.int .i64 5, .int .u32 0, .int .u32 0, .bool false, .int .i64 i, .int .i64 (-1), .slice ao1 1 cap1, .int .i64 5, .int .u32 0, .int .u32 0, .bool false, .int .i64 0, .int .i64 (-1), .slice ao2 1 cap2] 27)).heap[V2.heap.size]? = some (.cells #[.int .i64 5, .int .u32 0, .int .u32 0, .bool false, .int .i64 i, .int .i64 (-1), .slice ao1 1 cap1, .int .i64 5, .int .u32 0, .int .u32 0, .bool false, .int .i64 0, .int .i64 (-1), .slice ao2 1 cap2] 27 (0, 0)) := new_at rfl
  have hN : Ext V2 (V2.alloc (.cells #[.int .i64 5, .int .u32 0, .int .u32 0, .bool false, .int .i64 i, .int .i64 (-1), .slice ao1 1 cap1, .int .i64 5, .int .u32 0, .int .u32 0, .bool false, .int .i64 0, .int .i64 (-1), .slice ao2 1 cap2] 27)) := (Turn.refl _ _).alloc _
  have hV3 := Turn.trans hV2 hN
  replace hP1 := hP1.ext hN
  replace hP2 := hP2.ext hN
  clear hN
  generalize V2.alloc (.cells #[.int .i64 5, .int .u32 0, .int .u32 0, .bool false, .int .i64 i, .int .i64 (-1), .slice ao1 1 cap1, .int .i64 5, .int .u32 0, .int .u32 0, .bool false, .int .i64 0, .int .i64 (-1), .slice ao2 1 cap2] 27) = V3 at hb hV3 hP1 hP2 ⊢
  generalize V2.heap.size = gb at hb ⊢
  refine hK.out _ _ (HS.out _ hV3) (fun hS3 => ?_)
  clear hK K
  refine wpAnyH_ready (rs := [6]) (by kernel_rfl) (by simp) ?_
  refine AllReadyH.cons rfl (fun K hK => ?_) AllReadyH.nil
  (try rw [if_pos (show Region.wanted _ _ = true from rfl)])
  go_simp
  refine (seq_any' (some ⟨gb, 0, none⟩) 2 2 _).mono ?_
  rintro e V4 ⟨rfl, hN⟩
  have hV4 := Turn.trans hV3 hN
  replace hP1 := hP1.ext hN
  replace hP2 := hP2.ext hN
  replace hb := hN.keep hb
  clear hN
  refine hK.out _ _ (HS.out _ hV4) (fun hS4 => ?_)
  clear hK K
  refine wpAnyH_ready (rs := [8]) (by kernel_rfl) (by simp) ?_
  refine AllReadyH.cons rfl (fun K hK => ?_) AllReadyH.nil
  (try rw [if_pos (show Region.wanted _ _ = true from rfl)])
  go_simp
  have hpat : PatAt (fun g => g < V4.heap.size) V4 (.node 3 0 0 false 0 0 [.node 5 0 0 false i (-1) [p], .node 5 0 0 false 0 (-1) [p]]) (patCells 3 0 0 false 0 0 (some ⟨gb, 0, none⟩) 2 2) := by
    unfold PatAt
    refine ⟨_, _, rfl, by decide, by decide, by simp, by decide, PatsAt.block (css := [[.int .i64 5, .int .u32 0, .int .u32 0, .bool false, .int .i64 i, .int .i64 (-1), .slice ao1 1 cap1], [.int .i64 5, .int .u32 0, .int .u32 0, .bool false, .int .i64 0, .int .i64 (-1), .slice ao2 1 cap2]]) hb rfl (by simp) ?_ (Array.getElem?_eq_some_iff.1 hb).1⟩
    intro j hj
    match j, hj with
    | 0, _ => exact PatAt.bound hP1
    | 1, _ => exact PatAt.bound hP2
  refine (HOU.out _ (E.trans hV4) _ _ hpat P6.out).mono ?_
  rintro e V5 ⟨u, rfl, hG, hN⟩
  have hV5 := Turn.trans hV4 hN
  clear hN hpat
  rw [Q6.out] at hG
  obtain ⟨g6, c6, rfl, hGC⟩ := Grid.open hG
  clear hG
  refine hK.out _ _ (HS.out _ hV5) (fun hS5 => ?_)
  clear hK K
  refine wpAnyH_take (i := 9) (v := ?_) rfl (by kernel_rfl) (by kernel_rfl) (by kernel_rfl) (fun _ _ _ h => h) (Or.inl ⟨by rfl, ?_⟩) (hS5) ?_
  rotate_left
  · intro w hSw; (try dsimp only at hSw); go_simp; try with_reducible rfl
  change wpAnyH _ _ _ _ _ _ _ (Act.put _ (some 93) _) _
  try simp only [Act.put, List.setIfInBounds_toArray, List.set_cons_zero, List.set_cons_succ]
  refine wpAnyH_take (i := 10) (v := ?_) rfl (by kernel_rfl) (by kernel_rfl) (by kernel_rfl) (fun _ _ _ h => h) (Or.inl ⟨by rfl, ?_⟩) (hS5) ?_
  rotate_left
  · intro w hSw; (try dsimp only at hSw); go_simp; try with_reducible rfl
  change wpAnyH _ _ _ _ _ _ _ (Act.put _ (some 103) _) _
  try simp only [Act.put, List.setIfInBounds_toArray, List.set_cons_zero, List.set_cons_succ]
  refine wpAnyH_take (i := 11) (v := ?_) rfl (by kernel_rfl) (by kernel_rfl) (by kernel_rfl) (fun _ _ _ h => h) (Or.inl ⟨by rfl, ?_⟩) (hS5) ?_
  rotate_left
  · intro w hSw; (try dsimp only at hSw); go_simp; try with_reducible rfl
  change wpAnyH _ _ _ _ _ _ _ (Act.put _ (some 104) _) _
  try simp only [Act.put, List.setIfInBounds_toArray, List.set_cons_zero, List.set_cons_succ]
  refine wpAnyH_take (i := 12) (v := ?_) rfl (by kernel_rfl) (by kernel_rfl) (by kernel_rfl) (fun _ _ _ h => h) (Or.inl ⟨by rfl, ?_⟩) (hS5) ?_
  rotate_left
  · intro w hSw; (try dsimp only at hSw); go_simp; try with_reducible rfl
  change wpAnyH _ _ _ _ _ _ _ (Act.put _ (some 20) _) _
  try simp only [Act.put, List.setIfInBounds_toArray, List.set_cons_zero, List.set_cons_succ]
  refine wpAnyH_take (i := 13) (v := ?_) rfl (by kernel_rfl) (by kernel_rfl) (by kernel_rfl) (fun _ _ _ h => h) (Or.inl ⟨by rfl, ?_⟩) (hS5) ?_
  rotate_left
  · intro w hSw; (try dsimp only at hSw); go_simp; try with_reducible rfl
  change wpAnyH _ _ _ _ _ _ _ (Act.put _ (some 21) _) _
  try simp only [Act.put, List.setIfInBounds_toArray, List.set_cons_zero, List.set_cons_succ]
  refine wpAnyH_done (by kernel_rfl) ?_ _
  replace E := Turn.trans E hV5
  replace hx := Turn.heap hV5 hx id
  have cX := fun j => cell_of_row _ _ j _ _ _ hx
  replace H1 := Lib.hid (GridC.ext H1.out hV5)
  replace H2 := Lib.hid (GridC.ext H2.out hV5)
  replace H3 := Lib.hid (GridC.ext H3.out hV5)
  replace H4 := Lib.hid (GridC.ext H4.out hV5)
  replace H5 := Lib.hid (GridC.ext H5.out hV5)
  have H6 := Lib.hid hGC
  clear hGC hS0 hS1 hS2 hS3 hS4 hS5 hV1 hV2 hV3 hV4 hV5 hP1 hP2 hb HS
  clear cX hx
  obtain ⟨w0, hw0⟩ : ∃ W0, W0 = V5 := ⟨_, rfl⟩
  subst hw0
  go_wp2
  refine wp_loop (fun a W => ∃ (x : Nat), x ≤ n + 1 ∧ a.defers = [] ∧ (a.tmps.size = 227 ∧ a.tmps.getD 1 undef = .slice bo n bcap ∧ a.tmps.getD 10 undef = .slice (some ⟨g1, 0, none⟩) (n + 1) c1 ∧ a.tmps.getD 12 undef = .slice (some ⟨g2, 0, none⟩) (n + 1) c2 ∧ a.tmps.getD 14 undef = .slice (some ⟨g3, 0, none⟩) (n + 1) c3 ∧ a.tmps.getD 16 undef = .slice (some ⟨g4, 0, none⟩) (n + 1) c4 ∧ a.tmps.getD 18 undef = .slice (some ⟨g5, 0, none⟩) (n + 1) c5 ∧ a.tmps.getD 20 undef = .slice (some ⟨g6, 0, none⟩) (n + 1) c6 ∧ a.tmps.getD 22 undef = .int .i64 x) ∧ Ext w0 W)
    (fun a _ => n + 1 - (intOf (a.tmps.getD 22 undef)).toNat) ?_ ?_
  · exact ⟨0, by omega, rfl, ⟨rfl, rfl, rfl, rfl, rfl, rfl, rfl, rfl, rfl⟩, Turn.refl _ _⟩
  rintro ⟨t, _⟩ W ⟨x, hx, hds, ⟨hsz, f1, f10, f12, f14, f16, f18, f20, f22⟩, hE⟩
  subst hds
  obtain ⟨u', hu⟩ := frame_fun hsz
  obtain ⟨u, rfl⟩ : ∃ x, x = u' := ⟨_, rfl⟩
  have hu' : t = #[u 0, u 1, u 2, u 3, u 4, u 5, u 6, u 7, u 8, u 9, u 10, u 11, u 12, u 13, u 14, u 15, u 16, u 17, u 18, u 19, u 20, u 21, u 22, u 23, u 24, u 25, u 26, u 27, u 28, u 29, u 30, u 31, u 32, u 33, u 34, u 35, u 36, u 37, u 38, u 39, u 40, u 41, u 42, u 43, u 44, u 45, u 46, u 47, u 48, u 49, u 50, u 51, u 52, u 53, u 54, u 55, u 56, u 57, u 58, u 59, u 60, u 61, u 62, u 63, u 64, u 65, u 66, u 67, u 68, u 69, u 70, u 71, u 72, u 73, u 74, u 75, u 76, u 77, u 78, u 79, u 80, u 81, u 82, u 83, u 84, u 85, u 86, u 87, u 88, u 89, u 90, u 91, u 92, u 93, u 94, u 95, u 96, u 97, u 98, u 99, u 100, u 101, u 102, u 103, u 104, u 105, u 106, u 107, u 108, u 109, u 110, u 111, u 112, u 113, u 114, u 115, u 116, u 117, u 118, u 119, u 120, u 121, u 122, u 123, u 124, u 125, u 126, u 127, u 128, u 129, u 130, u 131, u 132, u 133, u 134, u 135, u 136, u 137, u 138, u 139, u 140, u 141, u 142, u 143, u 144, u 145, u 146, u 147, u 148, u 149, u 150, u 151, u 152, u 153, u 154, u 155, u 156, u 157, u 158, u 159, u 160, u 161, u 162, u 163, u 164, u 165, u 166, u 167, u 168, u 169, u 170, u 171, u 172, u 173, u 174, u 175, u 176, u 177, u 178, u 179, u 180, u 181, u 182, u 183, u 184, u 185, u 186, u 187, u 188, u 189, u 190, u 191, u 192, u 193, u 194, u 195, u 196, u 197, u 198, u 199, u 200, u 201, u 202, u 203, u 204, u 205, u 206, u 207, u 208, u 209, u 210, u 211, u 212, u 213, u 214, u 215, u 216, u 217, u 218, u 219, u 220, u 221, u 222, u 223, u 224, u 225, u 226] := hu
  clear hu
  subst hu'
  change u 1 = _ at f1
  change u 10 = _ at f10
  change u 12 = _ at f12
  change u 14 = _ at f14
  change u 16 = _ at f16
  change u 18 = _ at f18
  change u 20 = _ at f20
  change u 22 = _ at f22
  rw [f1, f10, f12, f14, f16, f18, f20, f22]
  clear f1 f10 f12 f14 f16 f18 f20 f22 hsz
  by_cases hxn : x < n + 1
  · have h1 : (x : Int) ≤ (n : Int) := by omega
    have h1' : (x : Int) < (n : Int) + 1 := by omega
    go_wp2
    refine wp_loop (fun a V => TimesI w0 n x bo bcap g1 g2 g3 g4 g5 g6 c1 c2 c3 c4 c5 c6 a V) (fun a _ => TimesM n a) ?_ ?_
    · exact ⟨0, by omega, rfl, ⟨rfl, rfl, rfl, rfl, rfl, rfl, rfl, rfl, rfl, rfl⟩, hE⟩
    clear hE
    intro aa V hI
    obtain ⟨y, hy, hds, ⟨hsz, f1, f10, f12, f14, f16, f18, f20, f22, f23⟩, hE⟩ := hI
    obtain ⟨t, _⟩ := aa
    subst hds
    obtain ⟨u', hu⟩ := frame_fun hsz
    obtain ⟨u, rfl⟩ : ∃ x, x = u' := ⟨_, rfl⟩
    have hu' : t = #[u 0, u 1, u 2, u 3, u 4, u 5, u 6, u 7, u 8, u 9, u 10, u 11, u 12, u 13, u 14, u 15, u 16, u 17, u 18, u 19, u 20, u 21, u 22, u 23, u 24, u 25, u 26, u 27, u 28, u 29, u 30, u 31, u 32, u 33, u 34, u 35, u 36, u 37, u 38, u 39, u 40, u 41, u 42, u 43, u 44, u 45, u 46, u 47, u 48, u 49, u 50, u 51, u 52, u 53, u 54, u 55, u 56, u 57, u 58, u 59, u 60, u 61, u 62, u 63, u 64, u 65, u 66, u 67, u 68, u 69, u 70, u 71, u 72, u 73, u 74, u 75, u 76, u 77, u 78, u 79, u 80, u 81, u 82, u 83, u 84, u 85, u 86, u 87, u 88, u 89, u 90, u 91, u 92, u 93, u 94, u 95, u 96, u 97, u 98, u 99, u 100, u 101, u 102, u 103, u 104, u 105, u 106, u 107, u 108, u 109, u 110, u 111, u 112, u 113, u 114, u 115, u 116, u 117, u 118, u 119, u 120, u 121, u 122, u 123, u 124, u 125, u 126, u 127, u 128, u 129, u 130, u 131, u 132, u 133, u 134, u 135, u 136, u 137, u 138, u 139, u 140, u 141, u 142, u 143, u 144, u 145, u 146, u 147, u 148, u 149, u 150, u 151, u 152, u 153, u 154, u 155, u 156, u 157, u 158, u 159, u 160, u 161, u 162, u 163, u 164, u 165, u 166, u 167, u 168, u 169, u 170, u 171, u 172, u 173, u 174, u 175, u 176, u 177, u 178, u 179, u 180, u 181, u 182, u 183, u 184, u 185, u 186, u 187, u 188, u 189, u 190, u 191, u 192, u 193, u 194, u 195, u 196, u 197, u 198, u 199, u 200, u 201, u 202, u 203, u 204, u 205, u 206, u 207, u 208, u 209, u 210, u 211, u 212, u 213, u 214, u 215, u 216, u 217, u 218, u 219, u 220, u 221, u 222, u 223, u 224, u 225, u 226] := hu
    clear hu
    subst hu'
    change u 1 = _ at f1
    change u 10 = _ at f10
    change u 12 = _ at f12
    change u 14 = _ at f14
    change u 16 = _ at f16
    change u 18 = _ at f18
    change u 20 = _ at f20
    change u 22 = _ at f22
    change u 23 = _ at f23
    rw [f1, f10, f12, f14, f16, f18, f20, f22, f23]
    clear f1 f10 f12 f14 f16 f18 f20 f22 f23 hsz
    by_cases hyn : y < n + 1
    · have h2 : (y : Int) ≤ (n : Int) := by omega
      have h2' : (y : Int) < (n : Int) + 1 := by omega
      have hle := HLE.out x y
      obtain ⟨a1, b1, d1, dd1⟩ := (GridC.ext H1.out hE) x hxn
      have e1 := dd1 y hyn
      clear dd1
      obtain ⟨a2, b2, d2, dd2⟩ := (GridC.ext H2.out hE) x hxn
      have e2 := dd2 y hyn
      clear dd2
      obtain ⟨a3, b3, d3, dd3⟩ := (GridC.ext H3.out hE) x hxn
      have e3 := dd3 y hyn
      clear dd3
      obtain ⟨a4, b4, d4, dd4⟩ := (GridC.ext H4.out hE) x hxn
      have e4 := dd4 y hyn
      clear dd4
      obtain ⟨a5, b5, d5, dd5⟩ := (GridC.ext H5.out hE) x hxn
      have e5 := dd5 y hyn
      clear dd5
      obtain ⟨a6, b6, d6, dd6⟩ := (GridC.ext H6.out hE) x hxn
      have e6 := dd6 y hyn
      clear dd6
      obtain ⟨r1, hr1⟩ : ∃ r, R1 x y = r := ⟨_, rfl⟩
      obtain ⟨r3, hr3⟩ : ∃ r, R3 x y = r := ⟨_, rfl⟩
      obtain ⟨r5, hr5⟩ : ∃ r, R5 x y = r := ⟨_, rfl⟩
      rw [hr1] at hle e1 e2
      rw [hr3] at hle e3 e4
      rw [hr5] at hle e5 e6
      have hc1 : r1 = true → r3 = true := hle.1
      have hc2 : r3 = true → r5 = true := hle.2
      have HC1 := Lib.hid hc1; have HC2 := Lib.hid hc2
      clear hc1 hc2 hle hr1 hr3 hr5
      have hxm : (0 : Int) ≤ (x : Int) := by omega
      have hym : (0 : Int) ≤ (y : Int) := by omega
      cases r1
      · cases r3
        · exact times_round_a r5 hn hxn hyn hE d1 e1 d2 e2 d3 e3 d4 e4 d5 e5 d6 e6 _ (fun _ _ d _ _ h => by cases d <;> exact h)
        · obtain rfl := HC2.out rfl
          exact times_round_b true hn hxn hyn hE d1 e1 d2 e2 d3 e3 d4 e4 d5 e5 d6 e6 _ (fun _ _ d _ _ h => by cases d <;> exact h)
      · obtain rfl := HC1.out rfl
        obtain rfl := HC2.out rfl
        exact times_round_c true hn hxn hyn hE d1 e1 d2 e2 d3 e3 d4 e4 d5 e5 d6 e6 _ (fun _ _ d _ _ h => by cases d <;> exact h)
    · obtain rfl : y = n + 1 := by omega
      have h2 : ¬ (((n + 1 : Nat) : Int) ≤ (n : Int)) := by omega
      go_wp2
      first | exact ⟨⟨x + 1, by omega, by first | rfl | trivial, ⟨rfl, rfl, rfl, rfl, rfl, rfl, rfl, rfl, rfl⟩, hE⟩, by simp [intOf]; omega⟩ | exact ⟨⟨x + 1, by omega, by simp⟩, by simp [intOf]; omega⟩
  · obtain rfl : x = n + 1 := by omega
    have h1 : ¬ (((n + 1 : Nat) : Int) ≤ (n : Int)) := by omega
    have E2 := E.trans hE
    go_wp2_with fail
    refine (HWO.out _ E2).mono ?_
    rintro e W9 ⟨rfl, hE9⟩
    have hE09 := E2.trans hE9
    clear hE9
    go_wp2
    go_ret
    exact ⟨rfl, hE09⟩
end Go.Proofs.YtapfoaiibjdfnaaDoor
