/- ablautlaw13.ChronKnown: the walk. -/
import Derived.Test.YtnnnbmkhgcpjoaaDoorCopy
namespace Go.Proofs.YtnnnbmkhgcpjoaaDoor
open Go.RowKit Go.Ab

def r64 : Nat → Nat → Bool := befN 64 (fun _ _ => false) 63 0
theorem r64_rel : Rel 64 r64 := befN_rel (Rel.empty 64) _ _
theorem r64_a : befC 64 (fun _ _ => false) 63 0 = 0 := by decide
theorem r64_b : befC 64 r64 64 0 = 3 := by decide
theorem r64_c : befC 64 r64 5 5 = 9 := by decide
theorem r64_d : befC 64 r64 (-1) (-1) = 3 := by decide
theorem befN_same {n : Nat} {R : Nat → Nat → Bool} {x y : Int} (h : befC n R x y ≠ 0) : befN n R x y = R := by rw [befN, if_neg h]
theorem r64_nb : befN 64 r64 64 0 = r64 := befN_same (by rw [r64_b]; decide)
theorem r64_nc : befN 64 r64 5 5 = r64 := befN_same (by rw [r64_c]; decide)
theorem r64_nd : befN 64 r64 (-1) (-1) = r64 := befN_same (by rw [r64_d]; decide)
theorem r64_e : befC 64 r64 0 1 = 0 := by decide
theorem r64_f : isR 64 r64 63 1 = false := by decide
theorem r64_g : isR 64 (befN 64 r64 0 1) 63 1 = true := by decide
theorem r64_first : (firstL 64 r64)[0]? = some 1 ∧ (firstL 64 r64)[62]? = some 63 ∧ (firstL 64 r64)[63]? = some 0 := by decide +kernel
theorem r0_count : countR 0 (fun _ _ => false) = 1 := by decide
theorem r0_allows : allowsR 0 (fun _ _ => false) [] = (true, 0) := by decide
theorem r0_allows' : allowsR 0 (fun _ _ => false) [0] = (false, 2) := by decide
theorem r17_allows : allowsR 17 (fun _ _ => false) (List.replicate 17 0) = (false, 2) := by decide +kernel

set_option maxRecDepth 100000 in
set_option maxHeartbeats 8000000 in
theorem known_any (w : World) (hT : Tab w) :
    Calls Tryd.prog 10 #[] w fun e w' => e = .returned (.bool true) ∧ Ext w w' := by
  have hw0 : 0 < w.heap.size := by
    have := hT 0 (by decide)
    apply Nat.lt_of_not_le; intro h
    simp [World.cell?, Array.getElem?_eq_none h] at this
  have n64 : 64 ≤ 64 := by decide
  go_enter Tryd.func10, Tryd.ntmps10
  go_wp2_with fail
  refine (new_R 64 n64 w).mono ?_
  rintro e w1 ⟨rfl, hE1, oA1⟩
  go_wp2_with fail
  refine (new_bad 65 (by decide) w1).mono ?_
  rintro e _ ⟨rfl, rfl⟩
  go_wp2_with fail
  refine (new_bad (-1) (by decide) w1).mono ?_
  rintro e _ ⟨rfl, rfl⟩
  go_wp2_with fail
  refine (new_R 17 (by decide) w1).mono ?_
  rintro e w2 ⟨rfl, hE2, oB2⟩
  have oA2 := oA1.keep hE2 id
  go_wp2_with fail
  refine (new_R 0 (by decide) w2).mono ?_
  rintro e w3 ⟨rfl, hE3, oC3⟩
  have oA3 := oA2.keep hE3 id
  have oB3 := oB2.keep hE3 id
  have l1 := oA1.lt
  have l2 := oB2.lt
  have l3 := oC3.lt
  have hE03 := (hE1.trans hE2).trans hE3
  have g1 := hE1.size
  have g2 := hE2.size
  have hT3 := hT.keep hE03 id
  go_wp2_with fail
  refine (before_R _ 64 _ n64 (Rel.empty 64) w3 oA3 hT3 (by omega) 63 0).mono ?_
  rintro e w4 ⟨rfl, ht4, oA4⟩
  rw [r64_a]
  change OrdR w4 w.heap.size 64 r64 at oA4
  have hE4 : Ext w w4 := hE03.after ht4 (fun b' h1 h2 => by omega)
  have oB4 := oB3.keep ht4 (by omega)
  have oC4 := oC3.keep ht4 (by omega)
  have hT4 := hT.keep hE4 id
  go_wp2_with fail
  refine (before_R _ 64 _ n64 r64_rel w4 oA4 hT4 (by omega) 64 0).mono ?_
  rintro e w5 ⟨rfl, ht5, oA5⟩
  rw [r64_b]
  rw [r64_nb] at oA5
  have hE5 : Ext w w5 := hE4.after ht5 (fun b' h1 h2 => by omega)
  have oB5 := oB4.keep ht5 (by omega)
  have oC5 := oC4.keep ht5 (by omega)
  have hT5 := hT.keep hE5 id
  go_wp2_with fail
  refine (before_R _ 64 _ n64 r64_rel w5 oA5 hT5 (by omega) 5 5).mono ?_
  rintro e w6 ⟨rfl, ht6, oA6⟩
  rw [r64_c]
  rw [r64_nc] at oA6
  have hE6 : Ext w w6 := hE5.after ht6 (fun b' h1 h2 => by omega)
  have oB6 := oB5.keep ht6 (by omega)
  have oC6 := oC5.keep ht6 (by omega)
  have hT6 := hT.keep hE6 id
  go_wp2_with fail
  refine (before_R _ 64 _ n64 r64_rel w6 oA6 hT6 (by omega) (-1) (-1)).mono ?_
  rintro e w7 ⟨rfl, ht7, oA7⟩
  rw [r64_d]
  rw [r64_nd] at oA7
  have hE7 : Ext w w7 := hE6.after ht7 (fun b' h1 h2 => by omega)
  have oB7 := oB6.keep ht7 (by omega)
  have oC7 := oC6.keep ht7 (by omega)
  have hT7 := hT.keep hE7 id
  clear ht4 ht5 ht6 ht7 oA3 oA4 oA5 oA6 oB3 oB4 oB5 oB6 oC3 oC4 oC5 oC6 hE03 hE4 hE5 hE6 hT3 hT4 hT5 hT6
  go_wp2_with fail
  refine (count_many _ 17 _ (by decide) (by decide) w7 oB7).mono ?_
  rintro e w8 ⟨rfl, hE8⟩
  have oA8 := oA7.keep hE8 id
  have oB8 := oB7.keep hE8 id
  have oC8 := oC7.keep hE8 id
  go_wp2_with fail
  refine (count_many _ 64 _ (by decide) (by decide) w8 oA8).mono ?_
  rintro e w9 ⟨rfl, hE9⟩
  have oA9 := oA8.keep hE9 id
  have oB9 := oB8.keep hE9 id
  have oC9 := oC8.keep hE9 id
  have hX9 := (hE7.trans hE8).trans hE9
  have hT9 := hT.keep hX9 id
  go_wp2_with fail
  refine (count_any _ 0 _ (by decide) w9 oC9 hT9).mono ?_
  rintro e wa ⟨rfl, hEa⟩
  rw [r0_count]
  have oAa := oA9.keep hEa id
  have oBa := oB9.keep hEa id
  have oCa := oC9.keep hEa id
  have hXa := hX9.trans hEa
  clear oA7 oA8 oB7 oB8 oC7 oC8 oA9 oB9 oC9 hT9 hT7 hE7 hE8 hE9 hEa
  go_wp2_with fail
  refine (allows_any _ 0 _ (by decide) wa oCa _ [] ⟨rfl, by decide, none, 0, rfl, fun h => absurd h (by decide)⟩).mono ?_
  rintro e _ ⟨rfl, rfl⟩
  rw [r0_allows]
  go_wp2_with fail
  have hEb : Ext wa (wa.alloc (.cells #[.int .i64 0] 3)) := (Turn.refl _ _).alloc _
  refine (allows_any _ 0 _ (by decide) _ (oCa.keep hEb id) _ [0] (Rd.lit (l := ints [0]) rfl (by decide))).mono ?_
  rintro e _ ⟨rfl, rfl⟩
  rw [r0_allows']
  have oAb := oAa.keep hEb id
  have oBb := oBa.keep hEb id
  have hXb := hXa.trans hEb
  generalize (wa.alloc (.cells #[.int .i64 0] 3)) = wb at hEb oAb oBb hXb ⊢
  clear oAa oBa oCa hXa hEb
  go_wp2_with (at_make; refine make_row1 rfl (.const (.int .i64 17)) (.const (.int .i64 17)) 23 rfl w.heap.size 3 _ 8 Tryd.underlying23 Tryd.infoInt rfl .i64 .i64 17 17 17 rfl rfl rfl rfl ?c1 ?c2 ?c3 ?_)
  case c1 => omega
  case c2 => unfold maxLen; omega
  case c3 => exact hXb.size
  intro wc hOc hEc
  have oAc := oAb.keep hEc id
  have oBc := oBb.keep hEc id
  have hXc := hXb.trans hEc
  go_wp2_with fail
  refine (allows_any _ 17 _ (by decide) wc oBc _ (List.replicate 17 0) (by have := Rd.of_own hOc; simpa [ints] using this)).mono ?_
  rintro e _ ⟨rfl, rfl⟩
  rw [r17_allows]
  clear oAb oBb hXb hOc hEc oBc
  go_wp2_with fail
  refine (first_any _ 64 r64 n64 r64_rel wc oAc).mono ?_
  rintro e wd ⟨vf, rfl, hEd, hOd, hld⟩
  have oAd := oAc.keep hEd id
  have hXd := hXc.trans hEd
  have hTd := hT.keep hXd id
  clear oAc hXc
  go_wp2_with fail
  refine (copy_ok _ 64 _ _ wd oAd).mono ?_
  rintro e we ⟨rfl, hEe, oDe⟩
  change OrdR we wd.heap.size 64 r64 at oDe
  have oAe := oAd.keep hEe id
  have hXe := hXd.trans hEe
  have hTe := hT.keep hXe id
  have hOe := own_ext hOd hEe
  obtain ⟨_, _, af, cf, rfl, hRf⟩ := Rd.of_own hOe
  obtain ⟨gf, of, rfl, hgf, hcf⟩ := hRf (by rw [hld]; decide)
  have q0 := hcf 0 (by rw [hld]; decide)
  have q62 := hcf 62 (by rw [hld]; decide)
  have q63 := hcf 63 (by rw [hld]; decide)
  have hgd : ∀ (k x : Nat), (firstL 64 r64)[k]? = some x → (ints (zs (firstL 64 r64))).getD k undef = .int .i64 x := fun k x h => by
    simp [ints, zs, List.getD_eq_getElem?_getD, h]
  rw [hgd 0 1 r64_first.1] at q0
  rw [hgd 62 63 r64_first.2.1] at q62
  rw [hgd 63 0 r64_first.2.2] at q63
  change we.cell? ⟨gf, of, none⟩ = some (.int .i64 1) at q0
  change we.cell? ⟨gf, of + 62, none⟩ = some (.int .i64 63) at q62
  change we.cell? ⟨gf, of + 63, none⟩ = some (.int .i64 0) at q63
  rw [hld]
  have ldsz := oAd.lt
  have lesz := oDe.lt
  clear hgd hcf hOd hOe hld hRf
  go_wp2_with fail
  refine (before_R _ 64 _ n64 r64_rel we oDe hTe (by omega) 0 1).mono ?_
  rintro e wg ⟨rfl, htg, oDg⟩
  rw [r64_e]
  have hXg : Ext w wg := hXe.after htg (fun b' h1 h2 => by have := hXd.size; omega)
  have oAg := oAe.keep htg (by omega)
  have hTg := hT.keep hXg id
  go_wp2_with fail
  refine (is_R _ 64 _ n64 wg oAg 63 1).mono ?_
  rintro e _ ⟨rfl, rfl⟩
  rw [r64_f]
  go_wp2_with fail
  refine (is_R _ 64 _ n64 wg oDg 63 1).mono ?_
  rintro e _ ⟨rfl, rfl⟩
  rw [r64_g]
  go_wp2_with fail
  refine (works_any wg hTg).mono ?_
  rintro e wh ⟨rfl, hEh⟩
  go_wp2
  go_ret
  exact ⟨rfl, hXg.trans hEh⟩
end Go.Proofs.YtnnnbmkhgcpjoaaDoor
