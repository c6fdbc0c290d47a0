/- The examples of chapter 8: a, p, b, Same, ints, works (printed by genworksl.py). -/
import Derived.Test.YtamkkhlabfahmaaGreatDoorGa00
import Derived.Test.YtamkkhlabfahmaaGreatDoorGa18
import Derived.Test.YtamkkhlabfahmaaGreatDoorGa20
import Derived.Test.YtamkkhlabfahmaaGreatDoorGa17
import Derived.Test.YtamkkhlabfahmaaGreatDoorGa12
import Derived.Test.YtamkkhlabfahmaaGreatDoorRunA
set_option maxRecDepth 100000
set_option maxHeartbeats 16000000
namespace Go.Proofs.YtamkkhlabfahmaaGreatDoor
open Go.RowKit Go.Ab
attribute [local go_sem] Oper.semAt_some wide_fn wide_depth

theorem patInfo7 : (Tryz.prog.info? 27).map (·.size) = some 7 := by kernel_rfl
theorem sndInfo2 : (Tryz.prog.info? 24).map (·.size) = some 2 := by kernel_rfl
theorem snd_result1 {fn : Func} {p : Tmp} (h : fn.results = #[.cell p 24]) {tmps : Array Value} {w : World} {g : Nat} {x y : Value} (hp : tmps.getD p undef = .pointer (some ⟨g, 0, none⟩)) (hg : w.heap[g]? = some (.cells #[x, y] 24 (0, 0))) :
  (results fn tmps).run Tryz.prog w = .ok (.agg #[x, y]) w := by
 have hp' : tmps[p]?.getD undef = .pointer (some ⟨g, 0, none⟩) := by simpa using hp
 simp [results, h, hp', asAddr, run_loadVar_row w g _ _ _ _ _ hg Tryz.underlying24 rfl sndInfo2]
theorem la_any (w : World) : Calls Tryz.prog 14 #[] w fun e w' => e = .returned (.agg #[.int .u32 5, .int .u32 2]) ∧ Ext w w' := by
 go_enter Tryz.func14, Tryz.ntmps14
 go_wp2
 exact bodyPost_ret (snd_result1 rfl rfl (new_at rfl)) rfl ⟨rfl, (Turn.refl _ w).alloc _⟩
theorem lp_any (w : World) : Calls Tryz.prog 15 #[] w fun e w' => e = .returned (.agg #[.int .u32 2, .int .u32 5]) ∧ Ext w w' := by
 go_enter Tryz.func15, Tryz.ntmps15
 go_wp2
 exact bodyPost_ret (snd_result1 rfl rfl (new_at rfl)) rfl ⟨rfl, (Turn.refl _ w).alloc _⟩
theorem lb_any (w : World) : Calls Tryz.prog 19 #[] w fun e w' => e = .returned (.agg #[.int .u32 3, .int .u32 4]) ∧ Ext w w' := by
 go_enter Tryz.func19, Tryz.ntmps19
 go_wp2
 exact bodyPost_ret (snd_result1 rfl rfl (new_at rfl)) rfl ⟨rfl, (Turn.refl _ w).alloc _⟩

theorem same_any {w : World} {u v : Value} {us vs : Wd} (hu : WordAt w u us) (hv : WordAt w v vs) :
  Calls Tryz.prog 21 #[u, v] w fun e w' => e = .returned (.bool (decide (us = vs))) ∧ Ext w w' := by
 have HC := refeqW hu hv
 obtain ⟨ao, ac, rfl, _⟩ := hu.slice
 obtain ⟨bo, bc, rfl, _⟩ := hv.slice
 have HH := Lib.hid HC
 clear HC hu hv
 go_enter Tryz.func21, Tryz.ntmps21
 go_wp2_with fail
 refine HH.out.mono ?_
 rintro e w2 ⟨rfl, hE⟩
 clear HH
 go_wp2
 go_ret
 exact ⟨rfl, hE⟩

theorem lworks_any (w : World) (hT : Tab w) : Calls Tryz.prog 22 #[] w fun e w' => e = .returned (.bool true) ∧ Ext w w' := by
 have HT := Lib.hid hT
 clear hT
 go_enter Tryz.func22, Tryz.ntmps22
 go_upto_region 2 with (fail)
 obtain ⟨w1, hw1⟩ : ∃ D, w.alloc (.cells #[.int .i64 1, .int .u32 4, .int .u32 0, .bool false, .int .i64 0, .int .i64 0, .slice none 0 0] 27) = D := ⟨_, rfl⟩
 have hE1 : Ext w w1 := by rw [← hw1]; exact (Turn.refl _ w).alloc _
 have hp1 : w1.heap[w.heap.size]? = some (.cells #[.int .i64 1, .int .u32 4, .int .u32 0, .bool false, .int .i64 0, .int .i64 0, .slice none 0 0] 27 (0, 0)) := by rw [← hw1]; exact new_at rfl
 rw [hw1]
 obtain ⟨P0, hP0⟩ : ∃ b, w.heap.size = b := ⟨_, rfl⟩
 rw [hP0] at hp1 ⊢
 have HP1 := Lib.hid hp1; have HE1 := Lib.hid hE1
 clear hw1 hp1 hP0 hE1
 go_upto_region 3 with (first | (refine wpList_load_row rfl 27 (.tmp 1) rfl P0 rfl _ _ _ _ HP1.out Tryz.underlying27 rfl patInfo7 ?_) | (refine wpList_store_row rfl 34 (.tmp 2) (.tmp 21) rfl _ #[.string ⟨#[86]⟩, .int .i64 1, .int .u32 4, .int .u32 0, .bool false, .int .i64 0, .int .i64 0, .slice none 0 0, .int .i64 1, .int .u32 4, .int .u32 0, .bool false, .int .i64 0, .int .i64 0, .slice none 0 0, .slice (some ⟨w1.heap.size, 0, none⟩) 1 1, .slice (some ⟨w1.heap.size + 1, 0, none⟩) 1 1, .int .i64 1] rfl rfl _ _ (new_at (by simp)) (by kernel_rfl) rfl (by kernel_rfl) ?_))
 simp only [Act.put]
 obtain ⟨x1, hx1⟩ : ∃ D, ((w1.alloc (.cells #[.int .u32 2, .int .u32 0] 24)).alloc (.cells #[.int .i64 0, .int .u32 0, .int .u32 1, .int .u32 0, .int .u32 0, .int .i64 0] 30)).alloc (.cells #[.string ⟨#[]⟩, .int .i64 0, .int .u32 0, .int .u32 0, .bool false, .int .i64 0, .int .i64 0, .slice none 0 0, .int .i64 0, .int .u32 0, .int .u32 0, .bool false, .int .i64 0, .int .i64 0, .slice none 0 0, .slice none 0 0, .slice none 0 0, .int .i64 0] 34) = D := ⟨_, rfl⟩
 have hEx : Ext w1 x1 := by rw [← hx1]; exact (((Turn.refl _ w1).alloc _).alloc _).alloc _
 have hi1 : x1.heap[w1.heap.size]? = some (.cells #[.int .u32 2, .int .u32 0] 24 (0, 0)) := by rw [← hx1]; exact new_keep (new_keep (new_at rfl))
 have ho1 : x1.heap[w1.heap.size + 1]? = some (.cells #[.int .i64 0, .int .u32 0, .int .u32 1, .int .u32 0, .int .u32 0, .int .i64 0] 30 (0, 0)) := by rw [← hx1]; exact new_keep (new_at (by simp))
 have hl1 : x1.heap[w1.heap.size + 2]? = some (.cells #[.string ⟨#[]⟩, .int .i64 0, .int .u32 0, .int .u32 0, .bool false, .int .i64 0, .int .i64 0, .slice none 0 0, .int .i64 0, .int .u32 0, .int .u32 0, .bool false, .int .i64 0, .int .i64 0, .slice none 0 0, .slice none 0 0, .slice none 0 0, .int .i64 0] 34 (0, 0)) := by rw [← hx1]; exact new_at (by simp)
 rw [hx1]
 rw [show w1.heap.size + 1 + 1 = w1.heap.size + 2 from rfl]
 obtain ⟨G1, hG1⟩ : ∃ b, w1.heap.size = b := ⟨_, rfl⟩
 rw [hG1] at hi1 ho1 hl1 ⊢
 obtain ⟨G2, hG2⟩ : ∃ b, G1 + 1 = b := ⟨_, rfl⟩
 obtain ⟨L1, hL1⟩ : ∃ b, G1 + 2 = b := ⟨_, rfl⟩
 rw [hG2] at ho1 ⊢
 rw [hL1] at hl1 ⊢
 have hT2 := Turn.setRow x1 L1 #[.string ⟨#[86]⟩, .int .i64 1, .int .u32 4, .int .u32 0, .bool false, .int .i64 0, .int .i64 0, .slice none 0 0, .int .i64 1, .int .u32 4, .int .u32 0, .bool false, .int .i64 0, .int .i64 0, .slice none 0 0, .slice (some ⟨G1, 0, none⟩) 1 1, .slice (some ⟨G2, 0, none⟩) 1 1, .int .i64 1]
 have hl2 := setRow_heap _ _ _ #[.string ⟨#[86]⟩, .int .i64 1, .int .u32 4, .int .u32 0, .bool false, .int .i64 0, .int .i64 0, .slice none 0 0, .int .i64 1, .int .u32 4, .int .u32 0, .bool false, .int .i64 0, .int .i64 0, .slice none 0 0, .slice (some ⟨G1, 0, none⟩) 1 1, .slice (some ⟨G2, 0, none⟩) 1 1, .int .i64 1] _ _ hl1
 have hi2 := hT2.heap hi1 (by omega)
 have ho2 := hT2.heap ho1 (by omega)
 have hE2 : Ext w1 (x1.setRow L1 #[.string ⟨#[86]⟩, .int .i64 1, .int .u32 4, .int .u32 0, .bool false, .int .i64 0, .int .i64 0, .slice none 0 0, .int .i64 1, .int .u32 4, .int .u32 0, .bool false, .int .i64 0, .int .i64 0, .slice none 0 0, .slice (some ⟨G1, 0, none⟩) 1 1, .slice (some ⟨G2, 0, none⟩) 1 1, .int .i64 1]) := hEx.after hT2 (fun b hb e => by omega)
 obtain ⟨w2, hw2⟩ : ∃ D, x1.setRow L1 #[.string ⟨#[86]⟩, .int .i64 1, .int .u32 4, .int .u32 0, .bool false, .int .i64 0, .int .i64 0, .slice none 0 0, .int .i64 1, .int .u32 4, .int .u32 0, .bool false, .int .i64 0, .int .i64 0, .slice none 0 0, .slice (some ⟨G1, 0, none⟩) 1 1, .slice (some ⟨G2, 0, none⟩) 1 1, .int .i64 1] = D := ⟨_, rfl⟩
 rw [hw2] at hl2 hi2 ho2 hE2 ⊢
 have HL2 := Lib.hid hl2; have HI2 := Lib.hid hi2; have HO2 := Lib.hid ho2; have HE2 := Lib.hid (HE1.out.trans hE2)
 clear hx1 hEx hi1 ho1 hl1 hG1 hG2 hL1 hT2 hl2 hi2 ho2 hE2 hw2 HP1 HE1
 go_upto_region 4 with (refine wpList_store_row rfl 34 (.tmp 3) (.tmp 25) rfl _ #[.string ⟨#[70]⟩, .int .i64 0, .int .u32 0, .int .u32 0, .bool false, .int .i64 0, .int .i64 0, .slice none 0 0, .int .i64 6, .int .u32 0, .int .u32 0, .bool false, .int .i64 0, .int .i64 0, .slice none 0 0, .slice (some ⟨w2.heap.size, 0, none⟩) 1 1, .slice none 0 0, .int .i64 1] rfl rfl _ _ (new_at (by simp)) (by kernel_rfl) rfl (by kernel_rfl) ?_)
 simp only [Act.put]
 obtain ⟨x2, hx2⟩ : ∃ D, (w2.alloc (.cells #[.int .u32 4, .int .u32 0] 24)).alloc (.cells #[.string ⟨#[]⟩, .int .i64 0, .int .u32 0, .int .u32 0, .bool false, .int .i64 0, .int .i64 0, .slice none 0 0, .int .i64 0, .int .u32 0, .int .u32 0, .bool false, .int .i64 0, .int .i64 0, .slice none 0 0, .slice none 0 0, .slice none 0 0, .int .i64 0] 34) = D := ⟨_, rfl⟩
 have hEx : Ext w2 x2 := by rw [← hx2]; exact ((Turn.refl _ w2).alloc _).alloc _
 have hi3 : x2.heap[w2.heap.size]? = some (.cells #[.int .u32 4, .int .u32 0] 24 (0, 0)) := by rw [← hx2]; exact new_keep (new_at rfl)
 have hl3 : x2.heap[w2.heap.size + 1]? = some (.cells #[.string ⟨#[]⟩, .int .i64 0, .int .u32 0, .int .u32 0, .bool false, .int .i64 0, .int .i64 0, .slice none 0 0, .int .i64 0, .int .u32 0, .int .u32 0, .bool false, .int .i64 0, .int .i64 0, .slice none 0 0, .slice none 0 0, .slice none 0 0, .int .i64 0] 34 (0, 0)) := by rw [← hx2]; exact new_at (by simp)
 rw [hx2]
 obtain ⟨G4, hG4⟩ : ∃ b, w2.heap.size = b := ⟨_, rfl⟩
 rw [hG4] at hi3 hl3 ⊢
 obtain ⟨L2, hL2⟩ : ∃ b, G4 + 1 = b := ⟨_, rfl⟩
 rw [hL2] at hl3 ⊢
 have hT3 := Turn.setRow x2 L2 #[.string ⟨#[70]⟩, .int .i64 0, .int .u32 0, .int .u32 0, .bool false, .int .i64 0, .int .i64 0, .slice none 0 0, .int .i64 6, .int .u32 0, .int .u32 0, .bool false, .int .i64 0, .int .i64 0, .slice none 0 0, .slice (some ⟨G4, 0, none⟩) 1 1, .slice none 0 0, .int .i64 1]
 have hl4 := setRow_heap _ _ _ #[.string ⟨#[70]⟩, .int .i64 0, .int .u32 0, .int .u32 0, .bool false, .int .i64 0, .int .i64 0, .slice none 0 0, .int .i64 6, .int .u32 0, .int .u32 0, .bool false, .int .i64 0, .int .i64 0, .slice none 0 0, .slice (some ⟨G4, 0, none⟩) 1 1, .slice none 0 0, .int .i64 1] _ _ hl3
 have hi4 := hT3.heap hi3 (by omega)
 have hE3 : Ext w2 (x2.setRow L2 #[.string ⟨#[70]⟩, .int .i64 0, .int .u32 0, .int .u32 0, .bool false, .int .i64 0, .int .i64 0, .slice none 0 0, .int .i64 6, .int .u32 0, .int .u32 0, .bool false, .int .i64 0, .int .i64 0, .slice none 0 0, .slice (some ⟨G4, 0, none⟩) 1 1, .slice none 0 0, .int .i64 1]) := hEx.after hT3 (fun b hb e => by omega)
 obtain ⟨w3, hw3⟩ : ∃ D, x2.setRow L2 #[.string ⟨#[70]⟩, .int .i64 0, .int .u32 0, .int .u32 0, .bool false, .int .i64 0, .int .i64 0, .slice none 0 0, .int .i64 6, .int .u32 0, .int .u32 0, .bool false, .int .i64 0, .int .i64 0, .slice none 0 0, .slice (some ⟨G4, 0, none⟩) 1 1, .slice none 0 0, .int .i64 1] = D := ⟨_, rfl⟩
 rw [hw3] at hl4 hi4 hE3 ⊢
 have hb3 : ∀ D : World, Ext w3 D → D.heap[L1]? = some (.cells #[.string ⟨#[86]⟩, .int .i64 1, .int .u32 4, .int .u32 0, .bool false, .int .i64 0, .int .i64 0, .slice none 0 0, .int .i64 1, .int .u32 4, .int .u32 0, .bool false, .int .i64 0, .int .i64 0, .slice none 0 0, .slice (some ⟨G1, 0, none⟩) 1 1, .slice (some ⟨G2, 0, none⟩) 1 1, .int .i64 1] 34 (0, 0)) ∧ D.heap[L2]? = some (.cells #[.string ⟨#[70]⟩, .int .i64 0, .int .u32 0, .int .u32 0, .bool false, .int .i64 0, .int .i64 0, .slice none 0 0, .int .i64 6, .int .u32 0, .int .u32 0, .bool false, .int .i64 0, .int .i64 0, .slice none 0 0, .slice (some ⟨G4, 0, none⟩) 1 1, .slice none 0 0, .int .i64 1] 34 (0, 0)) := fun D hD => ⟨Ext.keep (hE3.trans hD) HL2.out, Ext.keep hD hl4⟩
 have HS := Lib.hid hb3
 have LA1 : Hid (LawAt w3 voiceD [.string ⟨#[86]⟩, .int .i64 1, .int .u32 4, .int .u32 0, .bool false, .int .i64 0, .int .i64 0, .slice none 0 0, .int .i64 1, .int .u32 4, .int .u32 0, .bool false, .int .i64 0, .int .i64 0, .slice none 0 0, .slice (some ⟨G1, 0, none⟩) 1 1, .slice (some ⟨G2, 0, none⟩) 1 1, .int .i64 1]) := Lib.hid ⟨[.int .i64 1, .int .u32 4, .int .u32 0, .bool false, .int .i64 0, .int .i64 0, .slice none 0 0], [.int .i64 1, .int .u32 4, .int .u32 0, .bool false, .int .i64 0, .int .i64 0, .slice none 0 0], _, _, rfl, by decide, pat_leaf _ _ 1 false 0 0 (by decide) (by decide), pat_leaf _ _ 1 false 0 0 (by decide) (by decide), ⟨rd_blk (xs := sndL [(2, 0)]) (hE3.keep HI2.out) rfl (by decide), by simp [WdOk]⟩, rd_blk (xs := outL [⟨0, 0, (1, 0), 0, 0⟩]) (hE3.keep HO2.out) rfl (by decide), by simp [OutOk, lt32]⟩
 have LA2 : Hid (LawAt w3 finalD [.string ⟨#[70]⟩, .int .i64 0, .int .u32 0, .int .u32 0, .bool false, .int .i64 0, .int .i64 0, .slice none 0 0, .int .i64 6, .int .u32 0, .int .u32 0, .bool false, .int .i64 0, .int .i64 0, .slice none 0 0, .slice (some ⟨G4, 0, none⟩) 1 1, .slice none 0 0, .int .i64 1]) := Lib.hid ⟨[.int .i64 0, .int .u32 0, .int .u32 0, .bool false, .int .i64 0, .int .i64 0, .slice none 0 0], [.int .i64 6, .int .u32 0, .int .u32 0, .bool false, .int .i64 0, .int .i64 0, .slice none 0 0], _, _, rfl, by decide, pat_leaf _ _ 0 false 0 0 (by decide) (by decide), pat_leaf _ _ 6 false 0 0 (by decide) (by decide), ⟨rd_blk (xs := sndL [(4, 0)]) hi4 rfl (by decide), by simp [WdOk]⟩, ⟨rfl, by simp [maxLen], none, 0, rfl, fun h => by simp at h⟩, by simp [OutOk]⟩
 have HE3 := Lib.hid (HE2.out.trans hE3)
 clear hx2 hEx hi3 hl3 hG4 hL2 hT3 hl4 hi4 hE3 hw3 hb3 HL2 HI2 HO2 HE2
 obtain ⟨V3, hV3⟩ : ∃ D, w3 = D := ⟨_, rfl⟩
 have e3 : Ext w3 V3 := by rw [hV3]; exact Turn.refl _ _
 have hr3 : w3 = V3 := hV3
 rw [hV3]
 clear hV3
 go_upto_region 4 with (fail)
 obtain ⟨V4, hV⟩ : ∃ D, V3.drew = D := ⟨_, rfl⟩
 have e4 : Ext w3 V4 := by rw [← hV]; exact e3.drew
 refine wp_region_late (S := fun D => D.heap[L1]? = some (.cells #[.string ⟨#[86]⟩, .int .i64 1, .int .u32 4, .int .u32 0, .bool false, .int .i64 0, .int .i64 0, .slice none 0 0, .int .i64 1, .int .u32 4, .int .u32 0, .bool false, .int .i64 0, .int .i64 0, .slice none 0 0, .slice (some ⟨G1, 0, none⟩) 1 1, .slice (some ⟨G2, 0, none⟩) 1 1, .int .i64 1] 34 (0, 0)) ∧ D.heap[L2]? = some (.cells #[.string ⟨#[70]⟩, .int .i64 0, .int .u32 0, .int .u32 0, .bool false, .int .i64 0, .int .i64 0, .slice none 0 0, .int .i64 6, .int .u32 0, .int .u32 0, .bool false, .int .i64 0, .int .i64 0, .slice none 0 0, .slice (some ⟨G4, 0, none⟩) 1 1, .slice none 0 0, .int .i64 1] 34 (0, 0))) [] (by kernel_rfl) (by rw [hV]; exact HS.out _ e4) ?_
 intro _
 have hS4 := HS.out _ e4
 rw [hV]
 clear hV
 refine tkE (i := 0) (d := 27) (v := ?_) rfl (Or.inl ⟨by rfl, ?_⟩) hS4 ?_
 rotate_left
 ·intro w hSw; (try dsimp only at hSw); have hrow := hSw.1; refine exec_load_row (x := .tmp 2) ?_ L1 ?_ _ _ _ hrow Tryz.underlying34 Tryz.lawInfo <;> rfl
 try simp only [Act.put, pq]
 refine wpAnyE_ready (rs := [1]) (by kernel_rfl) (by simp) ?_
 refine AllReadyE.cons rfl (fun K hK => ?_) AllReadyE.nil
 (try rw [if_pos (show Region.wanted _ _ = true from rfl)])
 go_simp
 refine (la_any _).mono ?_
 rintro e V5 ⟨rfl, hN⟩
 have e5 : Ext w3 V5 := e4.trans hN
 refine hK.out _ _ (HS.out _ e5) (fun hS5 => ?_)
 clear hK K hN
 try simp only [Act.put, pq]
 refine wpAnyE_ready (rs := [2]) (by kernel_rfl) (by simp) ?_
 refine AllReadyE.cons rfl (fun K hK => ?_) AllReadyE.nil
 (try rw [if_pos (show Region.wanted _ _ = true from rfl)])
 go_simp
 refine (lp_any _).mono ?_
 rintro e V6 ⟨rfl, hN⟩
 have e6 : Ext w3 V6 := e5.trans hN
 refine hK.out _ _ (HS.out _ e6) (fun hS6 => ?_)
 clear hK K hN
 try simp only [Act.put, pq]
 refine wpAnyE_ready (rs := [3]) (by kernel_rfl) (by simp) ?_
 refine AllReadyE.cons rfl (fun K hK => ?_) AllReadyE.nil
 (try rw [if_pos (show Region.wanted _ _ = true from rfl)])
 go_simp
 refine (la_any _).mono ?_
 rintro e V7 ⟨rfl, hN⟩
 have e7 : Ext w3 V7 := e6.trans hN
 refine hK.out _ _ (HS.out _ e7) (fun hS7 => ?_)
 clear hK K hN
 try simp only [Act.put, pq]
 refine wpAnyE_ready (rs := [4]) (by kernel_rfl) (by simp) ?_
 refine AllReadyE.cons rfl (fun K hK => ?_) AllReadyE.nil
 (try rw [if_pos (show Region.wanted _ _ = true from rfl)])
 go_simp
 refine (lp_any _).mono ?_
 rintro e V8 ⟨rfl, hN⟩
 have e8 : Ext w3 V8 := e7.trans hN
 refine hK.out _ _ (HS.out _ e8) (fun hS8 => ?_)
 clear hK K hN
 try simp only [Act.put, pq]
 refine wpAnyE_ready (rs := [5]) (by kernel_rfl) (by simp) ?_
 refine AllReadyE.cons rfl (fun K hK => ?_) AllReadyE.nil
 (try rw [if_pos (show Region.wanted _ _ = true from rfl)])
 go_simp
 refine (la_any _).mono ?_
 rintro e V9 ⟨rfl, hN⟩
 have e9 : Ext w3 V9 := e8.trans hN
 refine hK.out _ _ (HS.out _ e9) (fun hS9 => ?_)
 clear hK K hN
 try simp only [Act.put, pq]
 refine wpAnyE_ready (rs := [6]) (by kernel_rfl) (by simp) ?_
 refine AllReadyE.cons rfl (fun K hK => ?_) AllReadyE.nil
 (try rw [if_pos (show Region.wanted _ _ = true from rfl)])
 go_simp
 obtain ⟨V10, hV⟩ : ∃ D, V9.alloc (.cells #[.int .u32 5, .int .u32 2, .int .u32 2, .int .u32 5, .int .u32 5, .int .u32 2, .int .u32 2, .int .u32 5, .int .u32 5, .int .u32 2] 24) = D := ⟨_, rfl⟩
 have e10 : Ext w3 V10 := by rw [← hV]; exact e9.trans ((Turn.refl _ V9).alloc _)
 have hA : V10.heap[V9.heap.size]? = some (.cells (sndL wApapa).toArray 24 (0, 0)) := by rw [← hV]; exact new_at rfl
 rw [hV]
 obtain ⟨ga, hg⟩ : ∃ g, V9.heap.size = g := ⟨_, rfl⟩
 rw [hg] at hA ⊢
 have Wga : WordAt V10 (.slice (some ⟨ga, 0, none⟩) wApapa.length 5) wApapa := ⟨rd_blk (xs := sndL wApapa) hA rfl (by decide), by simp [WdOk]⟩
 clear hV hA hg
 refine hK.out _ _ (HS.out _ e10) (fun hS10 => ?_)
 clear hK K
 try simp only [Act.put, pq]
 refine wpAnyE_ready (rs := [7]) (by kernel_rfl) (by simp) ?_
 refine AllReadyE.cons rfl (fun K hK => ?_) AllReadyE.nil
 (try rw [if_pos (show Region.wanted _ _ = true from rfl)])
 go_simp
 have hc := lapply_any (l := voiceD) (ws := wApapa) (cs := [.string ⟨#[86]⟩, .int .i64 1, .int .u32 4, .int .u32 0, .bool false, .int .i64 0, .int .i64 0, .slice none 0 0, .int .i64 1, .int .u32 4, .int .u32 0, .bool false, .int .i64 0, .int .i64 0, .slice none 0 0, .slice (some ⟨G1, 0, none⟩) 1 1, .slice (some ⟨G2, 0, none⟩) 1 1, .int .i64 1]) (LA1.out.ext e10) Wga (by decide) (HT.out.keep (HE3.out.trans e10) id)
 rw [worksL_1.1, worksL_1.2] at hc
 refine hc.mono ?_
 clear hc
 rintro e V11 ⟨rau, rfl, ⟨rao, rac, hq, raw, _⟩, hN⟩
 have hq : rau = .slice rao 5 rac := hq
 subst hq
 have e11 : Ext w3 V11 := e10.trans hN
 have raW := Lib.hid raw
 have raB : Hid (∀ D, Ext V11 D → WordAt D (.slice rao wAbaba.length rac) wAbaba) := Lib.hid (fun D hD => raw.ext hD)
 refine hK.out _ _ (HS.out _ e11) (fun hS11 => ?_)
 clear hK K hN raw Wga
 try simp only [Act.put, pq]
 refine tkE (i := 8) (d := 26) (v := ?_) rfl (Or.inl ⟨by rfl, ?_⟩) hS11 ?_
 rotate_left
 ·intro w hSw; (try dsimp only at hSw); go_simp; try with_reducible rfl
 try simp only [Act.put, pq]
 refine tkE (i := 9) (d := 35) (v := ?_) rfl (Or.inl ⟨by rfl, ?_⟩) hS11 ?_
 rotate_left
 ·intro w hSw; (try dsimp only at hSw); go_simp; try with_reducible rfl
 try simp only [Act.put, pq]
 refine tkE (i := 10) (d := 36) (v := ?_) rfl (Or.inl ⟨by rfl, ?_⟩) hS11 ?_
 rotate_left
 ·intro w hSw; (try dsimp only at hSw); go_simp; try with_reducible rfl
 try simp only [Act.put, pq]
 refine tkE (i := 11) (d := 4) (v := ?_) rfl (Or.inl ⟨by rfl, ?_⟩) hS11 ?_
 rotate_left
 ·intro w hSw; (try dsimp only at hSw); go_simp; try with_reducible rfl
 try simp only [Act.put, pq]
 refine tkE (i := 12) (d := 5) (v := ?_) rfl (Or.inl ⟨by rfl, ?_⟩) hS11 ?_
 rotate_left
 ·intro w hSw; (try dsimp only at hSw); go_simp; try with_reducible rfl
 try simp only [Act.put, pq]
 refine wpAnyE_done (by kernel_rfl) ?_ _
 have a11 : Ext V11 V11 := Turn.refl _ _
 go_upto_region 5 with (fail)
 obtain ⟨V12, hV⟩ : ∃ D, V11.drew = D := ⟨_, rfl⟩
 have e12 : Ext w3 V12 := by rw [← hV]; exact e11.drew
 have a12 : Ext V11 V12 := a11.trans (by rw [← hV]; exact (Turn.refl _ V11).drew)
 refine wp_region_late (S := fun D => D.heap[L1]? = some (.cells #[.string ⟨#[86]⟩, .int .i64 1, .int .u32 4, .int .u32 0, .bool false, .int .i64 0, .int .i64 0, .slice none 0 0, .int .i64 1, .int .u32 4, .int .u32 0, .bool false, .int .i64 0, .int .i64 0, .slice none 0 0, .slice (some ⟨G1, 0, none⟩) 1 1, .slice (some ⟨G2, 0, none⟩) 1 1, .int .i64 1] 34 (0, 0)) ∧ D.heap[L2]? = some (.cells #[.string ⟨#[70]⟩, .int .i64 0, .int .u32 0, .int .u32 0, .bool false, .int .i64 0, .int .i64 0, .slice none 0 0, .int .i64 6, .int .u32 0, .int .u32 0, .bool false, .int .i64 0, .int .i64 0, .slice none 0 0, .slice (some ⟨G4, 0, none⟩) 1 1, .slice none 0 0, .int .i64 1] 34 (0, 0))) [] (by kernel_rfl) (by rw [hV]; exact HS.out _ e12) ?_
 intro _
 have hS12 := HS.out _ e12
 rw [hV]
 clear hV
 refine tkE (i := 0) (d := 38) (v := ?_) rfl (Or.inl ⟨by rfl, ?_⟩) hS12 ?_
 rotate_left
 ·intro w hSw; (try dsimp only at hSw); have hrow := hSw.2; refine exec_load_row (x := .tmp 3) ?_ L2 ?_ _ _ _ hrow Tryz.underlying34 Tryz.lawInfo <;> rfl
 try simp only [Act.put, pq]
 refine wpAnyE_ready (rs := [1]) (by kernel_rfl) (by simp) ?_
 refine AllReadyE.cons rfl (fun K hK => ?_) AllReadyE.nil
 (try rw [if_pos (show Region.wanted _ _ = true from rfl)])
 go_simp
 refine (la_any _).mono ?_
 rintro e V13 ⟨rfl, hN⟩
 have e13 : Ext w3 V13 := e12.trans hN
 have a13 : Ext V11 V13 := a12.trans (hN)
 refine hK.out _ _ (HS.out _ e13) (fun hS13 => ?_)
 clear hK K hN
 try simp only [Act.put, pq]
 refine wpAnyE_ready (rs := [2]) (by kernel_rfl) (by simp) ?_
 refine AllReadyE.cons rfl (fun K hK => ?_) AllReadyE.nil
 (try rw [if_pos (show Region.wanted _ _ = true from rfl)])
 go_simp
 refine (lp_any _).mono ?_
 rintro e V14 ⟨rfl, hN⟩
 have e14 : Ext w3 V14 := e13.trans hN
 have a14 : Ext V11 V14 := a13.trans (hN)
 refine hK.out _ _ (HS.out _ e14) (fun hS14 => ?_)
 clear hK K hN
 try simp only [Act.put, pq]
 refine wpAnyE_ready (rs := [3]) (by kernel_rfl) (by simp) ?_
 refine AllReadyE.cons rfl (fun K hK => ?_) AllReadyE.nil
 (try rw [if_pos (show Region.wanted _ _ = true from rfl)])
 go_simp
 refine (la_any _).mono ?_
 rintro e V15 ⟨rfl, hN⟩
 have e15 : Ext w3 V15 := e14.trans hN
 have a15 : Ext V11 V15 := a14.trans (hN)
 refine hK.out _ _ (HS.out _ e15) (fun hS15 => ?_)
 clear hK K hN
 try simp only [Act.put, pq]
 refine wpAnyE_ready (rs := [4]) (by kernel_rfl) (by simp) ?_
 refine AllReadyE.cons rfl (fun K hK => ?_) AllReadyE.nil
 (try rw [if_pos (show Region.wanted _ _ = true from rfl)])
 go_simp
 obtain ⟨V16, hV⟩ : ∃ D, V15.alloc (.cells #[.int .u32 5, .int .u32 2, .int .u32 2, .int .u32 5, .int .u32 5, .int .u32 2] 24) = D := ⟨_, rfl⟩
 have e16 : Ext w3 V16 := by rw [← hV]; exact e15.trans ((Turn.refl _ V15).alloc _)
 have a16 : Ext V11 V16 := a15.trans (by rw [← hV]; exact (Turn.refl _ V15).alloc _)
 have hA : V16.heap[V15.heap.size]? = some (.cells (sndL wApaL).toArray 24 (0, 0)) := by rw [← hV]; exact new_at rfl
 rw [hV]
 obtain ⟨gb, hg⟩ : ∃ g, V15.heap.size = g := ⟨_, rfl⟩
 rw [hg] at hA ⊢
 have Wgb : WordAt V16 (.slice (some ⟨gb, 0, none⟩) wApaL.length 3) wApaL := ⟨rd_blk (xs := sndL wApaL) hA rfl (by decide), by simp [WdOk]⟩
 clear hV hA hg
 refine hK.out _ _ (HS.out _ e16) (fun hS16 => ?_)
 clear hK K
 try simp only [Act.put, pq]
 refine wpAnyE_ready (rs := [5]) (by kernel_rfl) (by simp) ?_
 refine AllReadyE.cons rfl (fun K hK => ?_) AllReadyE.nil
 (try rw [if_pos (show Region.wanted _ _ = true from rfl)])
 go_simp
 have hc := lapply_any (l := finalD) (ws := wApaL) (cs := [.string ⟨#[70]⟩, .int .i64 0, .int .u32 0, .int .u32 0, .bool false, .int .i64 0, .int .i64 0, .slice none 0 0, .int .i64 6, .int .u32 0, .int .u32 0, .bool false, .int .i64 0, .int .i64 0, .slice none 0 0, .slice (some ⟨G4, 0, none⟩) 1 1, .slice none 0 0, .int .i64 1]) (LA2.out.ext e16) Wgb (by decide) (HT.out.keep (HE3.out.trans e16) id)
 rw [worksL_2.1, worksL_2.2] at hc
 refine hc.mono ?_
 clear hc
 rintro e V17 ⟨rbu, rfl, ⟨rbo, rbc, hq, rbw, _⟩, hN⟩
 have hq : rbu = .slice rbo 2 rbc := hq
 subst hq
 have e17 : Ext w3 V17 := e16.trans hN
 have a17 : Ext V11 V17 := a16.trans (hN)
 have rbW := Lib.hid rbw
 have rbB : Hid (∀ D, Ext V17 D → WordAt D (.slice rbo wApL.length rbc) wApL) := Lib.hid (fun D hD => rbw.ext hD)
 refine hK.out _ _ (HS.out _ e17) (fun hS17 => ?_)
 clear hK K hN rbw Wgb
 try simp only [Act.put, pq]
 refine tkE (i := 6) (d := 37) (v := ?_) rfl (Or.inl ⟨by rfl, ?_⟩) hS17 ?_
 rotate_left
 ·intro w hSw; (try dsimp only at hSw); go_simp; try with_reducible rfl
 try simp only [Act.put, pq]
 refine tkE (i := 7) (d := 44) (v := ?_) rfl (Or.inl ⟨by rfl, ?_⟩) hS17 ?_
 rotate_left
 ·intro w hSw; (try dsimp only at hSw); go_simp; try with_reducible rfl
 try simp only [Act.put, pq]
 refine tkE (i := 8) (d := 45) (v := ?_) rfl (Or.inl ⟨by rfl, ?_⟩) hS17 ?_
 rotate_left
 ·intro w hSw; (try dsimp only at hSw); go_simp; try with_reducible rfl
 try simp only [Act.put, pq]
 refine tkE (i := 9) (d := 6) (v := ?_) rfl (Or.inl ⟨by rfl, ?_⟩) hS17 ?_
 rotate_left
 ·intro w hSw; (try dsimp only at hSw); go_simp; try with_reducible rfl
 try simp only [Act.put, pq]
 refine tkE (i := 10) (d := 7) (v := ?_) rfl (Or.inl ⟨by rfl, ?_⟩) hS17 ?_
 rotate_left
 ·intro w hSw; (try dsimp only at hSw); go_simp; try with_reducible rfl
 try simp only [Act.put, pq]
 refine wpAnyE_done (by kernel_rfl) ?_ _
 have b17 : Ext V17 V17 := Turn.refl _ _
 go_upto_region 6 with (fail)
 obtain ⟨V18, hV⟩ : ∃ D, V17.drew = D := ⟨_, rfl⟩
 have e18 : Ext w3 V18 := by rw [← hV]; exact e17.drew
 have a18 : Ext V11 V18 := a17.trans (by rw [← hV]; exact (Turn.refl _ V17).drew)
 have b18 : Ext V17 V18 := b17.trans (by rw [← hV]; exact (Turn.refl _ V17).drew)
 refine wp_region_late (S := fun D => D.heap[L1]? = some (.cells #[.string ⟨#[86]⟩, .int .i64 1, .int .u32 4, .int .u32 0, .bool false, .int .i64 0, .int .i64 0, .slice none 0 0, .int .i64 1, .int .u32 4, .int .u32 0, .bool false, .int .i64 0, .int .i64 0, .slice none 0 0, .slice (some ⟨G1, 0, none⟩) 1 1, .slice (some ⟨G2, 0, none⟩) 1 1, .int .i64 1] 34 (0, 0)) ∧ D.heap[L2]? = some (.cells #[.string ⟨#[70]⟩, .int .i64 0, .int .u32 0, .int .u32 0, .bool false, .int .i64 0, .int .i64 0, .slice none 0 0, .int .i64 6, .int .u32 0, .int .u32 0, .bool false, .int .i64 0, .int .i64 0, .slice none 0 0, .slice (some ⟨G4, 0, none⟩) 1 1, .slice none 0 0, .int .i64 1] 34 (0, 0))) [] (by kernel_rfl) (by rw [hV]; exact HS.out _ e18) ?_
 intro _
 have hS18 := HS.out _ e18
 rw [hV]
 clear hV
 refine tkE (i := 0) (d := 47) (v := ?_) rfl (Or.inl ⟨by rfl, ?_⟩) hS18 ?_
 rotate_left
 ·intro w hSw; (try dsimp only at hSw); have hrow := hSw.1; refine exec_load_row (x := .tmp 2) ?_ L1 ?_ _ _ _ hrow Tryz.underlying34 Tryz.lawInfo <;> rfl
 try simp only [Act.put, pq]
 refine wpAnyE_ready (rs := [1]) (by kernel_rfl) (by simp) ?_
 refine AllReadyE.cons rfl (fun K hK => ?_) AllReadyE.nil
 (try rw [if_pos (show Region.wanted _ _ = true from rfl)])
 go_simp
 refine (la_any _).mono ?_
 rintro e V19 ⟨rfl, hN⟩
 have e19 : Ext w3 V19 := e18.trans hN
 have a19 : Ext V11 V19 := a18.trans (hN)
 have b19 : Ext V17 V19 := b18.trans (hN)
 refine hK.out _ _ (HS.out _ e19) (fun hS19 => ?_)
 clear hK K hN
 try simp only [Act.put, pq]
 refine wpAnyE_ready (rs := [2]) (by kernel_rfl) (by simp) ?_
 refine AllReadyE.cons rfl (fun K hK => ?_) AllReadyE.nil
 (try rw [if_pos (show Region.wanted _ _ = true from rfl)])
 go_simp
 refine (lp_any _).mono ?_
 rintro e V20 ⟨rfl, hN⟩
 have e20 : Ext w3 V20 := e19.trans hN
 have a20 : Ext V11 V20 := a19.trans (hN)
 have b20 : Ext V17 V20 := b19.trans (hN)
 refine hK.out _ _ (HS.out _ e20) (fun hS20 => ?_)
 clear hK K hN
 try simp only [Act.put, pq]
 refine wpAnyE_ready (rs := [3]) (by kernel_rfl) (by simp) ?_
 refine AllReadyE.cons rfl (fun K hK => ?_) AllReadyE.nil
 (try rw [if_pos (show Region.wanted _ _ = true from rfl)])
 go_simp
 refine (la_any _).mono ?_
 rintro e V21 ⟨rfl, hN⟩
 have e21 : Ext w3 V21 := e20.trans hN
 have a21 : Ext V11 V21 := a20.trans (hN)
 have b21 : Ext V17 V21 := b20.trans (hN)
 refine hK.out _ _ (HS.out _ e21) (fun hS21 => ?_)
 clear hK K hN
 try simp only [Act.put, pq]
 refine wpAnyE_ready (rs := [4]) (by kernel_rfl) (by simp) ?_
 refine AllReadyE.cons rfl (fun K hK => ?_) AllReadyE.nil
 (try rw [if_pos (show Region.wanted _ _ = true from rfl)])
 go_simp
 refine (lp_any _).mono ?_
 rintro e V22 ⟨rfl, hN⟩
 have e22 : Ext w3 V22 := e21.trans hN
 have a22 : Ext V11 V22 := a21.trans (hN)
 have b22 : Ext V17 V22 := b21.trans (hN)
 refine hK.out _ _ (HS.out _ e22) (fun hS22 => ?_)
 clear hK K hN
 try simp only [Act.put, pq]
 refine wpAnyE_ready (rs := [5]) (by kernel_rfl) (by simp) ?_
 refine AllReadyE.cons rfl (fun K hK => ?_) AllReadyE.nil
 (try rw [if_pos (show Region.wanted _ _ = true from rfl)])
 go_simp
 refine (la_any _).mono ?_
 rintro e V23 ⟨rfl, hN⟩
 have e23 : Ext w3 V23 := e22.trans hN
 have a23 : Ext V11 V23 := a22.trans (hN)
 have b23 : Ext V17 V23 := b22.trans (hN)
 refine hK.out _ _ (HS.out _ e23) (fun hS23 => ?_)
 clear hK K hN
 try simp only [Act.put, pq]
 refine wpAnyE_ready (rs := [6]) (by kernel_rfl) (by simp) ?_
 refine AllReadyE.cons rfl (fun K hK => ?_) AllReadyE.nil
 (try rw [if_pos (show Region.wanted _ _ = true from rfl)])
 go_simp
 obtain ⟨V24, hV⟩ : ∃ D, V23.alloc (.cells #[.int .u32 5, .int .u32 2, .int .u32 2, .int .u32 5, .int .u32 5, .int .u32 2, .int .u32 2, .int .u32 5, .int .u32 5, .int .u32 2] 24) = D := ⟨_, rfl⟩
 have e24 : Ext w3 V24 := by rw [← hV]; exact e23.trans ((Turn.refl _ V23).alloc _)
 have a24 : Ext V11 V24 := a23.trans (by rw [← hV]; exact (Turn.refl _ V23).alloc _)
 have b24 : Ext V17 V24 := b23.trans (by rw [← hV]; exact (Turn.refl _ V23).alloc _)
 have hA : V24.heap[V23.heap.size]? = some (.cells (sndL wApapa).toArray 24 (0, 0)) := by rw [← hV]; exact new_at rfl
 rw [hV]
 obtain ⟨gc, hg⟩ : ∃ g, V23.heap.size = g := ⟨_, rfl⟩
 rw [hg] at hA ⊢
 have Wgc : WordAt V24 (.slice (some ⟨gc, 0, none⟩) wApapa.length 5) wApapa := ⟨rd_blk (xs := sndL wApapa) hA rfl (by decide), by simp [WdOk]⟩
 clear hV hA hg
 refine hK.out _ _ (HS.out _ e24) (fun hS24 => ?_)
 clear hK K
 try simp only [Act.put, pq]
 refine wpAnyE_ready (rs := [7]) (by kernel_rfl) (by simp) ?_
 refine AllReadyE.cons rfl (fun K hK => ?_) AllReadyE.nil
 (try rw [if_pos (show Region.wanted _ _ = true from rfl)])
 go_simp
 have hc := lhits_any (l := voiceD) (ws := wApapa) (cs := [.string ⟨#[86]⟩, .int .i64 1, .int .u32 4, .int .u32 0, .bool false, .int .i64 0, .int .i64 0, .slice none 0 0, .int .i64 1, .int .u32 4, .int .u32 0, .bool false, .int .i64 0, .int .i64 0, .slice none 0 0, .slice (some ⟨G1, 0, none⟩) 1 1, .slice (some ⟨G2, 0, none⟩) 1 1, .int .i64 1]) (LA1.out.ext e24) Wgc (HT.out.keep (HE3.out.trans e24) id)
 rw [worksL_3.1, worksL_3.2] at hc
 refine hc.mono ?_
 clear hc
 rintro e V25 ⟨hu, rfl, hO, hN⟩
 obtain ⟨_, _, ho, hcp, rfl, _⟩ := Rd.of_own hO
 obtain ⟨gh, rfl⟩ := own_some hO (by decide)
 have e25 : Ext w3 V25 := e24.trans hN
 have a25 : Ext V11 V25 := a24.trans (hN)
 have b25 : Ext V17 V25 := b24.trans (hN)
 have h0 := hO.cellAt 0 (by decide)
 have h1 := hO.cellAt 1 (by decide)
 have HH0 : Hid (∀ D, Ext V25 D → D.cell? ⟨gh, 0, none⟩ = some (.int .i64 1) ∧ D.cell? ⟨gh, 1, none⟩ = some (.int .i64 3)) := Lib.hid (fun D hD => ⟨hD.cell_some h0 id, hD.cell_some h1 id⟩)
 skip
 refine hK.out _ _ (HS.out _ e25) (fun hS25 => ?_)
 clear hK K hN h0 h1 hO Wgc
 try simp only [Act.put, pq]
 refine tkE (i := 8) (d := 46) (v := ?_) rfl (Or.inl ⟨by rfl, ?_⟩) hS25 ?_
 rotate_left
 ·intro w hSw; (try dsimp only at hSw); go_simp; try with_reducible rfl
 try simp only [Act.put, pq]
 refine tkE (i := 9) (d := 55) (v := ?_) rfl (Or.inl ⟨by rfl, ?_⟩) hS25 ?_
 rotate_left
 ·intro w hSw; (try dsimp only at hSw); go_simp; try with_reducible rfl
 try simp only [Act.put, pq]
 refine tkE (i := 10) (d := 56) (v := ?_) rfl (Or.inl ⟨by rfl, ?_⟩) hS25 ?_
 rotate_left
 ·intro w hSw; (try dsimp only at hSw); go_simp; try with_reducible rfl
 try simp only [Act.put, pq]
 refine tkE (i := 11) (d := 8) (v := ?_) rfl (Or.inl ⟨by rfl, ?_⟩) hS25 ?_
 rotate_left
 ·intro w hSw; (try dsimp only at hSw); go_simp; try with_reducible rfl
 try simp only [Act.put, pq]
 refine tkE (i := 12) (d := 9) (v := ?_) rfl (Or.inl ⟨by rfl, ?_⟩) hS25 ?_
 rotate_left
 ·intro w hSw; (try dsimp only at hSw); go_simp; try with_reducible rfl
 try simp only [Act.put, pq]
 refine wpAnyE_done (by kernel_rfl) ?_ _
 have c25 : Ext V25 V25 := Turn.refl _ _
 go_wp2_with (refine wpList_load_row rfl 34 (.tmp 3) rfl L2 rfl _ _ _ _ (HS.out _ e25).2 Tryz.underlying34 rfl Tryz.lawInfo ?_)
 have hc := lkind_any (l := finalD) (cs := [.string ⟨#[70]⟩, .int .i64 0, .int .u32 0, .int .u32 0, .bool false, .int .i64 0, .int .i64 0, .slice none 0 0, .int .i64 6, .int .u32 0, .int .u32 0, .bool false, .int .i64 0, .int .i64 0, .slice none 0 0, .slice (some ⟨G4, 0, none⟩) 1 1, .slice none 0 0, .int .i64 1]) (LA2.out.ext e25) (HT.out.keep (HE3.out.trans e25) id)
 rw [worksL_4.1, worksL_4.2] at hc
 refine hc.mono ?_
 clear hc
 rintro e V26 ⟨rfl, hN⟩
 have e26 : Ext w3 V26 := e25.trans hN
 have a26 : Ext V11 V26 := a25.trans hN
 have b26 : Ext V17 V26 := b25.trans hN
 have c26 : Ext V25 V26 := hN
 clear hN
 have f26 : Ext V26 V26 := Turn.refl _ _
 go_wp2_with fail
 refine (la_any _).mono ?_
 rintro e V27 ⟨rfl, hN⟩
 have f27 : Ext V26 V27 := f26.trans hN
 clear hN
 go_wp2_with fail
 refine (lb_any _).mono ?_
 rintro e V28 ⟨rfl, hN⟩
 have f28 : Ext V26 V28 := f27.trans hN
 clear hN
 go_wp2_with fail
 refine (la_any _).mono ?_
 rintro e V29 ⟨rfl, hN⟩
 have f29 : Ext V26 V29 := f28.trans hN
 clear hN
 go_wp2_with fail
 refine (lb_any _).mono ?_
 rintro e V30 ⟨rfl, hN⟩
 have f30 : Ext V26 V30 := f29.trans hN
 clear hN
 go_wp2_with fail
 refine (la_any _).mono ?_
 rintro e V31 ⟨rfl, hN⟩
 have f31 : Ext V26 V31 := f30.trans hN
 clear hN
 go_wp2_with fail
 obtain ⟨V32, hV⟩ : ∃ D, V31.alloc (.cells #[.int .u32 5, .int .u32 2, .int .u32 3, .int .u32 4, .int .u32 5, .int .u32 2, .int .u32 3, .int .u32 4, .int .u32 5, .int .u32 2] 24) = D := ⟨_, rfl⟩
 have f32 : Ext V26 V32 := by rw [← hV]; exact f31.trans ((Turn.refl _ V31).alloc _)
 have hA : V32.heap[V31.heap.size]? = some (.cells (sndL wAbaba).toArray 24 (0, 0)) := by rw [← hV]; exact new_at rfl
 rw [hV]
 obtain ⟨gd, hg⟩ : ∃ g, V31.heap.size = g := ⟨_, rfl⟩
 rw [hg] at hA ⊢
 have Wgd : WordAt V32 (.slice (some ⟨gd, 0, none⟩) wAbaba.length 5) wAbaba := ⟨rd_blk (xs := sndL wAbaba) hA rfl (by decide), by simp [WdOk]⟩
 clear hV hA hg
 have hc := same_any (raB.out _ (a26.trans f32)) Wgd
 rw [show decide (wAbaba = wAbaba) = true by decide] at hc
 refine hc.mono ?_
 clear hc
 rintro e V33 ⟨rfl, hN⟩
 have f33 : Ext V26 V33 := f32.trans hN
 clear hN Wgd
 go_wp2_with fail
 refine (la_any _).mono ?_
 rintro e V34 ⟨rfl, hN⟩
 have f34 : Ext V26 V34 := f33.trans hN
 clear hN
 go_wp2_with fail
 refine (lp_any _).mono ?_
 rintro e V35 ⟨rfl, hN⟩
 have f35 : Ext V26 V35 := f34.trans hN
 clear hN
 go_wp2_with fail
 obtain ⟨V36, hV⟩ : ∃ D, V35.alloc (.cells #[.int .u32 5, .int .u32 2, .int .u32 2, .int .u32 5] 24) = D := ⟨_, rfl⟩
 have f36 : Ext V26 V36 := by rw [← hV]; exact f35.trans ((Turn.refl _ V35).alloc _)
 have hA : V36.heap[V35.heap.size]? = some (.cells (sndL wApL).toArray 24 (0, 0)) := by rw [← hV]; exact new_at rfl
 rw [hV]
 obtain ⟨ge, hg⟩ : ∃ g, V35.heap.size = g := ⟨_, rfl⟩
 rw [hg] at hA ⊢
 have Wge : WordAt V36 (.slice (some ⟨ge, 0, none⟩) wApL.length 2) wApL := ⟨rd_blk (xs := sndL wApL) hA rfl (by decide), by simp [WdOk]⟩
 clear hV hA hg
 have hc := same_any (rbB.out _ (b26.trans f36)) Wge
 rw [show decide (wApL = wApL) = true by decide] at hc
 refine hc.mono ?_
 clear hc
 rintro e V37 ⟨rfl, hN⟩
 have f37 : Ext V26 V37 := f36.trans hN
 clear hN Wge
 have hh := HH0.out _ (c26.trans f37)
 have hh0 := hh.1
 have hh1 := hh.2
 clear hh
 have hfin := Lib.hid ((HE3.out.trans e26).trans f37)
 go_wp2
 go_ret
 exact ⟨rfl, hfin.out⟩
end Go.Proofs.YtamkkhlabfahmaaGreatDoor
