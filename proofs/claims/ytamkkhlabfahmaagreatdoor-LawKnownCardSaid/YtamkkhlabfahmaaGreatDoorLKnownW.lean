/- ablautlaw08.LawKnown: the walk (printed by genlknown.py). -/
import Derived.Test.YtamkkhlabfahmaaGreatDoorWorksW
import Derived.Test.YtamkkhlabfahmaaGreatDoorGa35
import Derived.Test.YtamkkhlabfahmaaGreatDoorRowO2
import Derived.Test.YtamkkhlabfahmaaGreatDoorKnownLP
set_option maxRecDepth 100000
set_option maxHeartbeats 16000000
namespace Go.Proofs.YtamkkhlabfahmaaGreatDoor
open Go.RowKit Go.Ab
attribute [local go_sem] Oper.semAt_some wide_fn wide_depth

theorem fact_step {F : World → Prop} {A B : World} (h : Hid (∀ D, Ext A D → F D)) (e : Ext A B) : Hid (∀ D, Ext B D → F D) := Lib.hid fun D hD => h.out D (e.trans hD)

theorem lknown_any (w : World) (hT : Tab w) : Calls Tryz.prog 3 #[] w fun e w' => e = .returned (.bool true) ∧ Ext w w' := by
 have TB : Hid (∀ D, Ext w D → Tab D) := Lib.hid fun D hD => hT.keep hD id
 have EW : Hid (∀ D, Ext w D → Ext w D) := Lib.hid fun D hD => hD
 clear hT
 go_enter Tryz.func3, Tryz.ntmps3
 go_wp2_with fail
 refine (la_any _).mono ?_
 rintro e V1 ⟨rfl, hN⟩
 replace EW := fact_step EW (hN)
 clear hN
 go_upto_region 2 with (refine wpList_store_row rfl 34 (.tmp 1) (.tmp 24) rfl _ #[.string ⟨#[69]⟩, .int .i64 2, .int .u32 0, .int .u32 0, .bool false, .int .i64 0, .int .i64 0, .slice none 0 0, .int .i64 0, .int .u32 0, .int .u32 0, .bool false, .int .i64 0, .int .i64 0, .slice none 0 0, .slice none 0 0, .slice (some ⟨V1.heap.size, 0, none⟩) 1 1, .int .i64 1] rfl rfl _ _ (new_at (by simp)) (by kernel_rfl) rfl (by kernel_rfl) ?_)
 simp only [Act.put]
 obtain ⟨x1, hx1⟩ : ∃ D, (V1.alloc (.cells #[.int .i64 (-1), .int .u32 0, .int .u32 5, .int .u32 2, .int .u32 0, .int .i64 0] 30)).alloc (.cells #[.string ⟨#[]⟩, .int .i64 0, .int .u32 0, .int .u32 0, .bool false, .int .i64 0, .int .i64 0, .slice none 0 0, .int .i64 0, .int .u32 0, .int .u32 0, .bool false, .int .i64 0, .int .i64 0, .slice none 0 0, .slice none 0 0, .slice none 0 0, .int .i64 0] 34) = D := ⟨_, rfl⟩
 have hEx : Ext V1 x1 := by rw [← hx1]; exact (((Turn.refl _ V1).alloc _)).alloc _
 have hi0 : x1.heap[V1.heap.size]? = some (.cells #[.int .i64 (-1), .int .u32 0, .int .u32 5, .int .u32 2, .int .u32 0, .int .i64 0] 30 (0, 0)) := by rw [← hx1]; exact new_keep (new_at rfl)
 have hl1 : x1.heap[V1.heap.size + 1]? = some (.cells #[.string ⟨#[]⟩, .int .i64 0, .int .u32 0, .int .u32 0, .bool false, .int .i64 0, .int .i64 0, .slice none 0 0, .int .i64 0, .int .u32 0, .int .u32 0, .bool false, .int .i64 0, .int .i64 0, .slice none 0 0, .slice none 0 0, .slice none 0 0, .int .i64 0] 34 (0, 0)) := by rw [← hx1]; exact new_at (by simp)
 rw [hx1]
 obtain ⟨gr0, hgr0⟩ : ∃ b, V1.heap.size = b := ⟨_, rfl⟩
 rw [hgr0] at hi0 hl1 ⊢
 obtain ⟨B1, hLB⟩ : ∃ b, gr0 + 1 = b := ⟨_, rfl⟩
 rw [hLB] at hl1 ⊢
 have hT2 := Turn.setRow x1 B1 #[.string ⟨#[69]⟩, .int .i64 2, .int .u32 0, .int .u32 0, .bool false, .int .i64 0, .int .i64 0, .slice none 0 0, .int .i64 0, .int .u32 0, .int .u32 0, .bool false, .int .i64 0, .int .i64 0, .slice none 0 0, .slice none 0 0, .slice (some ⟨gr0, 0, none⟩) 1 1, .int .i64 1]
 have hl2 := setRow_heap _ _ _ #[.string ⟨#[69]⟩, .int .i64 2, .int .u32 0, .int .u32 0, .bool false, .int .i64 0, .int .i64 0, .slice none 0 0, .int .i64 0, .int .u32 0, .int .u32 0, .bool false, .int .i64 0, .int .i64 0, .slice none 0 0, .slice none 0 0, .slice (some ⟨gr0, 0, none⟩) 1 1, .int .i64 1] _ _ hl1
 have hj0 := hT2.heap hi0 (by omega)
 have hN : Ext V1 (x1.setRow B1 #[.string ⟨#[69]⟩, .int .i64 2, .int .u32 0, .int .u32 0, .bool false, .int .i64 0, .int .i64 0, .slice none 0 0, .int .i64 0, .int .u32 0, .int .u32 0, .bool false, .int .i64 0, .int .i64 0, .slice none 0 0, .slice none 0 0, .slice (some ⟨gr0, 0, none⟩) 1 1, .int .i64 1]) := hEx.after hT2 (fun b hb e => by omega)
 obtain ⟨V2, hw⟩ : ∃ D, x1.setRow B1 #[.string ⟨#[69]⟩, .int .i64 2, .int .u32 0, .int .u32 0, .bool false, .int .i64 0, .int .i64 0, .slice none 0 0, .int .i64 0, .int .u32 0, .int .u32 0, .bool false, .int .i64 0, .int .i64 0, .slice none 0 0, .slice none 0 0, .slice (some ⟨gr0, 0, none⟩) 1 1, .int .i64 1] = D := ⟨_, rfl⟩
 rw [hw] at hl2 hN hj0 ⊢
 replace EW := fact_step EW (hN)
 have R1 : Hid (∀ D, Ext V2 D → D.heap[B1]? = some (.cells #[.string ⟨#[69]⟩, .int .i64 2, .int .u32 0, .int .u32 0, .bool false, .int .i64 0, .int .i64 0, .slice none 0 0, .int .i64 0, .int .u32 0, .int .u32 0, .bool false, .int .i64 0, .int .i64 0, .slice none 0 0, .slice none 0 0, .slice (some ⟨gr0, 0, none⟩) 1 1, .int .i64 1] 34 (0, 0))) := Lib.hid (fun D hD => hD.keep hl2)
 have A1 : Hid (∀ D, Ext V2 D → LawAt D growD [.string ⟨#[69]⟩, .int .i64 2, .int .u32 0, .int .u32 0, .bool false, .int .i64 0, .int .i64 0, .slice none 0 0, .int .i64 0, .int .u32 0, .int .u32 0, .bool false, .int .i64 0, .int .i64 0, .slice none 0 0, .slice none 0 0, .slice (some ⟨gr0, 0, none⟩) 1 1, .int .i64 1]) := Lib.hid (fun D hD => ⟨[.int .i64 2, .int .u32 0, .int .u32 0, .bool false, .int .i64 0, .int .i64 0, .slice none 0 0], [.int .i64 0, .int .u32 0, .int .u32 0, .bool false, .int .i64 0, .int .i64 0, .slice none 0 0], _, _, rfl, by decide, pat_leaf _ _ 2 (pl := 0) (mi := 0) false 0 0 (by decide) (by decide), pat_leaf _ _ 0 (pl := 0) (mi := 0) false 0 0 (by decide) (by decide), ⟨⟨rfl, by simp [maxLen], none, 0, rfl, fun h => by simp at h⟩, by simp [WdOk]⟩, rd_blk (xs := outL [⟨-1, 0, (5, 2), 0, 0⟩]) (hD.keep hj0) rfl (by decide), by simp [OutOk, lt32]⟩)
 clear hx1 hEx hl1 hLB hT2 hl2 hN hw hi0 hj0 hgr0
 go_wp2_with fail
 refine (lp_any _).mono ?_
 rintro e V3 ⟨rfl, hN⟩
 replace EW := fact_step EW (hN)
 replace R1 := fact_step R1 (hN)
 replace A1 := fact_step A1 (hN)
 clear hN
 go_wp2_with fail
 refine (la_any _).mono ?_
 rintro e V4 ⟨rfl, hN⟩
 replace EW := fact_step EW (hN)
 replace R1 := fact_step R1 (hN)
 replace A1 := fact_step A1 (hN)
 clear hN
 go_upto_region 3 with (fail)
 obtain ⟨V5, hV⟩ : ∃ D, V4.alloc (.cells #[.int .u32 2, .int .u32 5, .int .u32 5, .int .u32 2] 24) = D := ⟨_, rfl⟩
 have hN : Ext V4 V5 := by rw [← hV]; exact (Turn.refl _ V4).alloc _
 have hA : V5.heap[V4.heap.size]? = some (.cells (sndL wPa).toArray 24 (0, 0)) := by rw [← hV]; exact new_at rfl
 rw [hV]
 obtain ⟨gwp, hg⟩ : ∃ g, V4.heap.size = g := ⟨_, rfl⟩
 rw [hg] at hA ⊢
 replace EW := fact_step EW (hN)
 replace R1 := fact_step R1 (hN)
 replace A1 := fact_step A1 (hN)
 have wp : Hid (∀ D, Ext V5 D → WordAt D (.slice (some ⟨gwp, 0, none⟩) wPa.length 2) wPa) := Lib.hid (fun D hD => ⟨rd_blk (xs := sndL wPa) (hD.keep hA) rfl (by decide), by simp [WdOk]⟩)
 clear hV hA hg hN
 have hc := fun (D : World) (hD : Ext V5 D) => lapply_any (l := growD) (ws := wPa) (cs := [.string ⟨#[69]⟩, .int .i64 2, .int .u32 0, .int .u32 0, .bool false, .int .i64 0, .int .i64 0, .slice none 0 0, .int .i64 0, .int .u32 0, .int .u32 0, .bool false, .int .i64 0, .int .i64 0, .slice none 0 0, .slice none 0 0, .slice (some ⟨gr0, 0, none⟩) 1 1, .int .i64 1]) (A1.out D hD) (wp.out D hD) (by decide) (TB.out _ (EW.out _ hD))
 simp only [knownL_1.1, knownL_1.2] at hc
 have HC := Lib.hid hc
 clear hc
 have HROW : Hid (V5.heap[B1]? = some (.cells #[.string ⟨#[69]⟩, .int .i64 2, .int .u32 0, .int .u32 0, .bool false, .int .i64 0, .int .i64 0, .slice none 0 0, .int .i64 0, .int .u32 0, .int .u32 0, .bool false, .int .i64 0, .int .i64 0, .slice none 0 0, .slice none 0 0, .slice (some ⟨gr0, 0, none⟩) 1 1, .int .i64 1] 34 (0, 0))) := Lib.hid (R1.out _ (Turn.refl _ V5))
 go_wp2_with (refine wpList_load_row rfl 34 (.tmp 1) rfl B1 rfl _ _ _ _ HROW.out Tryz.underlying34 rfl Tryz.lawInfo ?_)
 refine (HC.out _ (Turn.refl _ _)).mono ?_
 rintro e V6 ⟨xxu, rfl, ⟨xxo, xxc, hq, xxw, _⟩, hN⟩
 replace EW := fact_step EW (hN)
 replace R1 := fact_step R1 (hN)
 replace A1 := fact_step A1 (hN)
 replace wp := fact_step wp (hN)
 clear HROW
 clear HC
 have hq : xxu = .slice xxo 3 xxc := hq
 subst hq
 have xx : Hid (∀ D, Ext V6 D → WordAt D (.slice xxo wApaL.length xxc) wApaL) := Lib.hid (fun D hD => xxw.ext hD)
 clear xxw
 clear hN
 have hc := fun (D : World) (hD : Ext V6 D) => lsettle_any (l := growD) (ws := wPa) (cs := [.string ⟨#[69]⟩, .int .i64 2, .int .u32 0, .int .u32 0, .bool false, .int .i64 0, .int .i64 0, .slice none 0 0, .int .i64 0, .int .u32 0, .int .u32 0, .bool false, .int .i64 0, .int .i64 0, .slice none 0 0, .slice none 0 0, .slice (some ⟨gr0, 0, none⟩) 1 1, .int .i64 1]) (A1.out D hD) (wp.out D hD) (TB.out _ (EW.out _ hD)) 3
 simp only [knownL_2] at hc
 have HC := Lib.hid hc
 clear hc
 have HROW : Hid (V6.heap[B1]? = some (.cells #[.string ⟨#[69]⟩, .int .i64 2, .int .u32 0, .int .u32 0, .bool false, .int .i64 0, .int .i64 0, .slice none 0 0, .int .i64 0, .int .u32 0, .int .u32 0, .bool false, .int .i64 0, .int .i64 0, .slice none 0 0, .slice none 0 0, .slice (some ⟨gr0, 0, none⟩) 1 1, .int .i64 1] 34 (0, 0))) := Lib.hid (R1.out _ (Turn.refl _ V6))
 go_wp2_with (refine wpList_load_row rfl 34 (.tmp 1) rfl B1 rfl _ _ _ _ HROW.out Tryz.underlying34 rfl Tryz.lawInfo ?_)
 refine (HC.out _ (Turn.refl _ _)).mono ?_
 rintro e V7 ⟨yu, rfl, ⟨yo, yc, hq, yw, _⟩, hN⟩
 replace EW := fact_step EW (hN)
 replace R1 := fact_step R1 (hN)
 replace A1 := fact_step A1 (hN)
 replace wp := fact_step wp (hN)
 replace xx := fact_step xx (hN)
 clear HROW
 clear HC
 have hq : yu = .slice yo 5 yc := hq
 subst hq
 have y : Hid (∀ D, Ext V7 D → WordAt D (.slice yo wAaapa.length yc) wAaapa) := Lib.hid (fun D hD => yw.ext hD)
 clear yw
 clear hN
 have hc := fun (D : World) (hD : Ext V7 D) => lkind_any (l := growD) (cs := [.string ⟨#[69]⟩, .int .i64 2, .int .u32 0, .int .u32 0, .bool false, .int .i64 0, .int .i64 0, .slice none 0 0, .int .i64 0, .int .u32 0, .int .u32 0, .bool false, .int .i64 0, .int .i64 0, .slice none 0 0, .slice none 0 0, .slice (some ⟨gr0, 0, none⟩) 1 1, .int .i64 1]) (A1.out D hD) (TB.out _ (EW.out _ hD))
 simp only [knownL_3.1, knownL_3.2] at hc
 have HC := Lib.hid hc
 clear hc
 have HROW : Hid (V7.heap[B1]? = some (.cells #[.string ⟨#[69]⟩, .int .i64 2, .int .u32 0, .int .u32 0, .bool false, .int .i64 0, .int .i64 0, .slice none 0 0, .int .i64 0, .int .u32 0, .int .u32 0, .bool false, .int .i64 0, .int .i64 0, .slice none 0 0, .slice none 0 0, .slice (some ⟨gr0, 0, none⟩) 1 1, .int .i64 1] 34 (0, 0))) := Lib.hid (R1.out _ (Turn.refl _ V7))
 go_wp2_with (refine wpList_load_row rfl 34 (.tmp 1) rfl B1 rfl _ _ _ _ HROW.out Tryz.underlying34 rfl Tryz.lawInfo ?_)
 refine (HC.out _ (Turn.refl _ _)).mono ?_
 rintro e V8 ⟨rfl, hN⟩
 replace EW := fact_step EW (hN)
 replace R1 := fact_step R1 (hN)
 replace A1 := fact_step A1 (hN)
 replace wp := fact_step wp (hN)
 replace xx := fact_step xx (hN)
 replace y := fact_step y (hN)
 clear HROW
 clear HC
 clear hN
 clear R1 A1 y
 go_upto_region 7 with (refine wpList_store_row rfl 34 (.tmp 10) (.tmp 52) rfl _ #[.string ⟨#[77]⟩, .int .i64 0, .int .u32 0, .int .u32 0, .bool false, .int .i64 0, .int .i64 0, .slice none 0 0, .int .i64 0, .int .u32 0, .int .u32 0, .bool false, .int .i64 0, .int .i64 0, .slice none 0 0, .slice (some ⟨V8.heap.size, 0, none⟩) 2 2, .slice (some ⟨V8.heap.size + 1, 0, none⟩) 2 2, .int .i64 1] rfl rfl _ _ (new_at (by simp)) (by kernel_rfl) rfl (by kernel_rfl) ?_)
 simp only [Act.put]
 obtain ⟨x1, hx1⟩ : ∃ D, ((V8.alloc (.cells #[.int .u32 2, .int .u32 0, .int .u32 4, .int .u32 0] 24)).alloc (.cells #[.int .i64 1, .int .u32 0, .int .u32 0, .int .u32 0, .int .u32 0, .int .i64 0, .int .i64 0, .int .u32 0, .int .u32 0, .int .u32 0, .int .u32 0, .int .i64 0] 30)).alloc (.cells #[.string ⟨#[]⟩, .int .i64 0, .int .u32 0, .int .u32 0, .bool false, .int .i64 0, .int .i64 0, .slice none 0 0, .int .i64 0, .int .u32 0, .int .u32 0, .bool false, .int .i64 0, .int .i64 0, .slice none 0 0, .slice none 0 0, .slice none 0 0, .int .i64 0] 34) = D := ⟨_, rfl⟩
 have hEx : Ext V8 x1 := by rw [← hx1]; exact ((((Turn.refl _ V8).alloc _)).alloc _).alloc _
 have hi0 : x1.heap[V8.heap.size]? = some (.cells #[.int .u32 2, .int .u32 0, .int .u32 4, .int .u32 0] 24 (0, 0)) := by rw [← hx1]; exact new_keep (new_keep (new_at rfl))
 have hi1 : x1.heap[V8.heap.size + 1]? = some (.cells #[.int .i64 1, .int .u32 0, .int .u32 0, .int .u32 0, .int .u32 0, .int .i64 0, .int .i64 0, .int .u32 0, .int .u32 0, .int .u32 0, .int .u32 0, .int .i64 0] 30 (0, 0)) := by rw [← hx1]; exact new_keep (new_at (by simp))
 have hl1 : x1.heap[V8.heap.size + 2]? = some (.cells #[.string ⟨#[]⟩, .int .i64 0, .int .u32 0, .int .u32 0, .bool false, .int .i64 0, .int .i64 0, .slice none 0 0, .int .i64 0, .int .u32 0, .int .u32 0, .bool false, .int .i64 0, .int .i64 0, .slice none 0 0, .slice none 0 0, .slice none 0 0, .int .i64 0] 34 (0, 0)) := by rw [← hx1]; exact new_at (by simp)
 rw [hx1]
 try simp only [Nat.add_assoc, Nat.reduceAdd]
 obtain ⟨sw0, hsw0⟩ : ∃ b, V8.heap.size = b := ⟨_, rfl⟩
 rw [hsw0] at hi0 hi1 hl1 ⊢
 obtain ⟨sw1, hsw1⟩ : ∃ b, sw0 + 1 = b := ⟨_, rfl⟩
 rw [hsw1] at hi1 ⊢
 obtain ⟨B2, hLB⟩ : ∃ b, sw0 + 2 = b := ⟨_, rfl⟩
 rw [hLB] at hl1 ⊢
 have hT2 := Turn.setRow x1 B2 #[.string ⟨#[77]⟩, .int .i64 0, .int .u32 0, .int .u32 0, .bool false, .int .i64 0, .int .i64 0, .slice none 0 0, .int .i64 0, .int .u32 0, .int .u32 0, .bool false, .int .i64 0, .int .i64 0, .slice none 0 0, .slice (some ⟨sw0, 0, none⟩) 2 2, .slice (some ⟨sw1, 0, none⟩) 2 2, .int .i64 1]
 have hl2 := setRow_heap _ _ _ #[.string ⟨#[77]⟩, .int .i64 0, .int .u32 0, .int .u32 0, .bool false, .int .i64 0, .int .i64 0, .slice none 0 0, .int .i64 0, .int .u32 0, .int .u32 0, .bool false, .int .i64 0, .int .i64 0, .slice none 0 0, .slice (some ⟨sw0, 0, none⟩) 2 2, .slice (some ⟨sw1, 0, none⟩) 2 2, .int .i64 1] _ _ hl1
 have hj0 := hT2.heap hi0 (by omega)
 have hj1 := hT2.heap hi1 (by omega)
 have hN : Ext V8 (x1.setRow B2 #[.string ⟨#[77]⟩, .int .i64 0, .int .u32 0, .int .u32 0, .bool false, .int .i64 0, .int .i64 0, .slice none 0 0, .int .i64 0, .int .u32 0, .int .u32 0, .bool false, .int .i64 0, .int .i64 0, .slice none 0 0, .slice (some ⟨sw0, 0, none⟩) 2 2, .slice (some ⟨sw1, 0, none⟩) 2 2, .int .i64 1]) := hEx.after hT2 (fun b hb e => by omega)
 obtain ⟨V9, hw⟩ : ∃ D, x1.setRow B2 #[.string ⟨#[77]⟩, .int .i64 0, .int .u32 0, .int .u32 0, .bool false, .int .i64 0, .int .i64 0, .slice none 0 0, .int .i64 0, .int .u32 0, .int .u32 0, .bool false, .int .i64 0, .int .i64 0, .slice none 0 0, .slice (some ⟨sw0, 0, none⟩) 2 2, .slice (some ⟨sw1, 0, none⟩) 2 2, .int .i64 1] = D := ⟨_, rfl⟩
 rw [hw] at hl2 hN hj0 hj1 ⊢
 replace EW := fact_step EW (hN)
 replace wp := fact_step wp (hN)
 replace xx := fact_step xx (hN)
 have R2 : Hid (∀ D, Ext V9 D → D.heap[B2]? = some (.cells #[.string ⟨#[77]⟩, .int .i64 0, .int .u32 0, .int .u32 0, .bool false, .int .i64 0, .int .i64 0, .slice none 0 0, .int .i64 0, .int .u32 0, .int .u32 0, .bool false, .int .i64 0, .int .i64 0, .slice none 0 0, .slice (some ⟨sw0, 0, none⟩) 2 2, .slice (some ⟨sw1, 0, none⟩) 2 2, .int .i64 1] 34 (0, 0))) := Lib.hid (fun D hD => hD.keep hl2)
 have A2 : Hid (∀ D, Ext V9 D → LawAt D swapD [.string ⟨#[77]⟩, .int .i64 0, .int .u32 0, .int .u32 0, .bool false, .int .i64 0, .int .i64 0, .slice none 0 0, .int .i64 0, .int .u32 0, .int .u32 0, .bool false, .int .i64 0, .int .i64 0, .slice none 0 0, .slice (some ⟨sw0, 0, none⟩) 2 2, .slice (some ⟨sw1, 0, none⟩) 2 2, .int .i64 1]) := Lib.hid (fun D hD => ⟨[.int .i64 0, .int .u32 0, .int .u32 0, .bool false, .int .i64 0, .int .i64 0, .slice none 0 0], [.int .i64 0, .int .u32 0, .int .u32 0, .bool false, .int .i64 0, .int .i64 0, .slice none 0 0], _, _, rfl, by decide, pat_leaf _ _ 0 (pl := 0) (mi := 0) false 0 0 (by decide) (by decide), pat_leaf _ _ 0 (pl := 0) (mi := 0) false 0 0 (by decide) (by decide), ⟨rd_blk (xs := sndL [(2, 0), (4, 0)]) (hD.keep hj0) rfl (by decide), by simp [WdOk]⟩, rd_blk (xs := outL [⟨1, 0, (0, 0), 0, 0⟩, ⟨0, 0, (0, 0), 0, 0⟩]) (hD.keep hj1) rfl (by decide), by simp [OutOk, lt32]⟩)
 clear hx1 hEx hl1 hLB hT2 hl2 hN hw hi0 hj0 hsw0 hi1 hj1 hsw1
 go_upto_region 7 with (fail)
 obtain ⟨V10, hV⟩ : ∃ D, V9.drew = D := ⟨_, rfl⟩
 have hN : Ext V9 V10 := by rw [← hV]; exact (Turn.refl _ V9).drew
 replace EW := fact_step EW (hN)
 replace wp := fact_step wp (hN)
 replace xx := fact_step xx (hN)
 replace R2 := fact_step R2 (hN)
 replace A2 := fact_step A2 (hN)
 clear hN
 refine wp_region_late (S := fun D => D.heap[B2]? = some (.cells #[.string ⟨#[77]⟩, .int .i64 0, .int .u32 0, .int .u32 0, .bool false, .int .i64 0, .int .i64 0, .slice none 0 0, .int .i64 0, .int .u32 0, .int .u32 0, .bool false, .int .i64 0, .int .i64 0, .slice none 0 0, .slice (some ⟨sw0, 0, none⟩) 2 2, .slice (some ⟨sw1, 0, none⟩) 2 2, .int .i64 1] 34 (0, 0))) [] (by kernel_rfl) (by rw [hV]; exact R2.out _ (Turn.refl _ _)) ?_
 intro _
 have hS10 := R2.out _ (Turn.refl _ _)
 rw [hV]
 clear hV
 refine tkE (i := 0) (d := 54) (v := ?_) rfl (Or.inl ⟨by rfl, ?_⟩) hS10 ?_
 rotate_left
 ·intro w hSw; (try dsimp only at hSw); have hrow := hSw; refine exec_load_row (x := .tmp 10) ?_ B2 ?_ _ _ _ hrow Tryz.underlying34 Tryz.lawInfo <;> rfl
 try simp only [Act.put, pq]
 refine wpAnyE_ready (rs := [1]) (by kernel_rfl) (by simp) ?_
 refine AllReadyE.cons rfl (fun K hK => ?_) AllReadyE.nil
 (try rw [if_pos (show Region.wanted _ _ = true from rfl)])
 go_simp
 refine (lp_any _).mono ?_
 rintro e V11 ⟨rfl, hN⟩
 replace EW := fact_step EW (hN)
 replace wp := fact_step wp (hN)
 replace xx := fact_step xx (hN)
 replace R2 := fact_step R2 (hN)
 replace A2 := fact_step A2 (hN)
 refine hK.out _ _ (R2.out _ (Turn.refl _ _)) (fun hS11 => ?_)
 clear hK K hN
 try simp only [Act.put, pq]
 refine wpAnyE_ready (rs := [2]) (by kernel_rfl) (by simp) ?_
 refine AllReadyE.cons rfl (fun K hK => ?_) AllReadyE.nil
 (try rw [if_pos (show Region.wanted _ _ = true from rfl)])
 go_simp
 refine (la_any _).mono ?_
 rintro e V12 ⟨rfl, hN⟩
 replace EW := fact_step EW (hN)
 replace wp := fact_step wp (hN)
 replace xx := fact_step xx (hN)
 replace R2 := fact_step R2 (hN)
 replace A2 := fact_step A2 (hN)
 refine hK.out _ _ (R2.out _ (Turn.refl _ _)) (fun hS12 => ?_)
 clear hK K hN
 try simp only [Act.put, pq]
 refine wpAnyE_ready (rs := [3]) (by kernel_rfl) (by simp) ?_
 refine AllReadyE.cons rfl (fun K hK => ?_) AllReadyE.nil
 (try rw [if_pos (show Region.wanted _ _ = true from rfl)])
 go_simp
 refine (lp_any _).mono ?_
 rintro e V13 ⟨rfl, hN⟩
 replace EW := fact_step EW (hN)
 replace wp := fact_step wp (hN)
 replace xx := fact_step xx (hN)
 replace R2 := fact_step R2 (hN)
 replace A2 := fact_step A2 (hN)
 refine hK.out _ _ (R2.out _ (Turn.refl _ _)) (fun hS13 => ?_)
 clear hK K hN
 try simp only [Act.put, pq]
 refine wpAnyE_ready (rs := [4]) (by kernel_rfl) (by simp) ?_
 refine AllReadyE.cons rfl (fun K hK => ?_) AllReadyE.nil
 (try rw [if_pos (show Region.wanted _ _ = true from rfl)])
 go_simp
 refine (la_any _).mono ?_
 rintro e V14 ⟨rfl, hN⟩
 replace EW := fact_step EW (hN)
 replace wp := fact_step wp (hN)
 replace xx := fact_step xx (hN)
 replace R2 := fact_step R2 (hN)
 replace A2 := fact_step A2 (hN)
 refine hK.out _ _ (R2.out _ (Turn.refl _ _)) (fun hS14 => ?_)
 clear hK K hN
 try simp only [Act.put, pq]
 refine wpAnyE_ready (rs := [5]) (by kernel_rfl) (by simp) ?_
 refine AllReadyE.cons rfl (fun K hK => ?_) AllReadyE.nil
 (try rw [if_pos (show Region.wanted _ _ = true from rfl)])
 go_simp
 obtain ⟨V15, hV⟩ : ∃ D, V14.alloc (.cells #[.int .u32 2, .int .u32 5, .int .u32 5, .int .u32 2, .int .u32 2, .int .u32 5, .int .u32 5, .int .u32 2] 24) = D := ⟨_, rfl⟩
 have hN : Ext V14 V15 := by rw [← hV]; exact (Turn.refl _ V14).alloc _
 have hA : V15.heap[V14.heap.size]? = some (.cells (sndL wPapa).toArray 24 (0, 0)) := by rw [← hV]; exact new_at rfl
 rw [hV]
 obtain ⟨gwq, hg⟩ : ∃ g, V14.heap.size = g := ⟨_, rfl⟩
 rw [hg] at hA ⊢
 replace EW := fact_step EW (hN)
 replace wp := fact_step wp (hN)
 replace xx := fact_step xx (hN)
 replace R2 := fact_step R2 (hN)
 replace A2 := fact_step A2 (hN)
 have wq : Hid (∀ D, Ext V15 D → WordAt D (.slice (some ⟨gwq, 0, none⟩) wPapa.length 4) wPapa) := Lib.hid (fun D hD => ⟨rd_blk (xs := sndL wPapa) (hD.keep hA) rfl (by decide), by simp [WdOk]⟩)
 clear hV hA hg hN
 refine hK.out _ _ (R2.out _ (Turn.refl _ _)) (fun hS15 => ?_)
 clear hK K
 try simp only [Act.put, pq]
 refine wpAnyE_ready (rs := [6]) (by kernel_rfl) (by simp) ?_
 refine AllReadyE.cons rfl (fun K hK => ?_) AllReadyE.nil
 (try rw [if_pos (show Region.wanted _ _ = true from rfl)])
 go_simp
 have hc := lapply_any (l := swapD) (ws := wPapa) (cs := [.string ⟨#[77]⟩, .int .i64 0, .int .u32 0, .int .u32 0, .bool false, .int .i64 0, .int .i64 0, .slice none 0 0, .int .i64 0, .int .u32 0, .int .u32 0, .bool false, .int .i64 0, .int .i64 0, .slice none 0 0, .slice (some ⟨sw0, 0, none⟩) 2 2, .slice (some ⟨sw1, 0, none⟩) 2 2, .int .i64 1]) (A2.out _ (Turn.refl _ V15)) (wq.out _ (Turn.refl _ V15)) (by decide) (TB.out _ (EW.out _ (Turn.refl _ V15)))
 rw [knownL_4.1, knownL_4.2] at hc
 refine hc.mono ?_
 clear hc
 rintro e V16 ⟨zzu, rfl, ⟨zzo, zzc, hq, zzw, _⟩, hN⟩
 replace EW := fact_step EW (hN)
 replace wp := fact_step wp (hN)
 replace xx := fact_step xx (hN)
 replace R2 := fact_step R2 (hN)
 replace A2 := fact_step A2 (hN)
 replace wq := fact_step wq (hN)
 have hq : zzu = .slice zzo 4 zzc := hq
 subst hq
 have zz : Hid (∀ D, Ext V16 D → WordAt D (.slice zzo wApap.length zzc) wApap) := Lib.hid (fun D hD => zzw.ext hD)
 clear zzw
 refine hK.out _ _ (R2.out _ (Turn.refl _ _)) (fun hS16 => ?_)
 clear hK K hN
 try simp only [Act.put, pq]
 refine tkE (i := 7) (d := 53) (v := ?_) rfl (Or.inl ⟨by rfl, ?_⟩) hS16 ?_
 rotate_left
 ·intro w hSw; (try dsimp only at hSw); go_simp; try with_reducible rfl
 try simp only [Act.put, pq]
 refine tkE (i := 8) (d := 61) (v := ?_) rfl (Or.inl ⟨by rfl, ?_⟩) hS16 ?_
 rotate_left
 ·intro w hSw; (try dsimp only at hSw); go_simp; try with_reducible rfl
 try simp only [Act.put, pq]
 refine tkE (i := 9) (d := 62) (v := ?_) rfl (Or.inl ⟨by rfl, ?_⟩) hS16 ?_
 rotate_left
 ·intro w hSw; (try dsimp only at hSw); go_simp; try with_reducible rfl
 try simp only [Act.put, pq]
 refine tkE (i := 10) (d := 11) (v := ?_) rfl (Or.inl ⟨by rfl, ?_⟩) hS16 ?_
 rotate_left
 ·intro w hSw; (try dsimp only at hSw); go_simp; try with_reducible rfl
 try simp only [Act.put, pq]
 refine tkE (i := 11) (d := 12) (v := ?_) rfl (Or.inl ⟨by rfl, ?_⟩) hS16 ?_
 rotate_left
 ·intro w hSw; (try dsimp only at hSw); go_simp; try with_reducible rfl
 try simp only [Act.put, pq]
 refine wpAnyE_done (by kernel_rfl) ?_ _
 clear wq
 have hc := fun (D : World) (hD : Ext V16 D) => lkind_any (l := swapD) (cs := [.string ⟨#[77]⟩, .int .i64 0, .int .u32 0, .int .u32 0, .bool false, .int .i64 0, .int .i64 0, .slice none 0 0, .int .i64 0, .int .u32 0, .int .u32 0, .bool false, .int .i64 0, .int .i64 0, .slice none 0 0, .slice (some ⟨sw0, 0, none⟩) 2 2, .slice (some ⟨sw1, 0, none⟩) 2 2, .int .i64 1]) (A2.out D hD) (TB.out _ (EW.out _ hD))
 simp only [knownL_5.1, knownL_5.2] at hc
 have HC := Lib.hid hc
 clear hc
 have HROW : Hid (V16.heap[B2]? = some (.cells #[.string ⟨#[77]⟩, .int .i64 0, .int .u32 0, .int .u32 0, .bool false, .int .i64 0, .int .i64 0, .slice none 0 0, .int .i64 0, .int .u32 0, .int .u32 0, .bool false, .int .i64 0, .int .i64 0, .slice none 0 0, .slice (some ⟨sw0, 0, none⟩) 2 2, .slice (some ⟨sw1, 0, none⟩) 2 2, .int .i64 1] 34 (0, 0))) := Lib.hid (R2.out _ (Turn.refl _ V16))
 go_wp2_with (refine wpList_load_row rfl 34 (.tmp 10) rfl B2 rfl _ _ _ _ HROW.out Tryz.underlying34 rfl Tryz.lawInfo ?_)
 refine (HC.out _ (Turn.refl _ _)).mono ?_
 rintro e V17 ⟨rfl, hN⟩
 replace EW := fact_step EW (hN)
 replace wp := fact_step wp (hN)
 replace xx := fact_step xx (hN)
 replace R2 := fact_step R2 (hN)
 replace A2 := fact_step A2 (hN)
 replace zz := fact_step zz (hN)
 clear HROW
 clear HC
 clear hN
 go_upto_region 10 with (refine wpList_store_row rfl 34 (.tmp 15) (.tmp 74) rfl _ #[.string ⟨#[84]⟩, .int .i64 0, .int .u32 0, .int .u32 0, .bool false, .int .i64 0, .int .i64 0, .slice none 0 0, .int .i64 0, .int .u32 0, .int .u32 0, .bool false, .int .i64 0, .int .i64 0, .slice none 0 0, .slice (some ⟨V17.heap.size, 0, none⟩) 2 2, .slice (some ⟨V17.heap.size + 1, 0, none⟩) 2 2, .int .i64 3] rfl rfl _ _ (new_at (by simp)) (by kernel_rfl) rfl (by kernel_rfl) ?_)
 simp only [Act.put]
 obtain ⟨x1, hx1⟩ : ∃ D, ((V17.alloc (.cells #[.int .u32 2, .int .u32 0, .int .u32 2, .int .u32 0] 24)).alloc (.cells #[.int .i64 0, .int .u32 0, .int .u32 0, .int .u32 0, .int .u32 1, .int .i64 1, .int .i64 1, .int .u32 0, .int .u32 0, .int .u32 0, .int .u32 0, .int .i64 0] 30)).alloc (.cells #[.string ⟨#[]⟩, .int .i64 0, .int .u32 0, .int .u32 0, .bool false, .int .i64 0, .int .i64 0, .slice none 0 0, .int .i64 0, .int .u32 0, .int .u32 0, .bool false, .int .i64 0, .int .i64 0, .slice none 0 0, .slice none 0 0, .slice none 0 0, .int .i64 0] 34) = D := ⟨_, rfl⟩
 have hEx : Ext V17 x1 := by rw [← hx1]; exact ((((Turn.refl _ V17).alloc _)).alloc _).alloc _
 have hi0 : x1.heap[V17.heap.size]? = some (.cells #[.int .u32 2, .int .u32 0, .int .u32 2, .int .u32 0] 24 (0, 0)) := by rw [← hx1]; exact new_keep (new_keep (new_at rfl))
 have hi1 : x1.heap[V17.heap.size + 1]? = some (.cells #[.int .i64 0, .int .u32 0, .int .u32 0, .int .u32 0, .int .u32 1, .int .i64 1, .int .i64 1, .int .u32 0, .int .u32 0, .int .u32 0, .int .u32 0, .int .i64 0] 30 (0, 0)) := by rw [← hx1]; exact new_keep (new_at (by simp))
 have hl1 : x1.heap[V17.heap.size + 2]? = some (.cells #[.string ⟨#[]⟩, .int .i64 0, .int .u32 0, .int .u32 0, .bool false, .int .i64 0, .int .i64 0, .slice none 0 0, .int .i64 0, .int .u32 0, .int .u32 0, .bool false, .int .i64 0, .int .i64 0, .slice none 0 0, .slice none 0 0, .slice none 0 0, .int .i64 0] 34 (0, 0)) := by rw [← hx1]; exact new_at (by simp)
 rw [hx1]
 try simp only [Nat.add_assoc, Nat.reduceAdd]
 obtain ⟨ta0, hta0⟩ : ∃ b, V17.heap.size = b := ⟨_, rfl⟩
 rw [hta0] at hi0 hi1 hl1 ⊢
 obtain ⟨ta1, hta1⟩ : ∃ b, ta0 + 1 = b := ⟨_, rfl⟩
 rw [hta1] at hi1 ⊢
 obtain ⟨B3, hLB⟩ : ∃ b, ta0 + 2 = b := ⟨_, rfl⟩
 rw [hLB] at hl1 ⊢
 have hT2 := Turn.setRow x1 B3 #[.string ⟨#[84]⟩, .int .i64 0, .int .u32 0, .int .u32 0, .bool false, .int .i64 0, .int .i64 0, .slice none 0 0, .int .i64 0, .int .u32 0, .int .u32 0, .bool false, .int .i64 0, .int .i64 0, .slice none 0 0, .slice (some ⟨ta0, 0, none⟩) 2 2, .slice (some ⟨ta1, 0, none⟩) 2 2, .int .i64 3]
 have hl2 := setRow_heap _ _ _ #[.string ⟨#[84]⟩, .int .i64 0, .int .u32 0, .int .u32 0, .bool false, .int .i64 0, .int .i64 0, .slice none 0 0, .int .i64 0, .int .u32 0, .int .u32 0, .bool false, .int .i64 0, .int .i64 0, .slice none 0 0, .slice (some ⟨ta0, 0, none⟩) 2 2, .slice (some ⟨ta1, 0, none⟩) 2 2, .int .i64 3] _ _ hl1
 have hj0 := hT2.heap hi0 (by omega)
 have hj1 := hT2.heap hi1 (by omega)
 have hN : Ext V17 (x1.setRow B3 #[.string ⟨#[84]⟩, .int .i64 0, .int .u32 0, .int .u32 0, .bool false, .int .i64 0, .int .i64 0, .slice none 0 0, .int .i64 0, .int .u32 0, .int .u32 0, .bool false, .int .i64 0, .int .i64 0, .slice none 0 0, .slice (some ⟨ta0, 0, none⟩) 2 2, .slice (some ⟨ta1, 0, none⟩) 2 2, .int .i64 3]) := hEx.after hT2 (fun b hb e => by omega)
 obtain ⟨V18, hw⟩ : ∃ D, x1.setRow B3 #[.string ⟨#[84]⟩, .int .i64 0, .int .u32 0, .int .u32 0, .bool false, .int .i64 0, .int .i64 0, .slice none 0 0, .int .i64 0, .int .u32 0, .int .u32 0, .bool false, .int .i64 0, .int .i64 0, .slice none 0 0, .slice (some ⟨ta0, 0, none⟩) 2 2, .slice (some ⟨ta1, 0, none⟩) 2 2, .int .i64 3] = D := ⟨_, rfl⟩
 rw [hw] at hl2 hN hj0 hj1 ⊢
 replace EW := fact_step EW (hN)
 replace wp := fact_step wp (hN)
 replace xx := fact_step xx (hN)
 replace R2 := fact_step R2 (hN)
 replace A2 := fact_step A2 (hN)
 replace zz := fact_step zz (hN)
 have R3 : Hid (∀ D, Ext V18 D → D.heap[B3]? = some (.cells #[.string ⟨#[84]⟩, .int .i64 0, .int .u32 0, .int .u32 0, .bool false, .int .i64 0, .int .i64 0, .slice none 0 0, .int .i64 0, .int .u32 0, .int .u32 0, .bool false, .int .i64 0, .int .i64 0, .slice none 0 0, .slice (some ⟨ta0, 0, none⟩) 2 2, .slice (some ⟨ta1, 0, none⟩) 2 2, .int .i64 3] 34 (0, 0))) := Lib.hid (fun D hD => hD.keep hl2)
 have A3 : Hid (∀ D, Ext V18 D → LawAt D takeD [.string ⟨#[84]⟩, .int .i64 0, .int .u32 0, .int .u32 0, .bool false, .int .i64 0, .int .i64 0, .slice none 0 0, .int .i64 0, .int .u32 0, .int .u32 0, .bool false, .int .i64 0, .int .i64 0, .slice none 0 0, .slice (some ⟨ta0, 0, none⟩) 2 2, .slice (some ⟨ta1, 0, none⟩) 2 2, .int .i64 3]) := Lib.hid (fun D hD => ⟨[.int .i64 0, .int .u32 0, .int .u32 0, .bool false, .int .i64 0, .int .i64 0, .slice none 0 0], [.int .i64 0, .int .u32 0, .int .u32 0, .bool false, .int .i64 0, .int .i64 0, .slice none 0 0], _, _, rfl, by decide, pat_leaf _ _ 0 (pl := 0) (mi := 0) false 0 0 (by decide) (by decide), pat_leaf _ _ 0 (pl := 0) (mi := 0) false 0 0 (by decide) (by decide), ⟨rd_blk (xs := sndL [(2, 0), (2, 0)]) (hD.keep hj0) rfl (by decide), by simp [WdOk]⟩, rd_blk (xs := outL [⟨0, 0, (0, 0), 1, 1⟩, ⟨1, 0, (0, 0), 0, 0⟩]) (hD.keep hj1) rfl (by decide), by simp [OutOk, lt32]⟩)
 clear hx1 hEx hl1 hLB hT2 hl2 hN hw hi0 hj0 hta0 hi1 hj1 hta1
 go_upto_region 10 with (fail)
 obtain ⟨V19, hV⟩ : ∃ D, V18.drew = D := ⟨_, rfl⟩
 have hN : Ext V18 V19 := by rw [← hV]; exact (Turn.refl _ V18).drew
 replace EW := fact_step EW (hN)
 replace wp := fact_step wp (hN)
 replace xx := fact_step xx (hN)
 replace R2 := fact_step R2 (hN)
 replace A2 := fact_step A2 (hN)
 replace zz := fact_step zz (hN)
 replace R3 := fact_step R3 (hN)
 replace A3 := fact_step A3 (hN)
 clear hN
 refine wp_region_late (S := fun D => D.heap[B3]? = some (.cells #[.string ⟨#[84]⟩, .int .i64 0, .int .u32 0, .int .u32 0, .bool false, .int .i64 0, .int .i64 0, .slice none 0 0, .int .i64 0, .int .u32 0, .int .u32 0, .bool false, .int .i64 0, .int .i64 0, .slice none 0 0, .slice (some ⟨ta0, 0, none⟩) 2 2, .slice (some ⟨ta1, 0, none⟩) 2 2, .int .i64 3] 34 (0, 0))) [] (by kernel_rfl) (by rw [hV]; exact R3.out _ (Turn.refl _ _)) ?_
 intro _
 have hS19 := R3.out _ (Turn.refl _ _)
 rw [hV]
 clear hV
 refine tkE (i := 0) (d := 76) (v := ?_) rfl (Or.inl ⟨by rfl, ?_⟩) hS19 ?_
 rotate_left
 ·intro w hSw; (try dsimp only at hSw); have hrow := hSw; refine exec_load_row (x := .tmp 15) ?_ B3 ?_ _ _ _ hrow Tryz.underlying34 Tryz.lawInfo <;> rfl
 try simp only [Act.put, pq]
 refine wpAnyE_ready (rs := [1]) (by kernel_rfl) (by simp) ?_
 refine AllReadyE.cons rfl (fun K hK => ?_) AllReadyE.nil
 (try rw [if_pos (show Region.wanted _ _ = true from rfl)])
 go_simp
 refine (lp_any _).mono ?_
 rintro e V20 ⟨rfl, hN⟩
 replace EW := fact_step EW (hN)
 replace wp := fact_step wp (hN)
 replace xx := fact_step xx (hN)
 replace R2 := fact_step R2 (hN)
 replace A2 := fact_step A2 (hN)
 replace zz := fact_step zz (hN)
 replace R3 := fact_step R3 (hN)
 replace A3 := fact_step A3 (hN)
 refine hK.out _ _ (R3.out _ (Turn.refl _ _)) (fun hS20 => ?_)
 clear hK K hN
 try simp only [Act.put, pq]
 refine wpAnyE_ready (rs := [2]) (by kernel_rfl) (by simp) ?_
 refine AllReadyE.cons rfl (fun K hK => ?_) AllReadyE.nil
 (try rw [if_pos (show Region.wanted _ _ = true from rfl)])
 go_simp
 refine (lp_any _).mono ?_
 rintro e V21 ⟨rfl, hN⟩
 replace EW := fact_step EW (hN)
 replace wp := fact_step wp (hN)
 replace xx := fact_step xx (hN)
 replace R2 := fact_step R2 (hN)
 replace A2 := fact_step A2 (hN)
 replace zz := fact_step zz (hN)
 replace R3 := fact_step R3 (hN)
 replace A3 := fact_step A3 (hN)
 refine hK.out _ _ (R3.out _ (Turn.refl _ _)) (fun hS21 => ?_)
 clear hK K hN
 try simp only [Act.put, pq]
 refine wpAnyE_ready (rs := [3]) (by kernel_rfl) (by simp) ?_
 refine AllReadyE.cons rfl (fun K hK => ?_) AllReadyE.nil
 (try rw [if_pos (show Region.wanted _ _ = true from rfl)])
 go_simp
 refine (lb_any _).mono ?_
 rintro e V22 ⟨rfl, hN⟩
 replace EW := fact_step EW (hN)
 replace wp := fact_step wp (hN)
 replace xx := fact_step xx (hN)
 replace R2 := fact_step R2 (hN)
 replace A2 := fact_step A2 (hN)
 replace zz := fact_step zz (hN)
 replace R3 := fact_step R3 (hN)
 replace A3 := fact_step A3 (hN)
 refine hK.out _ _ (R3.out _ (Turn.refl _ _)) (fun hS22 => ?_)
 clear hK K hN
 try simp only [Act.put, pq]
 refine wpAnyE_ready (rs := [4]) (by kernel_rfl) (by simp) ?_
 refine AllReadyE.cons rfl (fun K hK => ?_) AllReadyE.nil
 (try rw [if_pos (show Region.wanted _ _ = true from rfl)])
 go_simp
 obtain ⟨V23, hV⟩ : ∃ D, V22.alloc (.cells #[.int .u32 2, .int .u32 5, .int .u32 2, .int .u32 5, .int .u32 3, .int .u32 4] 24) = D := ⟨_, rfl⟩
 have hN : Ext V22 V23 := by rw [← hV]; exact (Turn.refl _ V22).alloc _
 have hA : V23.heap[V22.heap.size]? = some (.cells (sndL wPpb).toArray 24 (0, 0)) := by rw [← hV]; exact new_at rfl
 rw [hV]
 obtain ⟨gwq, hg⟩ : ∃ g, V22.heap.size = g := ⟨_, rfl⟩
 rw [hg] at hA ⊢
 replace EW := fact_step EW (hN)
 replace wp := fact_step wp (hN)
 replace xx := fact_step xx (hN)
 replace R2 := fact_step R2 (hN)
 replace A2 := fact_step A2 (hN)
 replace zz := fact_step zz (hN)
 replace R3 := fact_step R3 (hN)
 replace A3 := fact_step A3 (hN)
 have wq : Hid (∀ D, Ext V23 D → WordAt D (.slice (some ⟨gwq, 0, none⟩) wPpb.length 3) wPpb) := Lib.hid (fun D hD => ⟨rd_blk (xs := sndL wPpb) (hD.keep hA) rfl (by decide), by simp [WdOk]⟩)
 clear hV hA hg hN
 refine hK.out _ _ (R3.out _ (Turn.refl _ _)) (fun hS23 => ?_)
 clear hK K
 try simp only [Act.put, pq]
 refine wpAnyE_ready (rs := [5]) (by kernel_rfl) (by simp) ?_
 refine AllReadyE.cons rfl (fun K hK => ?_) AllReadyE.nil
 (try rw [if_pos (show Region.wanted _ _ = true from rfl)])
 go_simp
 have hc := lapply_any (l := takeD) (ws := wPpb) (cs := [.string ⟨#[84]⟩, .int .i64 0, .int .u32 0, .int .u32 0, .bool false, .int .i64 0, .int .i64 0, .slice none 0 0, .int .i64 0, .int .u32 0, .int .u32 0, .bool false, .int .i64 0, .int .i64 0, .slice none 0 0, .slice (some ⟨ta0, 0, none⟩) 2 2, .slice (some ⟨ta1, 0, none⟩) 2 2, .int .i64 3]) (A3.out _ (Turn.refl _ V23)) (wq.out _ (Turn.refl _ V23)) (by decide) (TB.out _ (EW.out _ (Turn.refl _ V23)))
 rw [knownL_6.1, knownL_6.2] at hc
 refine hc.mono ?_
 clear hc
 rintro e V24 ⟨uuu, rfl, ⟨uuo, uuc, hq, uuw, _⟩, hN⟩
 replace EW := fact_step EW (hN)
 replace wp := fact_step wp (hN)
 replace xx := fact_step xx (hN)
 replace R2 := fact_step R2 (hN)
 replace A2 := fact_step A2 (hN)
 replace zz := fact_step zz (hN)
 replace R3 := fact_step R3 (hN)
 replace A3 := fact_step A3 (hN)
 replace wq := fact_step wq (hN)
 have hq : uuu = .slice uuo 3 uuc := hq
 subst hq
 have uu : Hid (∀ D, Ext V24 D → WordAt D (.slice uuo wPbb.length uuc) wPbb) := Lib.hid (fun D hD => uuw.ext hD)
 clear uuw
 refine hK.out _ _ (R3.out _ (Turn.refl _ _)) (fun hS24 => ?_)
 clear hK K hN
 try simp only [Act.put, pq]
 refine tkE (i := 6) (d := 75) (v := ?_) rfl (Or.inl ⟨by rfl, ?_⟩) hS24 ?_
 rotate_left
 ·intro w hSw; (try dsimp only at hSw); go_simp; try with_reducible rfl
 try simp only [Act.put, pq]
 refine tkE (i := 7) (d := 82) (v := ?_) rfl (Or.inl ⟨by rfl, ?_⟩) hS24 ?_
 rotate_left
 ·intro w hSw; (try dsimp only at hSw); go_simp; try with_reducible rfl
 try simp only [Act.put, pq]
 refine tkE (i := 8) (d := 83) (v := ?_) rfl (Or.inl ⟨by rfl, ?_⟩) hS24 ?_
 rotate_left
 ·intro w hSw; (try dsimp only at hSw); go_simp; try with_reducible rfl
 try simp only [Act.put, pq]
 refine tkE (i := 9) (d := 16) (v := ?_) rfl (Or.inl ⟨by rfl, ?_⟩) hS24 ?_
 rotate_left
 ·intro w hSw; (try dsimp only at hSw); go_simp; try with_reducible rfl
 try simp only [Act.put, pq]
 refine tkE (i := 10) (d := 17) (v := ?_) rfl (Or.inl ⟨by rfl, ?_⟩) hS24 ?_
 rotate_left
 ·intro w hSw; (try dsimp only at hSw); go_simp; try with_reducible rfl
 try simp only [Act.put, pq]
 refine wpAnyE_done (by kernel_rfl) ?_ _
 clear wq R3 A3
 have hc := fun (D : World) (hD : Ext V24 D) => once_one (l := swapD) (ws := wPa) (cs := [.string ⟨#[77]⟩, .int .i64 0, .int .u32 0, .int .u32 0, .bool false, .int .i64 0, .int .i64 0, .slice none 0 0, .int .i64 0, .int .u32 0, .int .u32 0, .bool false, .int .i64 0, .int .i64 0, .slice none 0 0, .slice (some ⟨sw0, 0, none⟩) 2 2, .slice (some ⟨sw1, 0, none⟩) 2 2, .int .i64 1]) (A2.out D hD) (wp.out D hD) (by decide) (TB.out _ (EW.out _ hD)) 1
 simp only [knownL_7.1, knownL_7.2] at hc
 have HC := Lib.hid hc
 clear hc
 have HROW : Hid (V24.heap[B2]? = some (.cells #[.string ⟨#[77]⟩, .int .i64 0, .int .u32 0, .int .u32 0, .bool false, .int .i64 0, .int .i64 0, .slice none 0 0, .int .i64 0, .int .u32 0, .int .u32 0, .bool false, .int .i64 0, .int .i64 0, .slice none 0 0, .slice (some ⟨sw0, 0, none⟩) 2 2, .slice (some ⟨sw1, 0, none⟩) 2 2, .int .i64 1] 34 (0, 0))) := Lib.hid (R2.out _ (Turn.refl _ V24))
 go_wp2_with (refine wpList_load_row rfl 34 (.tmp 10) rfl B2 rfl _ _ _ _ HROW.out Tryz.underlying34 rfl Tryz.lawInfo ?_)
 refine (HC.out _ (Turn.refl _ _)).mono ?_
 rintro e V25 ⟨vu, rfl, _, hN⟩
 replace EW := fact_step EW (hN)
 replace wp := fact_step wp (hN)
 replace xx := fact_step xx (hN)
 replace R2 := fact_step R2 (hN)
 replace A2 := fact_step A2 (hN)
 replace zz := fact_step zz (hN)
 replace uu := fact_step uu (hN)
 clear HROW
 clear HC
 clear hN
 clear R2 A2 wp
 go_wp2_with fail
 refine (la_any _).mono ?_
 rintro e V26 ⟨rfl, hN⟩
 replace EW := fact_step EW (hN)
 replace xx := fact_step xx (hN)
 replace zz := fact_step zz (hN)
 replace uu := fact_step uu (hN)
 clear hN
 go_wp2_with fail
 refine (lp_any _).mono ?_
 rintro e V27 ⟨rfl, hN⟩
 replace EW := fact_step EW (hN)
 replace xx := fact_step xx (hN)
 replace zz := fact_step zz (hN)
 replace uu := fact_step uu (hN)
 clear hN
 go_wp2_with fail
 refine (la_any _).mono ?_
 rintro e V28 ⟨rfl, hN⟩
 replace EW := fact_step EW (hN)
 replace xx := fact_step xx (hN)
 replace zz := fact_step zz (hN)
 replace uu := fact_step uu (hN)
 clear hN
 go_wp2_with fail
 obtain ⟨V29, hV⟩ : ∃ D, V28.alloc (.cells #[.int .u32 5, .int .u32 2, .int .u32 2, .int .u32 5, .int .u32 5, .int .u32 2] 24) = D := ⟨_, rfl⟩
 have hN : Ext V28 V29 := by rw [← hV]; exact (Turn.refl _ V28).alloc _
 have hA : V29.heap[V28.heap.size]? = some (.cells (sndL wApaL).toArray 24 (0, 0)) := by rw [← hV]; exact new_at rfl
 rw [hV]
 obtain ⟨gm1, hg⟩ : ∃ g, V28.heap.size = g := ⟨_, rfl⟩
 rw [hg] at hA ⊢
 replace EW := fact_step EW (hN)
 replace xx := fact_step xx (hN)
 replace zz := fact_step zz (hN)
 replace uu := fact_step uu (hN)
 have m1 : Hid (∀ D, Ext V29 D → WordAt D (.slice (some ⟨gm1, 0, none⟩) wApaL.length 3) wApaL) := Lib.hid (fun D hD => ⟨rd_blk (xs := sndL wApaL) (hD.keep hA) rfl (by decide), by simp [WdOk]⟩)
 clear hV hA hg hN
 have hc := same_any (xx.out _ (Turn.refl _ V29)) (m1.out _ (Turn.refl _ V29))
 rw [show decide (wApaL = wApaL) = true by decide] at hc
 have HC := Lib.hid hc
 clear hc
 go_wp2_with fail
 refine (HC.out).mono ?_
 rintro e V30 ⟨rfl, hN⟩
 replace EW := fact_step EW (hN)
 replace xx := fact_step xx (hN)
 replace zz := fact_step zz (hN)
 replace uu := fact_step uu (hN)
 replace m1 := fact_step m1 (hN)
 clear HC
 clear hN
 clear xx m1
 go_wp2_with fail
 refine (la_any _).mono ?_
 rintro e V31 ⟨rfl, hN⟩
 replace EW := fact_step EW (hN)
 replace zz := fact_step zz (hN)
 replace uu := fact_step uu (hN)
 clear hN
 go_wp2_with fail
 refine (lp_any _).mono ?_
 rintro e V32 ⟨rfl, hN⟩
 replace EW := fact_step EW (hN)
 replace zz := fact_step zz (hN)
 replace uu := fact_step uu (hN)
 clear hN
 go_wp2_with fail
 refine (la_any _).mono ?_
 rintro e V33 ⟨rfl, hN⟩
 replace EW := fact_step EW (hN)
 replace zz := fact_step zz (hN)
 replace uu := fact_step uu (hN)
 clear hN
 go_wp2_with fail
 refine (lp_any _).mono ?_
 rintro e V34 ⟨rfl, hN⟩
 replace EW := fact_step EW (hN)
 replace zz := fact_step zz (hN)
 replace uu := fact_step uu (hN)
 clear hN
 go_wp2_with fail
 obtain ⟨V35, hV⟩ : ∃ D, V34.alloc (.cells #[.int .u32 5, .int .u32 2, .int .u32 2, .int .u32 5, .int .u32 5, .int .u32 2, .int .u32 2, .int .u32 5] 24) = D := ⟨_, rfl⟩
 have hN : Ext V34 V35 := by rw [← hV]; exact (Turn.refl _ V34).alloc _
 have hA : V35.heap[V34.heap.size]? = some (.cells (sndL wApap).toArray 24 (0, 0)) := by rw [← hV]; exact new_at rfl
 rw [hV]
 obtain ⟨gm2, hg⟩ : ∃ g, V34.heap.size = g := ⟨_, rfl⟩
 rw [hg] at hA ⊢
 replace EW := fact_step EW (hN)
 replace zz := fact_step zz (hN)
 replace uu := fact_step uu (hN)
 have m2 : Hid (∀ D, Ext V35 D → WordAt D (.slice (some ⟨gm2, 0, none⟩) wApap.length 4) wApap) := Lib.hid (fun D hD => ⟨rd_blk (xs := sndL wApap) (hD.keep hA) rfl (by decide), by simp [WdOk]⟩)
 clear hV hA hg hN
 have hc := same_any (zz.out _ (Turn.refl _ V35)) (m2.out _ (Turn.refl _ V35))
 rw [show decide (wApap = wApap) = true by decide] at hc
 have HC := Lib.hid hc
 clear hc
 go_wp2_with fail
 refine (HC.out).mono ?_
 rintro e V36 ⟨rfl, hN⟩
 replace EW := fact_step EW (hN)
 replace zz := fact_step zz (hN)
 replace uu := fact_step uu (hN)
 replace m2 := fact_step m2 (hN)
 clear HC
 clear hN
 clear zz m2
 go_wp2_with fail
 refine (lp_any _).mono ?_
 rintro e V37 ⟨rfl, hN⟩
 replace EW := fact_step EW (hN)
 replace uu := fact_step uu (hN)
 clear hN
 go_wp2_with fail
 refine (lb_any _).mono ?_
 rintro e V38 ⟨rfl, hN⟩
 replace EW := fact_step EW (hN)
 replace uu := fact_step uu (hN)
 clear hN
 go_wp2_with fail
 refine (lb_any _).mono ?_
 rintro e V39 ⟨rfl, hN⟩
 replace EW := fact_step EW (hN)
 replace uu := fact_step uu (hN)
 clear hN
 go_wp2_with fail
 obtain ⟨V40, hV⟩ : ∃ D, V39.alloc (.cells #[.int .u32 2, .int .u32 5, .int .u32 3, .int .u32 4, .int .u32 3, .int .u32 4] 24) = D := ⟨_, rfl⟩
 have hN : Ext V39 V40 := by rw [← hV]; exact (Turn.refl _ V39).alloc _
 have hA : V40.heap[V39.heap.size]? = some (.cells (sndL wPbb).toArray 24 (0, 0)) := by rw [← hV]; exact new_at rfl
 rw [hV]
 obtain ⟨gm3, hg⟩ : ∃ g, V39.heap.size = g := ⟨_, rfl⟩
 rw [hg] at hA ⊢
 replace EW := fact_step EW (hN)
 replace uu := fact_step uu (hN)
 have m3 : Hid (∀ D, Ext V40 D → WordAt D (.slice (some ⟨gm3, 0, none⟩) wPbb.length 3) wPbb) := Lib.hid (fun D hD => ⟨rd_blk (xs := sndL wPbb) (hD.keep hA) rfl (by decide), by simp [WdOk]⟩)
 clear hV hA hg hN
 have hc := same_any (uu.out _ (Turn.refl _ V40)) (m3.out _ (Turn.refl _ V40))
 rw [show decide (wPbb = wPbb) = true by decide] at hc
 have HC := Lib.hid hc
 clear hc
 go_wp2_with fail
 refine (HC.out).mono ?_
 rintro e V41 ⟨rfl, hN⟩
 replace EW := fact_step EW (hN)
 replace uu := fact_step uu (hN)
 replace m3 := fact_step m3 (hN)
 clear HC
 clear hN
 clear uu m3
 go_wp2_with fail
 refine (lworks_any _ (TB.out _ (EW.out _ (Turn.refl _ _)))).mono ?_
 rintro e V42 ⟨rfl, hN⟩
 replace EW := fact_step EW (hN)
 clear hN
 have HEND := EW
 clear EW
 go_wp2
 go_ret
 exact ⟨rfl, HEND.out _ (Turn.refl _ _)⟩
end Go.Proofs.YtamkkhlabfahmaaGreatDoor
