/- The makers of chapter 14's examples: p, b, a, v, f, u, pair (printed by genmko.py). -/
import Derived.Test.YtfdlhlghcbeblaaGreatDoorG12
import Derived.Test.YtfdlhlghcbeblaaGreatDoorG18
import Derived.Test.YtfdlhlghcbeblaaGreatDoorG43
import Derived.Test.YtfdlhlghcbeblaaGreatDoorG20
set_option maxRecDepth 100000
set_option maxHeartbeats 16000000
namespace Go.Proofs.YtfdlhlghcbeblaaGreatDoor
open Go.RowKit Go.Ab
attribute [local go_sem] Oper.semAt_some wide_fn wide_depth
theorem patInfo7:(Tryz.prog.info? 98).map (·.size)=some 7:=by kernel_rfl
theorem sndInfo2:(Tryz.prog.info? 95).map (·.size)=some 2:=by kernel_rfl
theorem pairInfo2:(Tryz.prog.info? 105).map (·.size)=some 2:=by kernel_rfl
theorem snd_res1{fn:Func}{p:Tmp}(h:fn.results=#[.cell p 95]){tmps:Array Value}{w:World}{g:Nat}{cs:Array Value}(hp:tmps.getD p undef=.pointer (some ⟨g,0,none⟩)) (hg:w.heap[g]?=some (.cells cs 95 (0,0))) (hi:(Tryz.prog.info? 95).map (·.size)=some cs.size) :
  (results fn tmps).run Tryz.prog w=.ok (.agg cs) w:=by
 have hp':tmps[p]?.getD undef=.pointer (some ⟨g,0,none⟩):=by simpa using hp
 simp [results,h,hp',asAddr,run_loadVar_row w g _ _ _ _ _ hg Tryz.underlying95 rfl hi]
theorem law_res1{fn:Func}{p:Tmp}(h:fn.results=#[.cell p 102]){tmps:Array Value}{w:World}{g:Nat}{cs:Array Value}(hp:tmps.getD p undef=.pointer (some ⟨g,0,none⟩)) (hg:w.heap[g]?=some (.cells cs 102 (0,0))) (hi:(Tryz.prog.info? 102).map (·.size)=some cs.size) :
  (results fn tmps).run Tryz.prog w=.ok (.agg cs) w:=by
 have hp':tmps[p]?.getD undef=.pointer (some ⟨g,0,none⟩):=by simpa using hp
 simp [results,h,hp',asAddr,run_loadVar_row w g _ _ _ _ _ hg Tryz.underlying102 rfl hi]
theorem pair_res1{fn:Func}{p:Tmp}(h:fn.results=#[.cell p 105]){tmps:Array Value}{w:World}{g:Nat}{cs:Array Value}(hp:tmps.getD p undef=.pointer (some ⟨g,0,none⟩)) (hg:w.heap[g]?=some (.cells cs 105 (0,0))) (hi:(Tryz.prog.info? 105).map (·.size)=some cs.size) :
  (results fn tmps).run Tryz.prog w=.ok (.agg cs) w:=by
 have hp':tmps[p]?.getD undef=.pointer (some ⟨g,0,none⟩):=by simpa using hp
 simp [results,h,hp',asAddr,run_loadVar_row w g _ _ _ _ _ hg Tryz.underlying105 rfl hi]
theorem op_any(w:World):Calls Tryz.prog 57 #[] w fun e w'=>e=.returned (.agg #[.int .u32 2,.int .u32 5])∧Ext w w':=by
 go_enter Tryz.func57,Tryz.ntmps57
 go_wp2
 exact bodyPost_ret (snd_res1 rfl rfl (new_at rfl) sndInfo2) rfl ⟨rfl,(Turn.refl _ w).alloc _⟩
theorem ob_any(w:World):Calls Tryz.prog 56 #[] w fun e w'=>e=.returned (.agg #[.int .u32 3,.int .u32 4])∧Ext w w':=by
 go_enter Tryz.func56,Tryz.ntmps56
 go_wp2
 exact bodyPost_ret (snd_res1 rfl rfl (new_at rfl) sndInfo2) rfl ⟨rfl,(Turn.refl _ w).alloc _⟩
theorem oa_any(w:World):Calls Tryz.prog 55 #[] w fun e w'=>e=.returned (.agg #[.int .u32 5,.int .u32 2])∧Ext w w':=by
 go_enter Tryz.func55,Tryz.ntmps55
 go_wp2
 exact bodyPost_ret (snd_res1 rfl rfl (new_at rfl) sndInfo2) rfl ⟨rfl,(Turn.refl _ w).alloc _⟩
theorem of_any(w:World):Calls Tryz.prog 53 #[] w fun e w'=>∃ g1:Nat,e=.returned (.agg #[.string ⟨#[70]⟩,.int .i64 0,.int .u32 0,.int .u32 0,.bool false,.int .i64 0,.int .i64 0,.slice none 0 0,.int .i64 6,.int .u32 0,.int .u32 0,.bool false,.int .i64 0,.int .i64 0,.slice none 0 0,.slice (some ⟨g1,0,none⟩) 1 1,.slice none 0 0,.int .i64 1])∧LawAt w' fD [.string ⟨#[70]⟩,.int .i64 0,.int .u32 0,.int .u32 0,.bool false,.int .i64 0,.int .i64 0,.slice none 0 0,.int .i64 6,.int .u32 0,.int .u32 0,.bool false,.int .i64 0,.int .i64 0,.slice none 0 0,.slice (some ⟨g1,0,none⟩) 1 1,.slice none 0 0,.int .i64 1]∧Ext w w':=by
 go_enter Tryz.func53,Tryz.ntmps53
 obtain⟨x1,hx1⟩:∃ D,((w.alloc (.cells #[.string ⟨#[]⟩,.int .i64 0,.int .u32 0,.int .u32 0,.bool false,.int .i64 0,.int .i64 0,.slice none 0 0,.int .i64 0,.int .u32 0,.int .u32 0,.bool false,.int .i64 0,.int .i64 0,.slice none 0 0,.slice none 0 0,.slice none 0 0,.int .i64 0] 102)).alloc (.cells #[.int .u32 4,.int .u32 0] 95))=D:=⟨_,rfl⟩
 have hEx:Ext w x1:=by rw [← hx1];exact((Turn.refl _ w).alloc _).alloc _
 have a0:x1.heap[w.heap.size]?=some (.cells #[.string ⟨#[]⟩,.int .i64 0,.int .u32 0,.int .u32 0,.bool false,.int .i64 0,.int .i64 0,.slice none 0 0,.int .i64 0,.int .u32 0,.int .u32 0,.bool false,.int .i64 0,.int .i64 0,.slice none 0 0,.slice none 0 0,.slice none 0 0,.int .i64 0] 102 (0,0)):=by rw [← hx1];exact new_keep (new_at rfl)
 have a1:x1.heap[w.heap.size+1]?=some (.cells #[.int .u32 4,.int .u32 0] 95 (0,0)):=by rw [← hx1];exact new_at (by simp)
 have HEX:=Lib.hid hEx
 have HA0:=Lib.hid a0
 have HA1:=Lib.hid a1
 clear hEx a0 a1
 have hT2:=Turn.setRow x1 w.heap.size #[.string ⟨#[70]⟩,.int .i64 0,.int .u32 0,.int .u32 0,.bool false,.int .i64 0,.int .i64 0,.slice none 0 0,.int .i64 6,.int .u32 0,.int .u32 0,.bool false,.int .i64 0,.int .i64 0,.slice none 0 0,.slice (some ⟨w.heap.size+1,0,none⟩) 1 1,.slice none 0 0,.int .i64 1]
 have hl2:=setRow_heap _ _ _ #[.string ⟨#[70]⟩,.int .i64 0,.int .u32 0,.int .u32 0,.bool false,.int .i64 0,.int .i64 0,.slice none 0 0,.int .i64 6,.int .u32 0,.int .u32 0,.bool false,.int .i64 0,.int .i64 0,.slice none 0 0,.slice (some ⟨w.heap.size+1,0,none⟩) 1 1,.slice none 0 0,.int .i64 1] _ _ HA0.out
 have b1:=hT2.heap HA1.out (by omega)
 have hE2:Ext w (x1.setRow w.heap.size #[.string ⟨#[70]⟩,.int .i64 0,.int .u32 0,.int .u32 0,.bool false,.int .i64 0,.int .i64 0,.slice none 0 0,.int .i64 6,.int .u32 0,.int .u32 0,.bool false,.int .i64 0,.int .i64 0,.slice none 0 0,.slice (some ⟨w.heap.size+1,0,none⟩) 1 1,.slice none 0 0,.int .i64 1]):=HEX.out.after hT2 (fun b hb e=>by omega)
 obtain⟨w2,hw2⟩:∃ D,x1.setRow w.heap.size #[.string ⟨#[70]⟩,.int .i64 0,.int .u32 0,.int .u32 0,.bool false,.int .i64 0,.int .i64 0,.slice none 0 0,.int .i64 6,.int .u32 0,.int .u32 0,.bool false,.int .i64 0,.int .i64 0,.slice none 0 0,.slice (some ⟨w.heap.size+1,0,none⟩) 1 1,.slice none 0 0,.int .i64 1]=D:=⟨_,rfl⟩
 rw [hw2] at hl2 hE2 b1
 clear hT2
 have HC0:Hid ((((w.alloc (.cells #[.string ⟨#[]⟩,.int .i64 0,.int .u32 0,.int .u32 0,.bool false,.int .i64 0,.int .i64 0,.slice none 0 0,.int .i64 0,.int .u32 0,.int .u32 0,.bool false,.int .i64 0,.int .i64 0,.slice none 0 0,.slice none 0 0,.slice none 0 0,.int .i64 0] 102)).alloc (.cells #[.int .u32 4,.int .u32 0] 95))).heap[w.heap.size]?=some (.cells #[.string ⟨#[]⟩,.int .i64 0,.int .u32 0,.int .u32 0,.bool false,.int .i64 0,.int .i64 0,.slice none 0 0,.int .i64 0,.int .u32 0,.int .u32 0,.bool false,.int .i64 0,.int .i64 0,.slice none 0 0,.slice none 0 0,.slice none 0 0,.int .i64 0] 102 (0,0))):=Lib.hid (by rw [hx1];exact HA0.out)
 go_wp2_with (first | (refine wpList_store_row rfl 102 (.tmp 0) (.tmp 4) rfl w.heap.size #[.string ⟨#[70]⟩,.int .i64 0,.int .u32 0,.int .u32 0,.bool false,.int .i64 0,.int .i64 0,.slice none 0 0,.int .i64 6,.int .u32 0,.int .u32 0,.bool false,.int .i64 0,.int .i64 0,.slice none 0 0,.slice (some ⟨w.heap.size+1,0,none⟩) 1 1,.slice none 0 0,.int .i64 1] (by first | rfl | simp) (by first | rfl | simp) _ _ HA0.out (by kernel_rfl) rfl (by kernel_rfl) ?_;try rw [hw2]))
 try simp only [Act.put]
 go_wp2
 exact bodyPost_ret (law_res1 rfl rfl hl2 (by kernel_rfl)) rfl ⟨w.heap.size+1,rfl,⟨[.int .i64 0,.int .u32 0,.int .u32 0,.bool false,.int .i64 0,.int .i64 0,.slice none 0 0],[.int .i64 6,.int .u32 0,.int .u32 0,.bool false,.int .i64 0,.int .i64 0,.slice none 0 0],_,_,rfl,by decide,pat_leaf _ _ 0 false 0 0 (by decide) (by decide),pat_leaf _ _ 6 false 0 0 (by decide) (by decide),⟨rd_blk (xs:=sndL [(4,0)]) b1 rfl (by decide),by simp [WdOk]⟩,⟨⟨rfl,by simp [maxLen],none,0,rfl,fun h=>by simp at h⟩,by simp [OutOk]⟩⟩,hE2⟩
theorem ou_any(w:World):Calls Tryz.prog 93 #[] w fun e w'=>∃ g1 g2:Nat,e=.returned (.agg #[.string ⟨#[85]⟩,.int .i64 0,.int .u32 0,.int .u32 0,.bool false,.int .i64 0,.int .i64 0,.slice none 0 0,.int .i64 6,.int .u32 0,.int .u32 0,.bool false,.int .i64 0,.int .i64 0,.slice none 0 0,.slice (some ⟨g1,0,none⟩) 1 1,.slice (some ⟨g2,0,none⟩) 1 1,.int .i64 1])∧LawAt w' uD [.string ⟨#[85]⟩,.int .i64 0,.int .u32 0,.int .u32 0,.bool false,.int .i64 0,.int .i64 0,.slice none 0 0,.int .i64 6,.int .u32 0,.int .u32 0,.bool false,.int .i64 0,.int .i64 0,.slice none 0 0,.slice (some ⟨g1,0,none⟩) 1 1,.slice (some ⟨g2,0,none⟩) 1 1,.int .i64 1]∧Ext w w':=by
 go_enter Tryz.func93,Tryz.ntmps93
 obtain⟨x1,hx1⟩:∃ D,(((w.alloc (.cells #[.string ⟨#[]⟩,.int .i64 0,.int .u32 0,.int .u32 0,.bool false,.int .i64 0,.int .i64 0,.slice none 0 0,.int .i64 0,.int .u32 0,.int .u32 0,.bool false,.int .i64 0,.int .i64 0,.slice none 0 0,.slice none 0 0,.slice none 0 0,.int .i64 0] 102)).alloc (.cells #[.int .u32 2,.int .u32 0] 95)).alloc (.cells #[.int .i64 0,.int .u32 0,.int .u32 0,.int .u32 1,.int .u32 0,.int .i64 0] 109))=D:=⟨_,rfl⟩
 have hEx:Ext w x1:=by rw [← hx1];exact(((Turn.refl _ w).alloc _).alloc _).alloc _
 have a0:x1.heap[w.heap.size]?=some (.cells #[.string ⟨#[]⟩,.int .i64 0,.int .u32 0,.int .u32 0,.bool false,.int .i64 0,.int .i64 0,.slice none 0 0,.int .i64 0,.int .u32 0,.int .u32 0,.bool false,.int .i64 0,.int .i64 0,.slice none 0 0,.slice none 0 0,.slice none 0 0,.int .i64 0] 102 (0,0)):=by rw [← hx1];exact new_keep (new_keep (new_at rfl))
 have a1:x1.heap[w.heap.size+1]?=some (.cells #[.int .u32 2,.int .u32 0] 95 (0,0)):=by rw [← hx1];exact new_keep (new_at (by simp))
 have a2:x1.heap[w.heap.size+2]?=some (.cells #[.int .i64 0,.int .u32 0,.int .u32 0,.int .u32 1,.int .u32 0,.int .i64 0] 109 (0,0)):=by rw [← hx1];exact new_at (by simp)
 have HEX:=Lib.hid hEx
 have HA0:=Lib.hid a0
 have HA1:=Lib.hid a1
 have HA2:=Lib.hid a2
 clear hEx a0 a1 a2
 have hT2:=Turn.setRow x1 w.heap.size #[.string ⟨#[85]⟩,.int .i64 0,.int .u32 0,.int .u32 0,.bool false,.int .i64 0,.int .i64 0,.slice none 0 0,.int .i64 6,.int .u32 0,.int .u32 0,.bool false,.int .i64 0,.int .i64 0,.slice none 0 0,.slice (some ⟨w.heap.size+1,0,none⟩) 1 1,.slice (some ⟨w.heap.size+2,0,none⟩) 1 1,.int .i64 1]
 have hl2:=setRow_heap _ _ _ #[.string ⟨#[85]⟩,.int .i64 0,.int .u32 0,.int .u32 0,.bool false,.int .i64 0,.int .i64 0,.slice none 0 0,.int .i64 6,.int .u32 0,.int .u32 0,.bool false,.int .i64 0,.int .i64 0,.slice none 0 0,.slice (some ⟨w.heap.size+1,0,none⟩) 1 1,.slice (some ⟨w.heap.size+2,0,none⟩) 1 1,.int .i64 1] _ _ HA0.out
 have b1:=hT2.heap HA1.out (by omega)
 have b2:=hT2.heap HA2.out (by omega)
 have hE2:Ext w (x1.setRow w.heap.size #[.string ⟨#[85]⟩,.int .i64 0,.int .u32 0,.int .u32 0,.bool false,.int .i64 0,.int .i64 0,.slice none 0 0,.int .i64 6,.int .u32 0,.int .u32 0,.bool false,.int .i64 0,.int .i64 0,.slice none 0 0,.slice (some ⟨w.heap.size+1,0,none⟩) 1 1,.slice (some ⟨w.heap.size+2,0,none⟩) 1 1,.int .i64 1]):=HEX.out.after hT2 (fun b hb e=>by omega)
 obtain⟨w2,hw2⟩:∃ D,x1.setRow w.heap.size #[.string ⟨#[85]⟩,.int .i64 0,.int .u32 0,.int .u32 0,.bool false,.int .i64 0,.int .i64 0,.slice none 0 0,.int .i64 6,.int .u32 0,.int .u32 0,.bool false,.int .i64 0,.int .i64 0,.slice none 0 0,.slice (some ⟨w.heap.size+1,0,none⟩) 1 1,.slice (some ⟨w.heap.size+2,0,none⟩) 1 1,.int .i64 1]=D:=⟨_,rfl⟩
 rw [hw2] at hl2 hE2 b1 b2
 clear hT2
 have HC0:Hid (((((w.alloc (.cells #[.string ⟨#[]⟩,.int .i64 0,.int .u32 0,.int .u32 0,.bool false,.int .i64 0,.int .i64 0,.slice none 0 0,.int .i64 0,.int .u32 0,.int .u32 0,.bool false,.int .i64 0,.int .i64 0,.slice none 0 0,.slice none 0 0,.slice none 0 0,.int .i64 0] 102)).alloc (.cells #[.int .u32 2,.int .u32 0] 95)).alloc (.cells #[.int .i64 0,.int .u32 0,.int .u32 0,.int .u32 1,.int .u32 0,.int .i64 0] 109))).heap[w.heap.size]?=some (.cells #[.string ⟨#[]⟩,.int .i64 0,.int .u32 0,.int .u32 0,.bool false,.int .i64 0,.int .i64 0,.slice none 0 0,.int .i64 0,.int .u32 0,.int .u32 0,.bool false,.int .i64 0,.int .i64 0,.slice none 0 0,.slice none 0 0,.slice none 0 0,.int .i64 0] 102 (0,0))):=Lib.hid (by rw [hx1];exact HA0.out)
 go_wp2_with (first | (refine wpList_store_row rfl 102 (.tmp 0) (.tmp 7) rfl w.heap.size #[.string ⟨#[85]⟩,.int .i64 0,.int .u32 0,.int .u32 0,.bool false,.int .i64 0,.int .i64 0,.slice none 0 0,.int .i64 6,.int .u32 0,.int .u32 0,.bool false,.int .i64 0,.int .i64 0,.slice none 0 0,.slice (some ⟨w.heap.size+1,0,none⟩) 1 1,.slice (some ⟨w.heap.size+2,0,none⟩) 1 1,.int .i64 1] (by first | rfl | simp) (by first | rfl | simp) _ _ HA0.out (by kernel_rfl) rfl (by kernel_rfl) ?_;try rw [hw2]))
 try simp only [Act.put]
 go_wp2
 exact bodyPost_ret (law_res1 rfl rfl hl2 (by kernel_rfl)) rfl ⟨w.heap.size+1,w.heap.size+2,rfl,⟨[.int .i64 0,.int .u32 0,.int .u32 0,.bool false,.int .i64 0,.int .i64 0,.slice none 0 0],[.int .i64 6,.int .u32 0,.int .u32 0,.bool false,.int .i64 0,.int .i64 0,.slice none 0 0],_,_,rfl,by decide,pat_leaf _ _ 0 false 0 0 (by decide) (by decide),pat_leaf _ _ 6 false 0 0 (by decide) (by decide),⟨rd_blk (xs:=sndL [(2,0)]) b1 rfl (by decide),by simp [WdOk]⟩,⟨rd_blk (xs:=outL [⟨0,0,(0,1),0,0⟩]) b2 rfl (by decide),by simp [OutOk,lt32]⟩⟩,hE2⟩
theorem ov_any(w:World):Calls Tryz.prog 52 #[] w fun e w'=>∃ g1 g2:Nat,e=.returned (.agg #[.string ⟨#[86]⟩,.int .i64 1,.int .u32 4,.int .u32 0,.bool false,.int .i64 0,.int .i64 0,.slice none 0 0,.int .i64 1,.int .u32 4,.int .u32 0,.bool false,.int .i64 0,.int .i64 0,.slice none 0 0,.slice (some ⟨g1,0,none⟩) 1 1,.slice (some ⟨g2,0,none⟩) 1 1,.int .i64 1])∧LawAt w' vD [.string ⟨#[86]⟩,.int .i64 1,.int .u32 4,.int .u32 0,.bool false,.int .i64 0,.int .i64 0,.slice none 0 0,.int .i64 1,.int .u32 4,.int .u32 0,.bool false,.int .i64 0,.int .i64 0,.slice none 0 0,.slice (some ⟨g1,0,none⟩) 1 1,.slice (some ⟨g2,0,none⟩) 1 1,.int .i64 1]∧Ext w w':=by
 go_enter Tryz.func52,Tryz.ntmps52
 obtain⟨x1,hx1⟩:∃ D,((((w.alloc (.cells #[.string ⟨#[]⟩,.int .i64 0,.int .u32 0,.int .u32 0,.bool false,.int .i64 0,.int .i64 0,.slice none 0 0,.int .i64 0,.int .u32 0,.int .u32 0,.bool false,.int .i64 0,.int .i64 0,.slice none 0 0,.slice none 0 0,.slice none 0 0,.int .i64 0] 102)).alloc (.cells #[.int .i64 1,.int .u32 4,.int .u32 0,.bool false,.int .i64 0,.int .i64 0,.slice none 0 0] 98)).alloc (.cells #[.int .u32 2,.int .u32 0] 95)).alloc (.cells #[.int .i64 0,.int .u32 0,.int .u32 1,.int .u32 0,.int .u32 0,.int .i64 0] 109))=D:=⟨_,rfl⟩
 have hEx:Ext w x1:=by rw [← hx1];exact((((Turn.refl _ w).alloc _).alloc _).alloc _).alloc _
 have a0:x1.heap[w.heap.size]?=some (.cells #[.string ⟨#[]⟩,.int .i64 0,.int .u32 0,.int .u32 0,.bool false,.int .i64 0,.int .i64 0,.slice none 0 0,.int .i64 0,.int .u32 0,.int .u32 0,.bool false,.int .i64 0,.int .i64 0,.slice none 0 0,.slice none 0 0,.slice none 0 0,.int .i64 0] 102 (0,0)):=by rw [← hx1];exact new_keep (new_keep (new_keep (new_at rfl)))
 have a1:x1.heap[w.heap.size+1]?=some (.cells #[.int .i64 1,.int .u32 4,.int .u32 0,.bool false,.int .i64 0,.int .i64 0,.slice none 0 0] 98 (0,0)):=by rw [← hx1];exact new_keep (new_keep (new_at (by simp)))
 have a2:x1.heap[w.heap.size+2]?=some (.cells #[.int .u32 2,.int .u32 0] 95 (0,0)):=by rw [← hx1];exact new_keep (new_at (by simp))
 have a3:x1.heap[w.heap.size+3]?=some (.cells #[.int .i64 0,.int .u32 0,.int .u32 1,.int .u32 0,.int .u32 0,.int .i64 0] 109 (0,0)):=by rw [← hx1];exact new_at (by simp)
 have HEX:=Lib.hid hEx
 have HA0:=Lib.hid a0
 have HA1:=Lib.hid a1
 have HA2:=Lib.hid a2
 have HA3:=Lib.hid a3
 clear hEx a0 a1 a2 a3
 have hT2:=Turn.setRow x1 w.heap.size #[.string ⟨#[86]⟩,.int .i64 1,.int .u32 4,.int .u32 0,.bool false,.int .i64 0,.int .i64 0,.slice none 0 0,.int .i64 1,.int .u32 4,.int .u32 0,.bool false,.int .i64 0,.int .i64 0,.slice none 0 0,.slice (some ⟨w.heap.size+2,0,none⟩) 1 1,.slice (some ⟨w.heap.size+3,0,none⟩) 1 1,.int .i64 1]
 have hl2:=setRow_heap _ _ _ #[.string ⟨#[86]⟩,.int .i64 1,.int .u32 4,.int .u32 0,.bool false,.int .i64 0,.int .i64 0,.slice none 0 0,.int .i64 1,.int .u32 4,.int .u32 0,.bool false,.int .i64 0,.int .i64 0,.slice none 0 0,.slice (some ⟨w.heap.size+2,0,none⟩) 1 1,.slice (some ⟨w.heap.size+3,0,none⟩) 1 1,.int .i64 1] _ _ HA0.out
 have b2:=hT2.heap HA2.out (by omega)
 have b3:=hT2.heap HA3.out (by omega)
 have hE2:Ext w (x1.setRow w.heap.size #[.string ⟨#[86]⟩,.int .i64 1,.int .u32 4,.int .u32 0,.bool false,.int .i64 0,.int .i64 0,.slice none 0 0,.int .i64 1,.int .u32 4,.int .u32 0,.bool false,.int .i64 0,.int .i64 0,.slice none 0 0,.slice (some ⟨w.heap.size+2,0,none⟩) 1 1,.slice (some ⟨w.heap.size+3,0,none⟩) 1 1,.int .i64 1]):=HEX.out.after hT2 (fun b hb e=>by omega)
 obtain⟨w2,hw2⟩:∃ D,x1.setRow w.heap.size #[.string ⟨#[86]⟩,.int .i64 1,.int .u32 4,.int .u32 0,.bool false,.int .i64 0,.int .i64 0,.slice none 0 0,.int .i64 1,.int .u32 4,.int .u32 0,.bool false,.int .i64 0,.int .i64 0,.slice none 0 0,.slice (some ⟨w.heap.size+2,0,none⟩) 1 1,.slice (some ⟨w.heap.size+3,0,none⟩) 1 1,.int .i64 1]=D:=⟨_,rfl⟩
 rw [hw2] at hl2 hE2 b2 b3
 clear hT2
 have HC0:Hid ((((((w.alloc (.cells #[.string ⟨#[]⟩,.int .i64 0,.int .u32 0,.int .u32 0,.bool false,.int .i64 0,.int .i64 0,.slice none 0 0,.int .i64 0,.int .u32 0,.int .u32 0,.bool false,.int .i64 0,.int .i64 0,.slice none 0 0,.slice none 0 0,.slice none 0 0,.int .i64 0] 102)).alloc (.cells #[.int .i64 1,.int .u32 4,.int .u32 0,.bool false,.int .i64 0,.int .i64 0,.slice none 0 0] 98)).alloc (.cells #[.int .u32 2,.int .u32 0] 95)).alloc (.cells #[.int .i64 0,.int .u32 0,.int .u32 1,.int .u32 0,.int .u32 0,.int .i64 0] 109))).heap[w.heap.size]?=some (.cells #[.string ⟨#[]⟩,.int .i64 0,.int .u32 0,.int .u32 0,.bool false,.int .i64 0,.int .i64 0,.slice none 0 0,.int .i64 0,.int .u32 0,.int .u32 0,.bool false,.int .i64 0,.int .i64 0,.slice none 0 0,.slice none 0 0,.slice none 0 0,.int .i64 0] 102 (0,0))):=Lib.hid (by rw [hx1];exact HA0.out)
 go_wp2_with (first | (refine wpList_load_row rfl 98 (.tmp 1) rfl (w.heap.size+1) (by first | rfl | simp) _ _ _ (by first | exact new_at (by simp) | exact new_at rfl) Tryz.underlying98 rfl patInfo7 ?_) | (refine wpList_store_row rfl 102 (.tmp 0) (.tmp 11) rfl w.heap.size #[.string ⟨#[86]⟩,.int .i64 1,.int .u32 4,.int .u32 0,.bool false,.int .i64 0,.int .i64 0,.slice none 0 0,.int .i64 1,.int .u32 4,.int .u32 0,.bool false,.int .i64 0,.int .i64 0,.slice none 0 0,.slice (some ⟨w.heap.size+2,0,none⟩) 1 1,.slice (some ⟨w.heap.size+3,0,none⟩) 1 1,.int .i64 1] (by first | rfl | simp) (by first | rfl | simp) _ _ HA0.out (by kernel_rfl) rfl (by kernel_rfl) ?_;try rw [hw2]))
 try simp only [Act.put]
 go_wp2
 exact bodyPost_ret (law_res1 rfl rfl hl2 (by kernel_rfl)) rfl ⟨w.heap.size+2,w.heap.size+3,rfl,⟨[.int .i64 1,.int .u32 4,.int .u32 0,.bool false,.int .i64 0,.int .i64 0,.slice none 0 0],[.int .i64 1,.int .u32 4,.int .u32 0,.bool false,.int .i64 0,.int .i64 0,.slice none 0 0],_,_,rfl,by decide,pat_leaf _ _ 1 false 0 0 (by decide) (by decide),pat_leaf _ _ 1 false 0 0 (by decide) (by decide),⟨rd_blk (xs:=sndL [(2,0)]) b2 rfl (by decide),by simp [WdOk]⟩,⟨rd_blk (xs:=outL [⟨0,0,(1,0),0,0⟩]) b3 rfl (by decide),by simp [OutOk,lt32]⟩⟩,hE2⟩
theorem opair_any(w:World)(ao:Option Addr)(n c:Nat):Calls Tryz.prog 54 #[.slice ao n c] w fun e w'=>∃ g:Nat,e=.returned (.agg #[.slice (some ⟨g,0,none⟩) 3 3,.slice ao n c])∧WordAt w' (.slice (some ⟨g,0,none⟩) 3 3) apaO∧Ext w w':=by
 go_enter Tryz.func54,Tryz.ntmps54
 go_upto_region 1 with (fail)
 obtain⟨w1,hw1⟩:∃ D,w.alloc (.cells #[.slice none 0 0,.slice none 0 0] 105)=D:=⟨_,rfl⟩
 have hE1:Ext w w1:=by rw [← hw1];exact(Turn.refl _ w).alloc _
 have hB1:w1.heap[w.heap.size]?=some (.cells #[.slice none 0 0,.slice none 0 0] 105 (0,0)):=by rw [← hw1];exact new_at rfl
 rw [hw1]
 obtain⟨B,hB⟩:∃ b,w.heap.size=b:=⟨_,rfl⟩
 rw [hB] at hB1 ⊢
 have HB1:=Lib.hid hB1;have HE1:=Lib.hid hE1;have HB:=Lib.hid hB
 clear hw1 hE1 hB1 hB
 go_wp2_with fail
 refine(oa_any _).mono ?_
 rintro e w2 ⟨rfl,hN2⟩
 go_wp2_with fail
 refine(op_any _).mono ?_
 rintro e w3 ⟨rfl,hN3⟩
 go_wp2_with fail
 refine(oa_any _).mono ?_
 rintro e w4 ⟨rfl,hN4⟩
 have h4:=Ext.keep (hN2.trans (hN3.trans hN4)) HB1.out
 have HE4:=Lib.hid (HE1.out.trans (hN2.trans (hN3.trans hN4)))
 have HB4:=Lib.hid h4
 clear h4 hN2 hN3 hN4 HB1 HE1
 obtain⟨w5,hw5⟩:∃ D,w4.alloc (.cells #[.int .u32 5,.int .u32 2,.int .u32 2,.int .u32 5,.int .u32 5,.int .u32 2] 95)=D:=⟨_,rfl⟩
 have h5:w5.heap[B]?=some (.cells #[.slice none 0 0,.slice none 0 0] 105 (0,0)):=by rw [← hw5];exact new_keep HB4.out
 have h6:w5.heap[w4.heap.size]?=some (.cells #[.int .u32 5,.int .u32 2,.int .u32 2,.int .u32 5,.int .u32 5,.int .u32 2] 95 (0,0)):=by rw [← hw5];exact new_at rfl
 have hE5:Ext w w5:=by rw [← hw5];exact HE4.out.trans ((Turn.refl _ w4).alloc _)
 have H5:=Lib.hid h5;have H6:=Lib.hid h6;have HE5:=Lib.hid hE5
 have hB4:B<w4.heap.size:=(Array.getElem?_eq_some_iff.1 HB4.out).1
 clear h5 h6 hE5 HB4 HE4
 have hT2:=Turn.setRow w5 B #[.slice (some ⟨w4.heap.size,0,none⟩) 3 3,.slice ao n c]
 have hl2:=setRow_heap _ _ _ #[.slice (some ⟨w4.heap.size,0,none⟩) 3 3,.slice ao n c] _ _ H5.out
 have b6:=hT2.heap H6.out (by omega)
 have hE6:=HE5.out.after hT2 (fun b hb e=>by have:=HB.out;omega)
 obtain⟨w6,hw6⟩:∃ D,w5.setRow B #[.slice (some ⟨w4.heap.size,0,none⟩) 3 3,.slice ao n c]=D:=⟨_,rfl⟩
 rw [hw6] at hl2 b6 hE6
 clear hT2
 have HC0:Hid ((w4.alloc (.cells #[.int .u32 5,.int .u32 2,.int .u32 2,.int .u32 5,.int .u32 5,.int .u32 2] 95)).heap[B]?=some (.cells #[.slice none 0 0,.slice none 0 0] 105 (0,0))):=Lib.hid (by rw [hw5];exact H5.out)
 go_wp2_with (refine wpList_store_row rfl 105 (.tmp 2) (.tmp 8) rfl B #[.slice (some ⟨w4.heap.size,0,none⟩) 3 3,.slice ao n c] (by rfl) (by rfl) _ _ H5.out (by kernel_rfl) rfl (by kernel_rfl) ?_;try rw [hw6])
 try simp only [Act.put]
 go_wp2
 exact bodyPost_ret (pair_res1 rfl rfl hl2 pairInfo2) rfl ⟨w4.heap.size,rfl,⟨rd_blk (xs:=sndL apaO) b6 rfl (by decide),by simp [WdOk]⟩,hE6⟩
end Go.Proofs.YtfdlhlghcbeblaaGreatDoor
