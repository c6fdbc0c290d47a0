/- The makers of chapter 14's examples: p, b, a, v, f, u, pair (printed by genmko.py). ablautlaw10.repeats, Reps (printed by genrepso.py). -/
import Derived.Test.YtfdlhlghcbeblaaGreatDoorH11
import Derived.Test.YtfdlhlghcbeblaaGreatDoorH15
import Derived.Test.YtfdlhlghcbeblaaGreatDoorH38
import Derived.Test.YtfdlhlghcbeblaaGreatDoorH17
import Derived.Test.YtfdlhlghcbeblaaGreatDoorH07
import Derived.Test.YtfdlhlghcbeblaaGreatDoorH10
set_option maxRecDepth 100000
set_option maxHeartbeats 16000000
namespace Go.Proofs.YtfdlhlghcbeblaaGreatDoor
open Go.RowKit Go.Ab
attribute [local go_sem] Oper.semAt_some wide_fn wide_depth
theorem patInfo7:(Tryz.prog.info? 98).map (·.size)=some 7:=by kernel_rfl
theorem sndInfo2:(Tryz.prog.info? 95).map (·.size)=some 2:=by kernel_rfl
theorem pairInfo2:(Tryz.prog.info? 105).map (·.size)=some 2:=by kernel_rfl
theorem snd_res1{fn:Func}{p:Tmp}(h:fn.results=#[.cell p 95]){tmps:Array Value}{w:World}{g:Nat}{cs:Array Value}(hp:tmps.getD p undef=.pointer (some ⟨g,0,none⟩)) (hg:w.heap[g]?=some (.cells cs 95 (0,0))) (hi:(Tryz.prog.info? 95).map (·.size)=some cs.size) :
  (results fn tmps).run Tryz.prog w=.ok (.agg cs) w:=by
 have hp':tmps[p]?.getD undef=.pointer (some ⟨g,0,none⟩):=by simpa using hp
 simp [results,h,hp',asAddr,run_loadVar_row w g _ _ _ _ _ hg Tryz.underlying95 rfl hi]
theorem law_res1{fn:Func}{p:Tmp}(h:fn.results=#[.cell p 102]){tmps:Array Value}{w:World}{g:Nat}{cs:Array Value}(hp:tmps.getD p undef=.pointer (some ⟨g,0,none⟩)) (hg:w.heap[g]?=some (.cells cs 102 (0,0))) (hi:(Tryz.prog.info? 102).map (·.size)=some cs.size) :
  (results fn tmps).run Tryz.prog w=.ok (.agg cs) w:=by
 have hp':tmps[p]?.getD undef=.pointer (some ⟨g,0,none⟩):=by simpa using hp
 simp [results,h,hp',asAddr,run_loadVar_row w g _ _ _ _ _ hg Tryz.underlying102 rfl hi]
theorem pair_res1{fn:Func}{p:Tmp}(h:fn.results=#[.cell p 105]){tmps:Array Value}{w:World}{g:Nat}{cs:Array Value}(hp:tmps.getD p undef=.pointer (some ⟨g,0,none⟩)) (hg:w.heap[g]?=some (.cells cs 105 (0,0))) (hi:(Tryz.prog.info? 105).map (·.size)=some cs.size) :
  (results fn tmps).run Tryz.prog w=.ok (.agg cs) w:=by
 have hp':tmps[p]?.getD undef=.pointer (some ⟨g,0,none⟩):=by simpa using hp
 simp [results,h,hp',asAddr,run_loadVar_row w g _ _ _ _ _ hg Tryz.underlying105 rfl hi]
theorem op_any(w:World):Calls Tryz.prog 57 #[] w fun e w'=>e=.returned (.agg #[.int .u32 2,.int .u32 5])/\Ext w w':=by
 go_enter Tryz.func57,Tryz.ntmps57
 go_wp2
 exact bodyPost_ret (snd_res1 rfl rfl (new_at rfl) sndInfo2) rfl ⟨rfl,(Turn.refl _ w).alloc _⟩
theorem ob_any(w:World):Calls Tryz.prog 56 #[] w fun e w'=>e=.returned (.agg #[.int .u32 3,.int .u32 4])/\Ext w w':=by
 go_enter Tryz.func56,Tryz.ntmps56
 go_wp2
 exact bodyPost_ret (snd_res1 rfl rfl (new_at rfl) sndInfo2) rfl ⟨rfl,(Turn.refl _ w).alloc _⟩
theorem oa_any(w:World):Calls Tryz.prog 55 #[] w fun e w'=>e=.returned (.agg #[.int .u32 5,.int .u32 2])/\Ext w w':=by
 go_enter Tryz.func55,Tryz.ntmps55
 go_wp2
 exact bodyPost_ret (snd_res1 rfl rfl (new_at rfl) sndInfo2) rfl ⟨rfl,(Turn.refl _ w).alloc _⟩
theorem of_any(w:World):Calls Tryz.prog 53 #[] w fun e w'=>∃ g1:Nat,e=.returned (.agg #[.string ⟨#[70]⟩,.int .i64 0,.int .u32 0,.int .u32 0,.bool false,.int .i64 0,.int .i64 0,.slice none 0 0,.int .i64 6,.int .u32 0,.int .u32 0,.bool false,.int .i64 0,.int .i64 0,.slice none 0 0,.slice (some ⟨g1,0,none⟩) 1 1,.slice none 0 0,.int .i64 1])/\LawAt w' fD [.string ⟨#[70]⟩,.int .i64 0,.int .u32 0,.int .u32 0,.bool false,.int .i64 0,.int .i64 0,.slice none 0 0,.int .i64 6,.int .u32 0,.int .u32 0,.bool false,.int .i64 0,.int .i64 0,.slice none 0 0,.slice (some ⟨g1,0,none⟩) 1 1,.slice none 0 0,.int .i64 1]/\Ext w w':=by
 go_enter Tryz.func53,Tryz.ntmps53
 obtain⟨x1,hx1⟩:∃ D,((w.alloc (.cells #[.string ⟨#[]⟩,.int .i64 0,.int .u32 0,.int .u32 0,.bool false,.int .i64 0,.int .i64 0,.slice none 0 0,.int .i64 0,.int .u32 0,.int .u32 0,.bool false,.int .i64 0,.int .i64 0,.slice none 0 0,.slice none 0 0,.slice none 0 0,.int .i64 0] 102)).alloc (.cells #[.int .u32 4,.int .u32 0] 95))=D:=⟨_,rfl⟩
 have hEx:Ext w x1:=by rw [<-hx1];exact((Turn.refl _ w).alloc _).alloc _
 have a0:x1.heap[w.heap.size]?=some (.cells #[.string ⟨#[]⟩,.int .i64 0,.int .u32 0,.int .u32 0,.bool false,.int .i64 0,.int .i64 0,.slice none 0 0,.int .i64 0,.int .u32 0,.int .u32 0,.bool false,.int .i64 0,.int .i64 0,.slice none 0 0,.slice none 0 0,.slice none 0 0,.int .i64 0] 102 (0,0)):=by rw [<-hx1];exact new_keep (new_at rfl)
 have a1:x1.heap[w.heap.size+1]?=some (.cells #[.int .u32 4,.int .u32 0] 95 (0,0)):=by rw [<-hx1];exact new_at (by simp)
 have HEX:=Lib.hid hEx
 have HA0:=Lib.hid a0
 have HA1:=Lib.hid a1
 clear hEx a0 a1
 have hT2:=Turn.setRow x1 w.heap.size #[.string ⟨#[70]⟩,.int .i64 0,.int .u32 0,.int .u32 0,.bool false,.int .i64 0,.int .i64 0,.slice none 0 0,.int .i64 6,.int .u32 0,.int .u32 0,.bool false,.int .i64 0,.int .i64 0,.slice none 0 0,.slice (some ⟨w.heap.size+1,0,none⟩) 1 1,.slice none 0 0,.int .i64 1]
 have hl2:=setRow_heap _ _ _ #[.string ⟨#[70]⟩,.int .i64 0,.int .u32 0,.int .u32 0,.bool false,.int .i64 0,.int .i64 0,.slice none 0 0,.int .i64 6,.int .u32 0,.int .u32 0,.bool false,.int .i64 0,.int .i64 0,.slice none 0 0,.slice (some ⟨w.heap.size+1,0,none⟩) 1 1,.slice none 0 0,.int .i64 1] _ _ HA0.out
 have b1:=hT2.heap HA1.out (by omega)
 have hE2:Ext w (x1.setRow w.heap.size #[.string ⟨#[70]⟩,.int .i64 0,.int .u32 0,.int .u32 0,.bool false,.int .i64 0,.int .i64 0,.slice none 0 0,.int .i64 6,.int .u32 0,.int .u32 0,.bool false,.int .i64 0,.int .i64 0,.slice none 0 0,.slice (some ⟨w.heap.size+1,0,none⟩) 1 1,.slice none 0 0,.int .i64 1]):=HEX.out.after hT2 (fun b hb e=>by omega)
 obtain⟨w2,hw2⟩:∃ D,x1.setRow w.heap.size #[.string ⟨#[70]⟩,.int .i64 0,.int .u32 0,.int .u32 0,.bool false,.int .i64 0,.int .i64 0,.slice none 0 0,.int .i64 6,.int .u32 0,.int .u32 0,.bool false,.int .i64 0,.int .i64 0,.slice none 0 0,.slice (some ⟨w.heap.size+1,0,none⟩) 1 1,.slice none 0 0,.int .i64 1]=D:=⟨_,rfl⟩
 rw [hw2] at hl2 hE2 b1
 clear hT2
 have HC0:Hid ((((w.alloc (.cells #[.string ⟨#[]⟩,.int .i64 0,.int .u32 0,.int .u32 0,.bool false,.int .i64 0,.int .i64 0,.slice none 0 0,.int .i64 0,.int .u32 0,.int .u32 0,.bool false,.int .i64 0,.int .i64 0,.slice none 0 0,.slice none 0 0,.slice none 0 0,.int .i64 0] 102)).alloc (.cells #[.int .u32 4,.int .u32 0] 95))).heap[w.heap.size]?=some (.cells #[.string ⟨#[]⟩,.int .i64 0,.int .u32 0,.int .u32 0,.bool false,.int .i64 0,.int .i64 0,.slice none 0 0,.int .i64 0,.int .u32 0,.int .u32 0,.bool false,.int .i64 0,.int .i64 0,.slice none 0 0,.slice none 0 0,.slice none 0 0,.int .i64 0] 102 (0,0))):=Lib.hid (by rw [hx1];exact HA0.out)
 go_wp2_with (first | (refine wpList_store_row rfl 102 (.tmp 0) (.tmp 4) rfl w.heap.size #[.string ⟨#[70]⟩,.int .i64 0,.int .u32 0,.int .u32 0,.bool false,.int .i64 0,.int .i64 0,.slice none 0 0,.int .i64 6,.int .u32 0,.int .u32 0,.bool false,.int .i64 0,.int .i64 0,.slice none 0 0,.slice (some ⟨w.heap.size+1,0,none⟩) 1 1,.slice none 0 0,.int .i64 1] (by first | rfl | simp) (by first | rfl | simp) _ _ HA0.out (by kernel_rfl) rfl (by kernel_rfl) ?_;try rw [hw2]))
 try simp only [Act.put]
 go_wp2
 exact bodyPost_ret (law_res1 rfl rfl hl2 (by kernel_rfl)) rfl ⟨w.heap.size+1,rfl,⟨[.int .i64 0,.int .u32 0,.int .u32 0,.bool false,.int .i64 0,.int .i64 0,.slice none 0 0],[.int .i64 6,.int .u32 0,.int .u32 0,.bool false,.int .i64 0,.int .i64 0,.slice none 0 0],_,_,rfl,by decide,pat_leaf _ _ 0 false 0 0 (by decide) (by decide),pat_leaf _ _ 6 false 0 0 (by decide) (by decide),⟨rd_blk (xs:=sndL [(4,0)]) b1 rfl (by decide),by simp [WdOk]⟩,⟨⟨rfl,by simp [maxLen],none,0,rfl,fun h=>by simp at h⟩,by simp [OutOk]⟩⟩,hE2⟩
theorem ou_any(w:World):Calls Tryz.prog 93 #[] w fun e w'=>∃ g1 g2:Nat,e=.returned (.agg #[.string ⟨#[85]⟩,.int .i64 0,.int .u32 0,.int .u32 0,.bool false,.int .i64 0,.int .i64 0,.slice none 0 0,.int .i64 6,.int .u32 0,.int .u32 0,.bool false,.int .i64 0,.int .i64 0,.slice none 0 0,.slice (some ⟨g1,0,none⟩) 1 1,.slice (some ⟨g2,0,none⟩) 1 1,.int .i64 1])/\LawAt w' uD [.string ⟨#[85]⟩,.int .i64 0,.int .u32 0,.int .u32 0,.bool false,.int .i64 0,.int .i64 0,.slice none 0 0,.int .i64 6,.int .u32 0,.int .u32 0,.bool false,.int .i64 0,.int .i64 0,.slice none 0 0,.slice (some ⟨g1,0,none⟩) 1 1,.slice (some ⟨g2,0,none⟩) 1 1,.int .i64 1]/\Ext w w':=by
 go_enter Tryz.func93,Tryz.ntmps93
 obtain⟨x1,hx1⟩:∃ D,(((w.alloc (.cells #[.string ⟨#[]⟩,.int .i64 0,.int .u32 0,.int .u32 0,.bool false,.int .i64 0,.int .i64 0,.slice none 0 0,.int .i64 0,.int .u32 0,.int .u32 0,.bool false,.int .i64 0,.int .i64 0,.slice none 0 0,.slice none 0 0,.slice none 0 0,.int .i64 0] 102)).alloc (.cells #[.int .u32 2,.int .u32 0] 95)).alloc (.cells #[.int .i64 0,.int .u32 0,.int .u32 0,.int .u32 1,.int .u32 0,.int .i64 0] 109))=D:=⟨_,rfl⟩
 have hEx:Ext w x1:=by rw [<-hx1];exact(((Turn.refl _ w).alloc _).alloc _).alloc _
 have a0:x1.heap[w.heap.size]?=some (.cells #[.string ⟨#[]⟩,.int .i64 0,.int .u32 0,.int .u32 0,.bool false,.int .i64 0,.int .i64 0,.slice none 0 0,.int .i64 0,.int .u32 0,.int .u32 0,.bool false,.int .i64 0,.int .i64 0,.slice none 0 0,.slice none 0 0,.slice none 0 0,.int .i64 0] 102 (0,0)):=by rw [<-hx1];exact new_keep (new_keep (new_at rfl))
 have a1:x1.heap[w.heap.size+1]?=some (.cells #[.int .u32 2,.int .u32 0] 95 (0,0)):=by rw [<-hx1];exact new_keep (new_at (by simp))
 have a2:x1.heap[w.heap.size+2]?=some (.cells #[.int .i64 0,.int .u32 0,.int .u32 0,.int .u32 1,.int .u32 0,.int .i64 0] 109 (0,0)):=by rw [<-hx1];exact new_at (by simp)
 have HEX:=Lib.hid hEx
 have HA0:=Lib.hid a0
 have HA1:=Lib.hid a1
 have HA2:=Lib.hid a2
 clear hEx a0 a1 a2
 have hT2:=Turn.setRow x1 w.heap.size #[.string ⟨#[85]⟩,.int .i64 0,.int .u32 0,.int .u32 0,.bool false,.int .i64 0,.int .i64 0,.slice none 0 0,.int .i64 6,.int .u32 0,.int .u32 0,.bool false,.int .i64 0,.int .i64 0,.slice none 0 0,.slice (some ⟨w.heap.size+1,0,none⟩) 1 1,.slice (some ⟨w.heap.size+2,0,none⟩) 1 1,.int .i64 1]
 have hl2:=setRow_heap _ _ _ #[.string ⟨#[85]⟩,.int .i64 0,.int .u32 0,.int .u32 0,.bool false,.int .i64 0,.int .i64 0,.slice none 0 0,.int .i64 6,.int .u32 0,.int .u32 0,.bool false,.int .i64 0,.int .i64 0,.slice none 0 0,.slice (some ⟨w.heap.size+1,0,none⟩) 1 1,.slice (some ⟨w.heap.size+2,0,none⟩) 1 1,.int .i64 1] _ _ HA0.out
 have b1:=hT2.heap HA1.out (by omega)
 have b2:=hT2.heap HA2.out (by omega)
 have hE2:Ext w (x1.setRow w.heap.size #[.string ⟨#[85]⟩,.int .i64 0,.int .u32 0,.int .u32 0,.bool false,.int .i64 0,.int .i64 0,.slice none 0 0,.int .i64 6,.int .u32 0,.int .u32 0,.bool false,.int .i64 0,.int .i64 0,.slice none 0 0,.slice (some ⟨w.heap.size+1,0,none⟩) 1 1,.slice (some ⟨w.heap.size+2,0,none⟩) 1 1,.int .i64 1]):=HEX.out.after hT2 (fun b hb e=>by omega)
 obtain⟨w2,hw2⟩:∃ D,x1.setRow w.heap.size #[.string ⟨#[85]⟩,.int .i64 0,.int .u32 0,.int .u32 0,.bool false,.int .i64 0,.int .i64 0,.slice none 0 0,.int .i64 6,.int .u32 0,.int .u32 0,.bool false,.int .i64 0,.int .i64 0,.slice none 0 0,.slice (some ⟨w.heap.size+1,0,none⟩) 1 1,.slice (some ⟨w.heap.size+2,0,none⟩) 1 1,.int .i64 1]=D:=⟨_,rfl⟩
 rw [hw2] at hl2 hE2 b1 b2
 clear hT2
 have HC0:Hid (((((w.alloc (.cells #[.string ⟨#[]⟩,.int .i64 0,.int .u32 0,.int .u32 0,.bool false,.int .i64 0,.int .i64 0,.slice none 0 0,.int .i64 0,.int .u32 0,.int .u32 0,.bool false,.int .i64 0,.int .i64 0,.slice none 0 0,.slice none 0 0,.slice none 0 0,.int .i64 0] 102)).alloc (.cells #[.int .u32 2,.int .u32 0] 95)).alloc (.cells #[.int .i64 0,.int .u32 0,.int .u32 0,.int .u32 1,.int .u32 0,.int .i64 0] 109))).heap[w.heap.size]?=some (.cells #[.string ⟨#[]⟩,.int .i64 0,.int .u32 0,.int .u32 0,.bool false,.int .i64 0,.int .i64 0,.slice none 0 0,.int .i64 0,.int .u32 0,.int .u32 0,.bool false,.int .i64 0,.int .i64 0,.slice none 0 0,.slice none 0 0,.slice none 0 0,.int .i64 0] 102 (0,0))):=Lib.hid (by rw [hx1];exact HA0.out)
 go_wp2_with (first | (refine wpList_store_row rfl 102 (.tmp 0) (.tmp 7) rfl w.heap.size #[.string ⟨#[85]⟩,.int .i64 0,.int .u32 0,.int .u32 0,.bool false,.int .i64 0,.int .i64 0,.slice none 0 0,.int .i64 6,.int .u32 0,.int .u32 0,.bool false,.int .i64 0,.int .i64 0,.slice none 0 0,.slice (some ⟨w.heap.size+1,0,none⟩) 1 1,.slice (some ⟨w.heap.size+2,0,none⟩) 1 1,.int .i64 1] (by first | rfl | simp) (by first | rfl | simp) _ _ HA0.out (by kernel_rfl) rfl (by kernel_rfl) ?_;try rw [hw2]))
 try simp only [Act.put]
 go_wp2
 exact bodyPost_ret (law_res1 rfl rfl hl2 (by kernel_rfl)) rfl ⟨w.heap.size+1,w.heap.size+2,rfl,⟨[.int .i64 0,.int .u32 0,.int .u32 0,.bool false,.int .i64 0,.int .i64 0,.slice none 0 0],[.int .i64 6,.int .u32 0,.int .u32 0,.bool false,.int .i64 0,.int .i64 0,.slice none 0 0],_,_,rfl,by decide,pat_leaf _ _ 0 false 0 0 (by decide) (by decide),pat_leaf _ _ 6 false 0 0 (by decide) (by decide),⟨rd_blk (xs:=sndL [(2,0)]) b1 rfl (by decide),by simp [WdOk]⟩,⟨rd_blk (xs:=outL [⟨0,0,(0,1),0,0⟩]) b2 rfl (by decide),by simp [OutOk,lt32]⟩⟩,hE2⟩
theorem ov_any(w:World):Calls Tryz.prog 52 #[] w fun e w'=>∃ g1 g2:Nat,e=.returned (.agg #[.string ⟨#[86]⟩,.int .i64 1,.int .u32 4,.int .u32 0,.bool false,.int .i64 0,.int .i64 0,.slice none 0 0,.int .i64 1,.int .u32 4,.int .u32 0,.bool false,.int .i64 0,.int .i64 0,.slice none 0 0,.slice (some ⟨g1,0,none⟩) 1 1,.slice (some ⟨g2,0,none⟩) 1 1,.int .i64 1])/\LawAt w' vD [.string ⟨#[86]⟩,.int .i64 1,.int .u32 4,.int .u32 0,.bool false,.int .i64 0,.int .i64 0,.slice none 0 0,.int .i64 1,.int .u32 4,.int .u32 0,.bool false,.int .i64 0,.int .i64 0,.slice none 0 0,.slice (some ⟨g1,0,none⟩) 1 1,.slice (some ⟨g2,0,none⟩) 1 1,.int .i64 1]/\Ext w w':=by
 go_enter Tryz.func52,Tryz.ntmps52
 obtain⟨x1,hx1⟩:∃ D,((((w.alloc (.cells #[.string ⟨#[]⟩,.int .i64 0,.int .u32 0,.int .u32 0,.bool false,.int .i64 0,.int .i64 0,.slice none 0 0,.int .i64 0,.int .u32 0,.int .u32 0,.bool false,.int .i64 0,.int .i64 0,.slice none 0 0,.slice none 0 0,.slice none 0 0,.int .i64 0] 102)).alloc (.cells #[.int .i64 1,.int .u32 4,.int .u32 0,.bool false,.int .i64 0,.int .i64 0,.slice none 0 0] 98)).alloc (.cells #[.int .u32 2,.int .u32 0] 95)).alloc (.cells #[.int .i64 0,.int .u32 0,.int .u32 1,.int .u32 0,.int .u32 0,.int .i64 0] 109))=D:=⟨_,rfl⟩
 have hEx:Ext w x1:=by rw [<-hx1];exact((((Turn.refl _ w).alloc _).alloc _).alloc _).alloc _
 have a0:x1.heap[w.heap.size]?=some (.cells #[.string ⟨#[]⟩,.int .i64 0,.int .u32 0,.int .u32 0,.bool false,.int .i64 0,.int .i64 0,.slice none 0 0,.int .i64 0,.int .u32 0,.int .u32 0,.bool false,.int .i64 0,.int .i64 0,.slice none 0 0,.slice none 0 0,.slice none 0 0,.int .i64 0] 102 (0,0)):=by rw [<-hx1];exact new_keep (new_keep (new_keep (new_at rfl)))
 have a1:x1.heap[w.heap.size+1]?=some (.cells #[.int .i64 1,.int .u32 4,.int .u32 0,.bool false,.int .i64 0,.int .i64 0,.slice none 0 0] 98 (0,0)):=by rw [<-hx1];exact new_keep (new_keep (new_at (by simp)))
 have a2:x1.heap[w.heap.size+2]?=some (.cells #[.int .u32 2,.int .u32 0] 95 (0,0)):=by rw [<-hx1];exact new_keep (new_at (by simp))
 have a3:x1.heap[w.heap.size+3]?=some (.cells #[.int .i64 0,.int .u32 0,.int .u32 1,.int .u32 0,.int .u32 0,.int .i64 0] 109 (0,0)):=by rw [<-hx1];exact new_at (by simp)
 have HEX:=Lib.hid hEx
 have HA0:=Lib.hid a0
 have HA1:=Lib.hid a1
 have HA2:=Lib.hid a2
 have HA3:=Lib.hid a3
 clear hEx a0 a1 a2 a3
 have hT2:=Turn.setRow x1 w.heap.size #[.string ⟨#[86]⟩,.int .i64 1,.int .u32 4,.int .u32 0,.bool false,.int .i64 0,.int .i64 0,.slice none 0 0,.int .i64 1,.int .u32 4,.int .u32 0,.bool false,.int .i64 0,.int .i64 0,.slice none 0 0,.slice (some ⟨w.heap.size+2,0,none⟩) 1 1,.slice (some ⟨w.heap.size+3,0,none⟩) 1 1,.int .i64 1]
 have hl2:=setRow_heap _ _ _ #[.string ⟨#[86]⟩,.int .i64 1,.int .u32 4,.int .u32 0,.bool false,.int .i64 0,.int .i64 0,.slice none 0 0,.int .i64 1,.int .u32 4,.int .u32 0,.bool false,.int .i64 0,.int .i64 0,.slice none 0 0,.slice (some ⟨w.heap.size+2,0,none⟩) 1 1,.slice (some ⟨w.heap.size+3,0,none⟩) 1 1,.int .i64 1] _ _ HA0.out
 have b2:=hT2.heap HA2.out (by omega)
 have b3:=hT2.heap HA3.out (by omega)
 have hE2:Ext w (x1.setRow w.heap.size #[.string ⟨#[86]⟩,.int .i64 1,.int .u32 4,.int .u32 0,.bool false,.int .i64 0,.int .i64 0,.slice none 0 0,.int .i64 1,.int .u32 4,.int .u32 0,.bool false,.int .i64 0,.int .i64 0,.slice none 0 0,.slice (some ⟨w.heap.size+2,0,none⟩) 1 1,.slice (some ⟨w.heap.size+3,0,none⟩) 1 1,.int .i64 1]):=HEX.out.after hT2 (fun b hb e=>by omega)
 obtain⟨w2,hw2⟩:∃ D,x1.setRow w.heap.size #[.string ⟨#[86]⟩,.int .i64 1,.int .u32 4,.int .u32 0,.bool false,.int .i64 0,.int .i64 0,.slice none 0 0,.int .i64 1,.int .u32 4,.int .u32 0,.bool false,.int .i64 0,.int .i64 0,.slice none 0 0,.slice (some ⟨w.heap.size+2,0,none⟩) 1 1,.slice (some ⟨w.heap.size+3,0,none⟩) 1 1,.int .i64 1]=D:=⟨_,rfl⟩
 rw [hw2] at hl2 hE2 b2 b3
 clear hT2
 have HC0:Hid ((((((w.alloc (.cells #[.string ⟨#[]⟩,.int .i64 0,.int .u32 0,.int .u32 0,.bool false,.int .i64 0,.int .i64 0,.slice none 0 0,.int .i64 0,.int .u32 0,.int .u32 0,.bool false,.int .i64 0,.int .i64 0,.slice none 0 0,.slice none 0 0,.slice none 0 0,.int .i64 0] 102)).alloc (.cells #[.int .i64 1,.int .u32 4,.int .u32 0,.bool false,.int .i64 0,.int .i64 0,.slice none 0 0] 98)).alloc (.cells #[.int .u32 2,.int .u32 0] 95)).alloc (.cells #[.int .i64 0,.int .u32 0,.int .u32 1,.int .u32 0,.int .u32 0,.int .i64 0] 109))).heap[w.heap.size]?=some (.cells #[.string ⟨#[]⟩,.int .i64 0,.int .u32 0,.int .u32 0,.bool false,.int .i64 0,.int .i64 0,.slice none 0 0,.int .i64 0,.int .u32 0,.int .u32 0,.bool false,.int .i64 0,.int .i64 0,.slice none 0 0,.slice none 0 0,.slice none 0 0,.int .i64 0] 102 (0,0))):=Lib.hid (by rw [hx1];exact HA0.out)
 go_wp2_with (first | (refine wpList_load_row rfl 98 (.tmp 1) rfl (w.heap.size+1) (by first | rfl | simp) _ _ _ (by first | exact new_at (by simp) | exact new_at rfl) Tryz.underlying98 rfl patInfo7 ?_) | (refine wpList_store_row rfl 102 (.tmp 0) (.tmp 11) rfl w.heap.size #[.string ⟨#[86]⟩,.int .i64 1,.int .u32 4,.int .u32 0,.bool false,.int .i64 0,.int .i64 0,.slice none 0 0,.int .i64 1,.int .u32 4,.int .u32 0,.bool false,.int .i64 0,.int .i64 0,.slice none 0 0,.slice (some ⟨w.heap.size+2,0,none⟩) 1 1,.slice (some ⟨w.heap.size+3,0,none⟩) 1 1,.int .i64 1] (by first | rfl | simp) (by first | rfl | simp) _ _ HA0.out (by kernel_rfl) rfl (by kernel_rfl) ?_;try rw [hw2]))
 try simp only [Act.put]
 go_wp2
 exact bodyPost_ret (law_res1 rfl rfl hl2 (by kernel_rfl)) rfl ⟨w.heap.size+2,w.heap.size+3,rfl,⟨[.int .i64 1,.int .u32 4,.int .u32 0,.bool false,.int .i64 0,.int .i64 0,.slice none 0 0],[.int .i64 1,.int .u32 4,.int .u32 0,.bool false,.int .i64 0,.int .i64 0,.slice none 0 0],_,_,rfl,by decide,pat_leaf _ _ 1 false 0 0 (by decide) (by decide),pat_leaf _ _ 1 false 0 0 (by decide) (by decide),⟨rd_blk (xs:=sndL [(2,0)]) b2 rfl (by decide),by simp [WdOk]⟩,⟨rd_blk (xs:=outL [⟨0,0,(1,0),0,0⟩]) b3 rfl (by decide),by simp [OutOk,lt32]⟩⟩,hE2⟩
theorem opair_any(w:World)(ao:Option Addr)(n c:Nat):Calls Tryz.prog 54 #[.slice ao n c] w fun e w'=>∃ g:Nat,e=.returned (.agg #[.slice (some ⟨g,0,none⟩) 3 3,.slice ao n c])/\WordAt w' (.slice (some ⟨g,0,none⟩) 3 3) apaO/\Ext w w':=by
 go_enter Tryz.func54,Tryz.ntmps54
 go_upto_region 1 with (fail)
 obtain⟨w1,hw1⟩:∃ D,w.alloc (.cells #[.slice none 0 0,.slice none 0 0] 105)=D:=⟨_,rfl⟩
 have hE1:Ext w w1:=by rw [<-hw1];exact(Turn.refl _ w).alloc _
 have hB1:w1.heap[w.heap.size]?=some (.cells #[.slice none 0 0,.slice none 0 0] 105 (0,0)):=by rw [<-hw1];exact new_at rfl
 rw [hw1]
 obtain⟨B,hB⟩:∃ b,w.heap.size=b:=⟨_,rfl⟩
 rw [hB] at hB1 ⊢
 have HB1:=Lib.hid hB1;have HE1:=Lib.hid hE1;have HB:=Lib.hid hB
 clear hw1 hE1 hB1 hB
 go_wp2_with fail
 refine(oa_any _).mono ?_
 rintro e w2 ⟨rfl,hN2⟩
 go_wp2_with fail
 refine(op_any _).mono ?_
 rintro e w3 ⟨rfl,hN3⟩
 go_wp2_with fail
 refine(oa_any _).mono ?_
 rintro e w4 ⟨rfl,hN4⟩
 have h4:=Ext.keep (hN2.trans (hN3.trans hN4)) HB1.out
 have HE4:=Lib.hid (HE1.out.trans (hN2.trans (hN3.trans hN4)))
 have HB4:=Lib.hid h4
 clear h4 hN2 hN3 hN4 HB1 HE1
 obtain⟨w5,hw5⟩:∃ D,w4.alloc (.cells #[.int .u32 5,.int .u32 2,.int .u32 2,.int .u32 5,.int .u32 5,.int .u32 2] 95)=D:=⟨_,rfl⟩
 have h5:w5.heap[B]?=some (.cells #[.slice none 0 0,.slice none 0 0] 105 (0,0)):=by rw [<-hw5];exact new_keep HB4.out
 have h6:w5.heap[w4.heap.size]?=some (.cells #[.int .u32 5,.int .u32 2,.int .u32 2,.int .u32 5,.int .u32 5,.int .u32 2] 95 (0,0)):=by rw [<-hw5];exact new_at rfl
 have hE5:Ext w w5:=by rw [<-hw5];exact HE4.out.trans ((Turn.refl _ w4).alloc _)
 have H5:=Lib.hid h5;have H6:=Lib.hid h6;have HE5:=Lib.hid hE5
 have hB4:B<w4.heap.size:=(Array.getElem?_eq_some_iff.1 HB4.out).1
 clear h5 h6 hE5 HB4 HE4
 have hT2:=Turn.setRow w5 B #[.slice (some ⟨w4.heap.size,0,none⟩) 3 3,.slice ao n c]
 have hl2:=setRow_heap _ _ _ #[.slice (some ⟨w4.heap.size,0,none⟩) 3 3,.slice ao n c] _ _ H5.out
 have b6:=hT2.heap H6.out (by omega)
 have hE6:=HE5.out.after hT2 (fun b hb e=>by have:=HB.out;omega)
 obtain⟨w6,hw6⟩:∃ D,w5.setRow B #[.slice (some ⟨w4.heap.size,0,none⟩) 3 3,.slice ao n c]=D:=⟨_,rfl⟩
 rw [hw6] at hl2 b6 hE6
 clear hT2
 have HC0:Hid ((w4.alloc (.cells #[.int .u32 5,.int .u32 2,.int .u32 2,.int .u32 5,.int .u32 5,.int .u32 2] 95)).heap[B]?=some (.cells #[.slice none 0 0,.slice none 0 0] 105 (0,0))):=Lib.hid (by rw [hw5];exact H5.out)
 go_wp2_with (refine wpList_store_row rfl 105 (.tmp 2) (.tmp 8) rfl B #[.slice (some ⟨w4.heap.size,0,none⟩) 3 3,.slice ao n c] (by rfl) (by rfl) _ _ H5.out (by kernel_rfl) rfl (by kernel_rfl) ?_;try rw [hw6])
 try simp only [Act.put]
 go_wp2
 exact bodyPost_ret (pair_res1 rfl rfl hl2 pairInfo2) rfl ⟨w4.heap.size,rfl,⟨rd_blk (xs:=sndL apaO) b6 rfl (by decide),by simp [WdOk]⟩,hE6⟩
end Go.Proofs.YtfdlhlghcbeblaaGreatDoor
set_option maxRecDepth 100000
set_option maxHeartbeats 16000000
namespace Go.Proofs.YtfdlhlghcbeblaaGreatDoor
open Go.RowKit Go.Ab
attribute [local go_sem] Oper.semAt_some wide_fn wide_depth
mutual
def repP:Pat->Nat
 | .node k _ _ _ _ _ l=>(if k=5 then 1 else 0)+repL l
def repL:List Pat->Nat
 | []=>0
 | p::l=>repP p+repL l
end
theorem repL_take{l:List Pat}{i:Nat}(hi:i<l.length):repL (l.take (i+1))=repL (l.take i)+repP l[i]:=by
 have key:∀(a b:List Pat),repL (a++b)=repL a+repL b:=by
  intro a
  induction a with
  | nil=>intro b;simp [repL]
  | cons p a ih=>intro b;simp only [List.cons_append,repL,ih];omega
 rw [List.take_succ_eq_append_getElem hi,key]
 simp [repL]
mutual
theorem repP_tot:∀ p:Pat,repP p<=totP p
 | .node k pl mi nt mn mx l=>by
  have:=repL_tot l
  unfold repP totP
  split <;> omega
theorem repL_tot:∀ l:List Pat,repL l<=totL l
 | []=>by simp [repL,totL]
 | p::l=>by
  have h1:=repP_tot p
  have h2:=repL_tot l
  simp only [repL,totL]
  omega
end
theorem totL_get{l:List Pat}{i:Nat}(hi:i<l.length):totP l[i]<=totL l:=by
 induction l generalizing i with
 | nil=>cases hi
 | cons p l ih=>
  simp only [totL]
  cases i with
  | zero=>simp only [List.getElem_cons_zero];omega
  | succ i=>
   have:=ih (i:=i) (by simpa using hi)
   simp only [List.getElem_cons_succ]
   omega
theorem totL_take(l:List Pat)(i:Nat):totL (l.take i)<=totL l:=by
 have:totL l=totL (l.take i)+totL (l.drop i):=by rw [<-totL_append,List.take_append_drop]
 omega
def RepOk(p:Pat):Prop:=∀(K:Nat->Prop) (w:World) (cs:List Value),PatAt K w p cs->totP p<=40 ->
 Calls Tryz.prog 142 #[.agg cs.toArray] w fun e w'=>e=.returned (.int .i64 (repP p:Nat))/\Ext w w'
theorem rep_step(k:Int)(pl mi:Nat)(nt:Bool)(mn mx:Int)(l:List Pat)(ih:∀ p∈l,RepOk p):RepOk (.node k pl mi nt mn mx l):=by
 intro K w cs hp htot
 unfold PatAt at hp
 obtain⟨ao,cap,rfl,hpl,hmi,hlc,hcm,hl⟩:=hp
 have hlm:l.length<=maxLen:=Nat.le_trans hlc hcm
 unfold maxLen at hlm
 have htl:totL l<=39:=by unfold totP at htot;omega
 have hz0:repP (.node k pl mi nt mn mx l)=(if k=5 then 1 else 0)+repL l:=by rw [repP]
 have hbd:∀ i,repL (l.take i)<=39:=fun i=>Nat.le_trans (repL_tot _) (Nat.le_trans (totL_take l i) htl)
 have hsu:=fun i (hi:i<l.length)=>repL_take hi
 have htg:=fun i (hi:i<l.length)=>Nat.le_trans (totL_get hi) htl
 obtain⟨Z,hZ⟩:∃ z,repP (.node k pl mi nt mn mx l)=z:=⟨_,rfl⟩
 rw [hZ] at hz0 ⊢
 have hrall:repL (l.take l.length)=repL l:=by rw [List.take_of_length_le (Nat.le_refl _)]
 obtain⟨N,hN⟩:∃ N,l.length=N:=⟨_,rfl⟩
 rw [hN] at hrall
 have HN:=Lib.hid hN;have HL:=Lib.hid hl;have IH:=Lib.hid ih;have HZ0:=Lib.hid hz0;have HBD:=Lib.hid hbd;have HSU:=Lib.hid hsu;have HTG:=Lib.hid htg;have HRA:=Lib.hid hrall
 unfold patCells
 rw [hN] at hlm ⊢
 clear hl ih hN hlc hcm hpl hmi hZ hz0 hbd hsu htg hrall htot htl
 go_enter Tryz.func142,Tryz.ntmps142
 obtain⟨K0,hK0⟩:∃ q:Nat,(if k=5 then 1 else 0)=q:=⟨_,rfl⟩
 have hz:=HZ0.out
 rw [hK0] at hz
 have hk01:K0<=1:=by rw [<-hK0];split <;> omega
 have HZ:=Lib.hid hz
 clear hz HZ0
 have hbeq:((k:Int) == 5)=decide (k=5):=by by_cases h:k=5 <;> simp [h]
 go_upto_region 2 with (fail)
 have hx:(w.alloc (.cells #[.int .i64 k,.int .u32 (pl:Int),.int .u32 (mi:Int),.bool nt,.int .i64 mn,.int .i64 mx,.slice ao N cap] 98)).heap[w.heap.size]?=some (.cells #[.int .i64 k,.int .u32 (pl:Int),.int .u32 (mi:Int),.bool nt,.int .i64 mn,.int .i64 mx,.slice ao N cap] 98 (0,0)):=new_at rfl
 have hE0:Ext w (w.alloc (.cells #[.int .i64 k,.int .u32 (pl:Int),.int .u32 (mi:Int),.bool nt,.int .i64 mn,.int .i64 mx,.slice ao N cap] 98)):=(Turn.refl _ w).alloc _
 generalize (w.alloc (.cells #[.int .i64 k,.int .u32 (pl:Int),.int .u32 (mi:Int),.bool nt,.int .i64 mn,.int .i64 mx,.slice ao N cap] 98))=w1 at hx hE0 ⊢
 generalize w.heap.size=B at hx ⊢
 have HX:=Lib.hid hx
 have cX:=fun j=>cell_of_row _ _ j _ _ _ hx
 clear hx
 by_cases h5:k=5
 ·subst h5
  have hK1:K0=1:=by rw [<-hK0];rfl
  clear hK0 hbeq
  subst hK1
  go_wp2
  clear cX
  refine wp_loop (fun a W=>∃(i q:Nat),i<=N/\a.defers=[]/\(a.tmps.size=24/\a.tmps.getD 1 undef=.pointer (some ⟨B,0,none⟩)/\a.tmps.getD 3 undef=.int .i64 q/\a.tmps.getD 4 undef=.int .i64 i)/\q=1+repL (l.take i)/\Ext w1 W)
   (fun a _=>N - (intOf (a.tmps.getD 4 undef)).toNat) ?_ ?_
  ·exact⟨0,_,by omega,rfl,⟨rfl,rfl,rfl,rfl⟩,by simp [repL],Turn.refl _ _⟩
  rintro⟨t,_⟩ W ⟨i,q,hi,hds,⟨hsz,f1,f3,f4⟩,hq,hE⟩
  subst hds
  obtain⟨u',hu⟩:=frame_fun hsz
  obtain⟨u,rfl⟩:∃ x,x=u':=⟨_,rfl⟩
  have hu':t=#[u 0,u 1,u 2,u 3,u 4,u 5,u 6,u 7,u 8,u 9,u 10,u 11,u 12,u 13,u 14,u 15,u 16,u 17,u 18,u 19,u 20,u 21,u 22,u 23]:=hu
  clear hu
  subst hu'
  change u 1=_ at f1
  change u 3=_ at f3
  change u 4=_ at f4
  rw [f1,f3,f4]
  clear f1 f3 f4 hsz
  have hx:=hE.keep HX.out
  have cX:=fun j=>cell_of_row _ _ j _ _ _ hx
  have hb:=HBD.out i
  by_cases hiN:i<N
  ·have h1:(i:Int)<(N:Int):=by omega
   have h0:(0:Int)<=(i:Int):=by omega
   have hil:i<l.length:=by rw [HN.out];exact hiN
   obtain⟨g,off,c,rfl,hg,hgl,hra,hpq⟩:=(HL.out.ext (hE0.trans hE)).get i hil
   rw [Nat.zero_add] at hra
   obtain⟨qo,qcap,hcq,_,_,_⟩:=patAt_cells hpq
   obtain⟨c0,c1,c2,c3,c4,c5,c6⟩:=patCells_at hra hcq
   have hc:=IH.out _ (List.getElem_mem hil) K W c hpq (by have:=HTG.out i hil;omega)
   have hs:=HSU.out i hil
   have hb2:=HBD.out (i+1)
   obtain⟨y,hy⟩:∃ a,repP l[i]=a:=⟨_,rfl⟩
   obtain⟨r0,hr0⟩:∃ a,repL (l.take i)=a:=⟨_,rfl⟩
   obtain⟨r1,hr1⟩:∃ a,repL (l.take (i+1))=a:=⟨_,rfl⟩
   rw [hy] at hc hs
   rw [hr0] at hs hb hq
   rw [hr1] at hs hb2
   rw [hcq] at hc
   unfold patCells at hc
   have hwk:IntKind.i64.wrap ((q:Int)+(y:Int))=((q+y:Nat):Int):=by rw [IntWalk.i64_in _ (by omega)];omega
   have hq2:q+y=1+r1:=by omega
   have HQ2:=Lib.hid hq2
   have HC:=Lib.hid hc;have HR1:=Lib.hid hr1
   have hqb:q<=40:=by omega
   clear hc hra hpq hcq hy hx hs hr0 hr1 hq hq2
   go_wp2_with fail
   refine HC.out.mono ?_
   rintro e W2 ⟨rfl,hE2⟩
   have hE22:=hE.trans hE2
   clear hE hE2 c0 c1 c2 c3 c4 c5 c6 HC cX
   go_wp2
   exact⟨⟨i+1,q+y,by omega,by first | rfl | trivial,⟨rfl,rfl,rfl,rfl⟩,by rw [HR1.out];exact HQ2.out,hE22⟩,by simp [intOf];omega⟩
  ·obtain rfl:i=N:=by omega
   have h1:¬ (i:Int)<(i:Int):=by omega
   have hqz:q=Z:=by rw [hq,HRA.out];exact HZ.out.symm
   subst hqz
   clear HZ hq
   go_wp2
   go_ret
   exact⟨rfl,hE0.trans hE⟩
 ·have h6:((k:Int) == 5)=false:=by rw [beq_eq_false_iff_ne];exact h5
  have hK1:K0=0:=by rw [<-hK0,if_neg h5]
  clear hK0 hbeq h5
  subst hK1
  go_wp2
  clear cX
  refine wp_loop (fun a W=>∃(i q:Nat),i<=N/\a.defers=[]/\(a.tmps.size=24/\a.tmps.getD 1 undef=.pointer (some ⟨B,0,none⟩)/\a.tmps.getD 3 undef=.int .i64 q/\a.tmps.getD 4 undef=.int .i64 i)/\q=0+repL (l.take i)/\Ext w1 W)
   (fun a _=>N - (intOf (a.tmps.getD 4 undef)).toNat) ?_ ?_
  ·exact⟨0,_,by omega,rfl,⟨rfl,rfl,rfl,rfl⟩,by simp [repL],Turn.refl _ _⟩
  rintro⟨t,_⟩ W ⟨i,q,hi,hds,⟨hsz,f1,f3,f4⟩,hq,hE⟩
  subst hds
  obtain⟨u',hu⟩:=frame_fun hsz
  obtain⟨u,rfl⟩:∃ x,x=u':=⟨_,rfl⟩
  have hu':t=#[u 0,u 1,u 2,u 3,u 4,u 5,u 6,u 7,u 8,u 9,u 10,u 11,u 12,u 13,u 14,u 15,u 16,u 17,u 18,u 19,u 20,u 21,u 22,u 23]:=hu
  clear hu
  subst hu'
  change u 1=_ at f1
  change u 3=_ at f3
  change u 4=_ at f4
  rw [f1,f3,f4]
  clear f1 f3 f4 hsz
  have hx:=hE.keep HX.out
  have cX:=fun j=>cell_of_row _ _ j _ _ _ hx
  have hb:=HBD.out i
  by_cases hiN:i<N
  ·have h1:(i:Int)<(N:Int):=by omega
   have h0:(0:Int)<=(i:Int):=by omega
   have hil:i<l.length:=by rw [HN.out];exact hiN
   obtain⟨g,off,c,rfl,hg,hgl,hra,hpq⟩:=(HL.out.ext (hE0.trans hE)).get i hil
   rw [Nat.zero_add] at hra
   obtain⟨qo,qcap,hcq,_,_,_⟩:=patAt_cells hpq
   obtain⟨c0,c1,c2,c3,c4,c5,c6⟩:=patCells_at hra hcq
   have hc:=IH.out _ (List.getElem_mem hil) K W c hpq (by have:=HTG.out i hil;omega)
   have hs:=HSU.out i hil
   have hb2:=HBD.out (i+1)
   obtain⟨y,hy⟩:∃ a,repP l[i]=a:=⟨_,rfl⟩
   obtain⟨r0,hr0⟩:∃ a,repL (l.take i)=a:=⟨_,rfl⟩
   obtain⟨r1,hr1⟩:∃ a,repL (l.take (i+1))=a:=⟨_,rfl⟩
   rw [hy] at hc hs
   rw [hr0] at hs hb hq
   rw [hr1] at hs hb2
   rw [hcq] at hc
   unfold patCells at hc
   have hwk:IntKind.i64.wrap ((q:Int)+(y:Int))=((q+y:Nat):Int):=by rw [IntWalk.i64_in _ (by omega)];omega
   have hq2:q+y=0+r1:=by omega
   have HQ2:=Lib.hid hq2
   have HC:=Lib.hid hc;have HR1:=Lib.hid hr1
   have hqb:q<=40:=by omega
   clear hc hra hpq hcq hy hx hs hr0 hr1 hq hq2
   go_wp2_with fail
   refine HC.out.mono ?_
   rintro e W2 ⟨rfl,hE2⟩
   have hE22:=hE.trans hE2
   clear hE hE2 c0 c1 c2 c3 c4 c5 c6 HC cX
   go_wp2
   exact⟨⟨i+1,q+y,by omega,by first | rfl | trivial,⟨rfl,rfl,rfl,rfl⟩,by rw [HR1.out];exact HQ2.out,hE22⟩,by simp [intOf];omega⟩
  ·obtain rfl:i=N:=by omega
   have h1:¬ (i:Int)<(i:Int):=by omega
   have hqz:q=Z:=by rw [hq,HRA.out];exact HZ.out.symm
   subst hqz
   clear HZ hq
   go_wp2
   go_ret
   exact⟨rfl,hE0.trans hE⟩
mutual
theorem rep_all:∀ p:Pat,RepOk p
 | .node k pl mi nt mn mx l=>rep_step k pl mi nt mn mx l (rep_alls l)
theorem rep_alls:∀ l:List Pat,∀ p∈l,RepOk p
 | [],_,h=>by cases h
 | q::l,p,h=>(List.mem_cons.1 h).elim (fun e=>e ▸ rep_all q) (fun h=>rep_alls l p h)
end
theorem range_sub{w:World}{g off:Nat}{cs:List Value}(h:w.rangeAt g off cs)(a n:Nat):w.rangeAt g (off+a) ((cs.drop a).take n):=fun j u hu=>by
 rw [List.getElem?_take] at hu
 split at hu
 ·rw [List.getElem?_drop] at hu
  have:=h (a+j) u hu
  rw [Nat.add_assoc];exact this
 ·cases hu
def RepsO(n:Nat)(lv:Value)(w:World)(a:Act)(W:World):Prop:=∃(i z:Nat),i<=n/\i<=301/\z<=80/\a.defers=[]/\(a.tmps.size=46/\a.tmps.getD 0 undef=lv/\a.tmps.getD 3 undef=.int .i64 z/\a.tmps.getD 4 undef=.int .i64 i)/\Ext w W
def RepsI(z i G:Nat)(lv:Value)(V2:World)(a:Act)(V:World):Prop:=∃(j z2:Nat),j<=2/\z2<=40*j/\a.defers=[]/\(a.tmps.size=46/\a.tmps.getD 0 undef=lv/\a.tmps.getD 3 undef=.int .i64 z/\a.tmps.getD 4 undef=.int .i64 i/\a.tmps.getD 5 undef=.int .i64 z2/\a.tmps.getD 28 undef=.slice (some ⟨G,0,none⟩) 2 2/\a.tmps.getD 29 undef=.int .i64 2/\a.tmps.getD 30 undef=.int .i64 j)/\Ext V2 V
theorem reps_any{w:World}{ps:LawsL}{lo:Option Addr}{n lc:Nat}(hl:LawsAt w (.slice lo n lc) ps) (hn:ps.length=n) :
  Calls Tryz.prog 92 #[.slice lo n lc] w fun e w'=>∃ z:Nat,z<=80/\e=.returned (.int .i64 (z:Int))/\Ext w w':=by
 have hnm:n<=maxLen:=by rw [<-hn];exact hl.1.2.1
 unfold maxLen at hnm
 have HL:=Lib.hid hl;have HN:=Lib.hid hn
 clear hl hn
 go_enter Tryz.func92,Tryz.ntmps92
 go_wp2
 refine wp_loop (RepsO n (.slice lo n lc) w)
  (fun a _=>((n:Int) - intOf (a.tmps.getD 4 undef)).toNat) ?_ ?_
 ·exact⟨0,0,by omega,by omega,by omega,rfl,⟨rfl,rfl,rfl,rfl⟩,Turn.refl _ _⟩
 rintro⟨t,_⟩ W ⟨i,z,hi,hi2,hz,hds,⟨hsz,f0,f3,f4⟩,hE⟩
 subst hds
 obtain⟨u',hu⟩:=frame_fun hsz
 obtain⟨u,rfl⟩:∃ x,x=u':=⟨_,rfl⟩
 have hu':t=#[u 0,u 1,u 2,u 3,u 4,u 5,u 6,u 7,u 8,u 9,u 10,u 11,u 12,u 13,u 14,u 15,u 16,u 17,u 18,u 19,u 20,u 21,u 22,u 23,u 24,u 25,u 26,u 27,u 28,u 29,u 30,u 31,u 32,u 33,u 34,u 35,u 36,u 37,u 38,u 39,u 40,u 41,u 42,u 43,u 44,u 45]:=hu
 clear hu
 subst hu'
 change u 0=_ at f0
 change u 3=_ at f3
 change u 4=_ at f4
 rw [f0,f3,f4]
 clear f0 f3 f4 hsz
 have HE:=Lib.hid hE
 clear hE
 by_cases hin:i<n
 case neg=>
  obtain rfl:i=n:=by omega
  have h1:¬ (i:Int)<(i:Int):=by omega
  clear HL
  go_wp2
  go_ret
  exact⟨z,hz,rfl,HE.out⟩
 have h1:(i:Int)<(n:Int):=by omega
 have h0:(0:Int)<=(i:Int):=by omega
 by_cases hi3:i<=300
 case neg=>
  have h2:¬ (i:Int)<=300:=by omega
  clear HL
  go_wp2
  go_ret
  exact⟨z,hz,rfl,HE.out⟩
 have h2:(i:Int)<=300:=by omega
 have hil:i<ps.length:=by rw [HN.out];exact hin
 obtain⟨g,off,c',hq,hg,hrg,hla,h18⟩:=(HL.out.ext HE.out).at hil
 simp only [Value.slice.injEq] at hq
 obtain⟨rfl,hzz,rfl⟩:=hq
 obtain⟨x,hx⟩:∃ x,ps[i]=x:=⟨_,rfl⟩
 rw [hx] at hrg hla h18
 obtain⟨xl,cs⟩:=x
 dsimp only at hrg hla h18
 clear hx hzz h18 HL
 obtain⟨nm,k1,p1,m1,n1,a1,b1,o1,N1,c1,k2,p2,m2,n2,a2,b2,o2,N2,c2,io,N3,ic,oo,N4,oc,md,rfl,HLA,HPL,HPR,HIF,HOU,HNM,HN1,HN2,HN3,HN4,HMD,q0,q1,q2,q3,q4⟩:=law_gen hla
 have hlg:W.rangeAt g (off+i*18+1) [.int .i64 k1,.int .u32 (p1:Int),.int .u32 (m1:Int),.bool n1,.int .i64 a1,.int .i64 b1,.slice o1 N1 c1]:=range_sub hrg 1 7
 have hrrg:W.rangeAt g (off+i*18+8) [.int .i64 k2,.int .u32 (p2:Int),.int .u32 (m2:Int),.bool n2,.int .i64 a2,.int .i64 b2,.slice o2 N2 c2]:=range_sub hrg 8 7
 have HLG:=Lib.hid hlg;have HRG:=Lib.hid hrrg
 clear hlg hrrg hrg HIF HOU HLA HNM HN3 HN4 HMD
 go_upto_region 6 with (fail)
 have hS0:Ext W W.drew:=(Turn.refl _ W).drew
 refine wp_region_late (S:=fun D=>Ext W D) [] (by kernel_rfl) hS0 ?_
 intro _
 refine tkE (i:=0) (d:=18) (v:=?_) rfl (Or.inl ⟨by rfl,?_⟩) hS0 ?_
 rotate_left
 ·intro w hSw;(try dsimp only at hSw);go_simp;try with_reducible rfl
 try simp only [Act.put,pq]
 refine tkE (i:=1) (d:=19) (v:=?_) rfl (Or.inl ⟨by rfl,?_⟩) hS0 ?_
 rotate_left
 ·intro w hSw;(try dsimp only at hSw);go_simp;try with_reducible rfl
 try simp only [Act.put,pq]
 refine tkE (i:=2) (d:=20) (v:=?_) rfl (Or.inl ⟨by rfl,?_⟩) hS0 ?_
 rotate_left
 ·intro w hSw;(try dsimp only at hSw);go_simp;try with_reducible rfl
 try simp only [Act.put,pq]
 refine tkE (i:=3) (d:=21) (v:=?_) rfl (Or.inl ⟨by rfl,?_⟩) hS0 ?_
 rotate_left
 ·intro w hSw;(try dsimp only at hSw);go_simp;try with_reducible rfl
 try simp only [Act.put,pq]
 refine tkE (i:=4) (d:=22) (v:=?_) rfl (Or.inl ⟨by rfl,?_⟩) hS0 ?_
 rotate_left
 ·intro D hD;refine exec_load_at (x:=.tmp 21) ?_ g (off+i*18+1) ?_ [.int .i64 k1,.int .u32 (p1:Int),.int .u32 (m1:Int),.bool n1,.int .i64 a1,.int .i64 b1,.slice o1 N1 c1] _ (fun j u hu=>(show Ext W D from hD).cell_some (HLG.out j u hu) id) Tryz.underlying98 rfl (by kernel_rfl) <;> first | rfl | (simp;done)
 try simp only [Act.put,pq]
 refine tkE (i:=5) (d:=23) (v:=?_) rfl (Or.inl ⟨by rfl,?_⟩) hS0 ?_
 rotate_left
 ·intro w hSw;(try dsimp only at hSw);go_simp;try with_reducible rfl
 try simp only [Act.put,pq]
 refine tkE (i:=6) (d:=24) (v:=?_) rfl (Or.inl ⟨by rfl,?_⟩) hS0 ?_
 rotate_left
 ·intro w hSw;(try dsimp only at hSw);go_simp;try with_reducible rfl
 try simp only [Act.put,pq]
 refine tkE (i:=7) (d:=25) (v:=?_) rfl (Or.inl ⟨by rfl,?_⟩) hS0 ?_
 rotate_left
 ·intro w hSw;(try dsimp only at hSw);go_simp;try with_reducible rfl
 try simp only [Act.put,pq]
 refine tkE (i:=8) (d:=26) (v:=?_) rfl (Or.inl ⟨by rfl,?_⟩) hS0 ?_
 rotate_left
 ·intro w hSw;(try dsimp only at hSw);go_simp;try with_reducible rfl
 try simp only [Act.put,pq]
 refine tkE (i:=9) (d:=27) (v:=?_) rfl (Or.inl ⟨by rfl,?_⟩) hS0 ?_
 rotate_left
 ·intro D hD;refine exec_load_at (x:=.tmp 26) ?_ g (off+i*18+8) ?_ [.int .i64 k2,.int .u32 (p2:Int),.int .u32 (m2:Int),.bool n2,.int .i64 a2,.int .i64 b2,.slice o2 N2 c2] _ (fun j u hu=>(show Ext W D from hD).cell_some (HRG.out j u hu) id) Tryz.underlying98 rfl (by kernel_rfl) <;> first | rfl | (simp;done)
 try simp only [Act.put,pq]
 refine tkE (i:=12) (d:=30) (v:=?_) rfl (Or.inl ⟨by rfl,?_⟩) hS0 ?_
 rotate_left
 ·intro w hSw;(try dsimp only at hSw);go_simp;try with_reducible rfl
 try simp only [Act.put,pq]
 obtain⟨V,hV⟩:∃ D,W.drew=D:=⟨_,rfl⟩
 rw [hV] at hS0 ⊢
 clear hV
 refine wpAnyE_ready (rs:=[10]) (by kernel_rfl) (by simp) ?_
 refine AllReadyE.cons rfl (fun K hK=>?_) AllReadyE.nil
 (try rw [if_pos (show Region.wanted _ _=true from rfl)])
 go_simp
 obtain⟨V2,hV2⟩:∃ D,V.alloc (.cells #[.int .i64 k1,.int .u32 (p1:Int),.int .u32 (m1:Int),.bool n1,.int .i64 a1,.int .i64 b1,.slice o1 N1 c1,.int .i64 k2,.int .u32 (p2:Int),.int .u32 (m2:Int),.bool n2,.int .i64 a2,.int .i64 b2,.slice o2 N2 c2] 98)=D:=⟨_,rfl⟩
 have hA:V2.heap[V.heap.size]?=some (.cells #[.int .i64 k1,.int .u32 (p1:Int),.int .u32 (m1:Int),.bool n1,.int .i64 a1,.int .i64 b1,.slice o1 N1 c1,.int .i64 k2,.int .u32 (p2:Int),.int .u32 (m2:Int),.bool n2,.int .i64 a2,.int .i64 b2,.slice o2 N2 c2] 98 (0,0)):=by rw [<-hV2];exact new_at rfl
 have hS1:Ext W V2:=by rw [<-hV2];exact hS0.alloc _
 rw [hV2]
 obtain⟨G,hG⟩:∃ b,V.heap.size=b:=⟨_,rfl⟩
 rw [hG] at hA ⊢
 have HA:=Lib.hid hA
 clear hV2 hA hG hS0
 refine hK.out _ _ hS1 (fun _=>?_)
 clear hK K
 try simp only [Act.put,pq]
 refine tkE (i:=11) (d:=29) (v:=?_) rfl (Or.inl ⟨by rfl,?_⟩) hS1 ?_
 rotate_left
 ·intro w hSw;(try dsimp only at hSw);go_simp;try with_reducible rfl
 try simp only [Act.put,pq]
 refine wpAnyE_done (by kernel_rfl) ?_ _
 have HS1:=Lib.hid hS1
 clear hS1 HLG HRG
 have range_L:∀(D:World),D.heap[G]?=some (.cells #[.int .i64 k1,.int .u32 (p1:Int),.int .u32 (m1:Int),.bool n1,.int .i64 a1,.int .i64 b1,.slice o1 N1 c1,.int .i64 k2,.int .u32 (p2:Int),.int .u32 (m2:Int),.bool n2,.int .i64 a2,.int .i64 b2,.slice o2 N2 c2] 98 (0,0))->D.rangeAt G 0 [.int .i64 k1,.int .u32 (p1:Int),.int .u32 (m1:Int),.bool n1,.int .i64 a1,.int .i64 b1,.slice o1 N1 c1]:=fun D h=>by
  have:=range_sub (w:=D) (g:=G) (off:=0) (cs:=[.int .i64 k1,.int .u32 (p1:Int),.int .u32 (m1:Int),.bool n1,.int .i64 a1,.int .i64 b1,.slice o1 N1 c1,.int .i64 k2,.int .u32 (p2:Int),.int .u32 (m2:Int),.bool n2,.int .i64 a2,.int .i64 b2,.slice o2 N2 c2]) (fun q u hu=>by have:=cell_of_row _ _ q _ _ _ h;rw [Nat.zero_add,this];simpa using hu) 0 7
  exact this
 have range_R:∀(D:World),D.heap[G]?=some (.cells #[.int .i64 k1,.int .u32 (p1:Int),.int .u32 (m1:Int),.bool n1,.int .i64 a1,.int .i64 b1,.slice o1 N1 c1,.int .i64 k2,.int .u32 (p2:Int),.int .u32 (m2:Int),.bool n2,.int .i64 a2,.int .i64 b2,.slice o2 N2 c2] 98 (0,0))->D.rangeAt G 7 [.int .i64 k2,.int .u32 (p2:Int),.int .u32 (m2:Int),.bool n2,.int .i64 a2,.int .i64 b2,.slice o2 N2 c2]:=fun D h=>by
  have:=range_sub (w:=D) (g:=G) (off:=0) (cs:=[.int .i64 k1,.int .u32 (p1:Int),.int .u32 (m1:Int),.bool n1,.int .i64 a1,.int .i64 b1,.slice o1 N1 c1,.int .i64 k2,.int .u32 (p2:Int),.int .u32 (m2:Int),.bool n2,.int .i64 a2,.int .i64 b2,.slice o2 N2 c2]) (fun q u hu=>by have:=cell_of_row _ _ q _ _ _ h;rw [Nat.zero_add,this];simpa using hu) 7 7
  exact this
 have RL:=Lib.hid range_L;have RR:=Lib.hid range_R
 clear range_L range_R
 go_wp2
 refine wp_loop (RepsI z i G (.slice (some ⟨g,off,none⟩) n lc) V2)
  (fun a _=>(2 - intOf (a.tmps.getD 30 undef)).toNat) ?_ ?_
 ·exact⟨0,0,by omega,by omega,rfl,⟨rfl,rfl,rfl,rfl,rfl,rfl,rfl,rfl⟩,Turn.refl _ _⟩
 rintro⟨t,_⟩ V ⟨j,z2,hj,hz2,hds,⟨hsz,f0,f3,f4,f5,f28,f29,f30⟩,hEV⟩
 subst hds
 obtain⟨u',hu⟩:=frame_fun hsz
 obtain⟨u,rfl⟩:∃ x,x=u':=⟨_,rfl⟩
 have hu':t=#[u 0,u 1,u 2,u 3,u 4,u 5,u 6,u 7,u 8,u 9,u 10,u 11,u 12,u 13,u 14,u 15,u 16,u 17,u 18,u 19,u 20,u 21,u 22,u 23,u 24,u 25,u 26,u 27,u 28,u 29,u 30,u 31,u 32,u 33,u 34,u 35,u 36,u 37,u 38,u 39,u 40,u 41,u 42,u 43,u 44,u 45]:=hu
 clear hu
 subst hu'
 change u 0=_ at f0
 change u 3=_ at f3
 change u 4=_ at f4
 change u 5=_ at f5
 change u 28=_ at f28
 change u 29=_ at f29
 change u 30=_ at f30
 rw [f0,f3,f4,f5,f28,f29,f30]
 clear f0 f3 f4 f5 f28 f29 f30 hsz
 have HEV:=Lib.hid hEV
 clear hEV
 rcases(by omega:j=0\/j=1\/j=2) with rfl | rfl | rfl
 ·have h3:(0:Int)<2:=by decide
  have hp:=HPL.out.ext (HS1.out.trans HEV.out)
  have hr:V.rangeAt G 0 [.int .i64 k1,.int .u32 (p1:Int),.int .u32 (m1:Int),.bool n1,.int .i64 a1,.int .i64 b1,.slice o1 N1 c1]:=fun q u hu=>(HEV.out).cell_some (RL.out _ HA.out q u hu) id
  obtain⟨V3,hV3⟩:∃ D,V.alloc (.cells #[.int .i64 k1,.int .u32 (p1:Int),.int .u32 (m1:Int),.bool n1,.int .i64 a1,.int .i64 b1,.slice o1 N1 c1] 98)=D:=⟨_,rfl⟩
  have hB3:V3.heap[V.heap.size]?=some (.cells #[.int .i64 k1,.int .u32 (p1:Int),.int .u32 (m1:Int),.bool n1,.int .i64 a1,.int .i64 b1,.slice o1 N1 c1] 98 (0,0)):=by rw [<-hV3];exact new_at rfl
  have hE3:Ext V V3:=by rw [<-hV3];exact(Turn.refl _ V).alloc _
  obtain⟨B,hB⟩:∃ b,V.heap.size=b:=⟨_,rfl⟩
  rw [hB] at hB3
  have hpp:=hp.ext hE3
  have hsz2:=refsize_any hpp
  have hst:=sizeP_tot xl.left
  have hrp:=fun(D:World) (hD:Ext V3 D) (h:totP xl.left<=40)=>rep_all xl.left _ D _ (hpp.ext hD) h
  have hrt:=repP_tot xl.left
  obtain⟨tt,htt⟩:∃ q,totP xl.left=q:=⟨_,rfl⟩
  obtain⟨rr,hrr⟩:∃ q,repP xl.left=q:=⟨_,rfl⟩
  obtain⟨ss,hss⟩:∃ q,sizeP xl.left=q:=⟨_,rfl⟩
  rw [hss] at hsz2 hst
  rw [htt] at hst hrt
  simp only [htt,hrr] at hrp
  rw [hrr] at hrt
  have HB3:=Lib.hid hB3;have HE3:=Lib.hid hE3;have HSZ:=Lib.hid hsz2;have HRP:=Lib.hid hrp
  clear hB3 hE3 hsz2 hrp hp hpp htt hrr hss
  go_upto_region 9 with ((refine wpList_load_at (by rfl) 98 (.tmp 32) rfl G 0 (by first | rfl | simp) _ _ hr Tryz.underlying98 rfl (by kernel_rfl) ?_))
  try rw [hV3]
  try rw [hB]
  clear hV3 hB hr
  try simp only [Act.put]
  go_wp2_with (refine wpList_load_row rfl 98 (.tmp 7) rfl B rfl _ _ _ _ HB3.out Tryz.underlying98 rfl (by kernel_rfl) ?_)
  refine HSZ.out.mono ?_
  rintro e V4 ⟨rfl,hE4⟩
  have HB4:=Lib.hid (hE4.keep HB3.out);have HE4:=Lib.hid hE4
  clear hE4 HSZ HB3
  by_cases h40:ss<=40
  ·have g1:(ss:Int)<=40:=by omega
   have ht40:tt<=40:=by omega
   have hrp:=HRP.out V4 HE4.out ht40
   have HRP2:=Lib.hid hrp
   clear hrp HRP
   go_wp2_with (refine wpList_load_row rfl 98 (.tmp 7) rfl B rfl _ _ _ _ HB4.out Tryz.underlying98 rfl (by kernel_rfl) ?_)
   refine HRP2.out.mono ?_
   rintro e V5 ⟨rfl,hE5⟩
   have HE5:=Lib.hid (HEV.out.trans (HE3.out.trans (HE4.out.trans hE5)))
   have hwk:IntKind.i64.wrap ((z2:Int)+(rr:Int))=((z2+rr:Nat):Int):=by rw [IntWalk.i64_in _ (by omega)];omega
   clear hE5 HRP2 HB4 HE4 HE3
   go_wp2
   exact⟨⟨1,z2+rr,by omega,by omega,by first | rfl | trivial,⟨rfl,rfl,rfl,rfl,rfl,rfl,rfl,rfl⟩,HE5.out⟩,by first | (simp [intOf];done) | (simp [intOf];omega)⟩
  ·have g1:¬ (ss:Int)<=40:=by omega
   have HE5:=Lib.hid (HEV.out.trans (HE3.out.trans HE4.out))
   clear HRP HB4 HE4 HE3
   go_wp2
   exact⟨⟨1,z2,by omega,by omega,by first | rfl | trivial,⟨rfl,rfl,rfl,rfl,rfl,rfl,rfl,rfl⟩,HE5.out⟩,by first | (simp [intOf];done) | (simp [intOf];omega)⟩
 ·have h3:(1:Int)<2:=by decide
  have hp:=HPR.out.ext (HS1.out.trans HEV.out)
  have hr:V.rangeAt G 7 [.int .i64 k2,.int .u32 (p2:Int),.int .u32 (m2:Int),.bool n2,.int .i64 a2,.int .i64 b2,.slice o2 N2 c2]:=fun q u hu=>(HEV.out).cell_some (RR.out _ HA.out q u hu) id
  obtain⟨V3,hV3⟩:∃ D,V.alloc (.cells #[.int .i64 k2,.int .u32 (p2:Int),.int .u32 (m2:Int),.bool n2,.int .i64 a2,.int .i64 b2,.slice o2 N2 c2] 98)=D:=⟨_,rfl⟩
  have hB3:V3.heap[V.heap.size]?=some (.cells #[.int .i64 k2,.int .u32 (p2:Int),.int .u32 (m2:Int),.bool n2,.int .i64 a2,.int .i64 b2,.slice o2 N2 c2] 98 (0,0)):=by rw [<-hV3];exact new_at rfl
  have hE3:Ext V V3:=by rw [<-hV3];exact(Turn.refl _ V).alloc _
  obtain⟨B,hB⟩:∃ b,V.heap.size=b:=⟨_,rfl⟩
  rw [hB] at hB3
  have hpp:=hp.ext hE3
  have hsz2:=refsize_any hpp
  have hst:=sizeP_tot xl.right
  have hrp:=fun(D:World) (hD:Ext V3 D) (h:totP xl.right<=40)=>rep_all xl.right _ D _ (hpp.ext hD) h
  have hrt:=repP_tot xl.right
  obtain⟨tt,htt⟩:∃ q,totP xl.right=q:=⟨_,rfl⟩
  obtain⟨rr,hrr⟩:∃ q,repP xl.right=q:=⟨_,rfl⟩
  obtain⟨ss,hss⟩:∃ q,sizeP xl.right=q:=⟨_,rfl⟩
  rw [hss] at hsz2 hst
  rw [htt] at hst hrt
  simp only [htt,hrr] at hrp
  rw [hrr] at hrt
  have HB3:=Lib.hid hB3;have HE3:=Lib.hid hE3;have HSZ:=Lib.hid hsz2;have HRP:=Lib.hid hrp
  clear hB3 hE3 hsz2 hrp hp hpp htt hrr hss
  go_upto_region 9 with ((refine wpList_load_at (by rfl) 98 (.tmp 32) rfl G 7 (by first | rfl | simp) _ _ hr Tryz.underlying98 rfl (by kernel_rfl) ?_))
  try rw [hV3]
  try rw [hB]
  clear hV3 hB hr
  try simp only [Act.put]
  go_wp2_with (refine wpList_load_row rfl 98 (.tmp 7) rfl B rfl _ _ _ _ HB3.out Tryz.underlying98 rfl (by kernel_rfl) ?_)
  refine HSZ.out.mono ?_
  rintro e V4 ⟨rfl,hE4⟩
  have HB4:=Lib.hid (hE4.keep HB3.out);have HE4:=Lib.hid hE4
  clear hE4 HSZ HB3
  by_cases h40:ss<=40
  ·have g1:(ss:Int)<=40:=by omega
   have ht40:tt<=40:=by omega
   have hrp:=HRP.out V4 HE4.out ht40
   have HRP2:=Lib.hid hrp
   clear hrp HRP
   go_wp2_with (refine wpList_load_row rfl 98 (.tmp 7) rfl B rfl _ _ _ _ HB4.out Tryz.underlying98 rfl (by kernel_rfl) ?_)
   refine HRP2.out.mono ?_
   rintro e V5 ⟨rfl,hE5⟩
   have HE5:=Lib.hid (HEV.out.trans (HE3.out.trans (HE4.out.trans hE5)))
   have hwk:IntKind.i64.wrap ((z2:Int)+(rr:Int))=((z2+rr:Nat):Int):=by rw [IntWalk.i64_in _ (by omega)];omega
   clear hE5 HRP2 HB4 HE4 HE3
   go_wp2
   exact⟨⟨2,z2+rr,by omega,by omega,by first | rfl | trivial,⟨rfl,rfl,rfl,rfl,rfl,rfl,rfl,rfl⟩,HE5.out⟩,by first | (simp [intOf];done) | (simp [intOf];omega)⟩
  ·have g1:¬ (ss:Int)<=40:=by omega
   have HE5:=Lib.hid (HEV.out.trans (HE3.out.trans HE4.out))
   clear HRP HB4 HE4 HE3
   go_wp2
   exact⟨⟨2,z2,by omega,by omega,by first | rfl | trivial,⟨rfl,rfl,rfl,rfl,rfl,rfl,rfl,rfl⟩,HE5.out⟩,by first | (simp [intOf];done) | (simp [intOf];omega)⟩
 ·have h3:¬ (2:Int)<2:=by decide
  have hmx:max (z:Int) (z2:Int)=((max z z2:Nat):Int):=by omega
  clear RL RR HA HPL HPR HN1 HN2
  go_wp2
  exact⟨⟨i+1,max z z2,by omega,by omega,by omega,by first | rfl | trivial,⟨rfl,rfl,rfl,rfl⟩,HE.out.trans (HS1.out.trans HEV.out)⟩,by first | (simp [intOf];done) | (simp [intOf];omega)⟩
end Go.Proofs.YtfdlhlghcbeblaaGreatDoor
