/- ablautlaw14.works (printed by genworkso.py). ablautref14.place. -/
import Derived.Test.YtfdlhlghcbeblaaGreatDoorH39
import Derived.Test.YtfdlhlghcbeblaaGreatDoorH42
import Derived.Test.YtfdlhlghcbeblaaGreatDoorH38
import Derived.Test.YtfdlhlghcbeblaaGreatDoorH34
import Derived.Test.YtfdlhlghcbeblaaGreatDoorH36
import Derived.Test.YtfdlhlghcbeblaaGreatDoorH10
import Derived.Test.YtfdlhlghcbeblaaGreatDoorH28
set_option maxRecDepth 100000
set_option maxHeartbeats 16000000
namespace Go.Proofs.YtfdlhlghcbeblaaGreatDoor
open Go.RowKit Go.Ab
attribute [local go_sem] Oper.semAt_some wide_fn wide_depth
theorem oworks_any(w:World)(hT:Tab w):Calls Tryz.prog 33 #[] w fun e w'=>e=.returned (.bool true)/\Ext w w':=by
 go_enter Tryz.func33,Tryz.ntmps33
 have e0:Ext w w:=Turn.refl _ _
 go_wp2_with fail
 refine(ov_any _).mono ?_
 rintro e V1 ⟨q1,q2,rfl,l1,hN⟩
 have e1:Ext w V1:=e0.trans hN
 have s1:=hN
 have L1:Hid (∀ D,Ext V1 D->LawAt D vD [.string ⟨#[86]⟩,.int .i64 1,.int .u32 4,.int .u32 0,.bool false,.int .i64 0,.int .i64 0,.slice none 0 0,.int .i64 1,.int .u32 4,.int .u32 0,.bool false,.int .i64 0,.int .i64 0,.slice none 0 0,.slice (some ⟨q1,0,none⟩) 1 1,.slice (some ⟨q2,0,none⟩) 1 1,.int .i64 1]):=Lib.hid (fun D hD=>l1.ext hD)
 clear l1
 clear hN
 go_wp2_with fail
 refine(of_any _).mono ?_
 rintro e V2 ⟨q3,rfl,l2,hN⟩
 have e2:Ext w V2:=e1.trans hN
 have s2:=hN
 have L2:Hid (∀ D,Ext V2 D->LawAt D fD [.string ⟨#[70]⟩,.int .i64 0,.int .u32 0,.int .u32 0,.bool false,.int .i64 0,.int .i64 0,.slice none 0 0,.int .i64 6,.int .u32 0,.int .u32 0,.bool false,.int .i64 0,.int .i64 0,.slice none 0 0,.slice (some ⟨q3,0,none⟩) 1 1,.slice none 0 0,.int .i64 1]):=Lib.hid (fun D hD=>l2.ext hD)
 clear l2
 have n12:=hN
 clear hN
 go_wp2_with fail
 refine(ou_any _).mono ?_
 rintro e V3 ⟨q4,q5,rfl,l3,hN⟩
 have e3:Ext w V3:=e2.trans hN
 have s3:=hN
 have L3:Hid (∀ D,Ext V3 D->LawAt D uD [.string ⟨#[85]⟩,.int .i64 0,.int .u32 0,.int .u32 0,.bool false,.int .i64 0,.int .i64 0,.slice none 0 0,.int .i64 6,.int .u32 0,.int .u32 0,.bool false,.int .i64 0,.int .i64 0,.slice none 0 0,.slice (some ⟨q4,0,none⟩) 1 1,.slice (some ⟨q5,0,none⟩) 1 1,.int .i64 1]):=Lib.hid (fun D hD=>l3.ext hD)
 clear l3
 have n23:=hN
 clear hN
 obtain⟨V4,hV4⟩:∃ D,V3.alloc (.cells #[.string ⟨#[86]⟩,.int .i64 1,.int .u32 4,.int .u32 0,.bool false,.int .i64 0,.int .i64 0,.slice none 0 0,.int .i64 1,.int .u32 4,.int .u32 0,.bool false,.int .i64 0,.int .i64 0,.slice none 0 0,.slice (some ⟨q1,0,none⟩) 1 1,.slice (some ⟨q2,0,none⟩) 1 1,.int .i64 1,.string ⟨#[70]⟩,.int .i64 0,.int .u32 0,.int .u32 0,.bool false,.int .i64 0,.int .i64 0,.slice none 0 0,.int .i64 6,.int .u32 0,.int .u32 0,.bool false,.int .i64 0,.int .i64 0,.slice none 0 0,.slice (some ⟨q3,0,none⟩) 1 1,.slice none 0 0,.int .i64 1,.string ⟨#[85]⟩,.int .i64 0,.int .u32 0,.int .u32 0,.bool false,.int .i64 0,.int .i64 0,.slice none 0 0,.int .i64 6,.int .u32 0,.int .u32 0,.bool false,.int .i64 0,.int .i64 0,.slice none 0 0,.slice (some ⟨q4,0,none⟩) 1 1,.slice (some ⟨q5,0,none⟩) 1 1,.int .i64 1] 102)=D:=⟨_,rfl⟩
 have e4:Ext w V4:=by rw [<-hV4];exact e3.alloc _
 have hGL:V4.heap[V3.heap.size]?=some (.cells #[.string ⟨#[86]⟩,.int .i64 1,.int .u32 4,.int .u32 0,.bool false,.int .i64 0,.int .i64 0,.slice none 0 0,.int .i64 1,.int .u32 4,.int .u32 0,.bool false,.int .i64 0,.int .i64 0,.slice none 0 0,.slice (some ⟨q1,0,none⟩) 1 1,.slice (some ⟨q2,0,none⟩) 1 1,.int .i64 1,.string ⟨#[70]⟩,.int .i64 0,.int .u32 0,.int .u32 0,.bool false,.int .i64 0,.int .i64 0,.slice none 0 0,.int .i64 6,.int .u32 0,.int .u32 0,.bool false,.int .i64 0,.int .i64 0,.slice none 0 0,.slice (some ⟨q3,0,none⟩) 1 1,.slice none 0 0,.int .i64 1,.string ⟨#[85]⟩,.int .i64 0,.int .u32 0,.int .u32 0,.bool false,.int .i64 0,.int .i64 0,.slice none 0 0,.int .i64 6,.int .u32 0,.int .u32 0,.bool false,.int .i64 0,.int .i64 0,.slice none 0 0,.slice (some ⟨q4,0,none⟩) 1 1,.slice (some ⟨q5,0,none⟩) 1 1,.int .i64 1] 102 (0,0)):=by rw [<-hV4];exact new_at rfl
 have n3:Ext V3 V4:=by rw [<-hV4];exact(Turn.refl _ V3).alloc _
 have s4:=n3
 obtain⟨GL,gGL⟩:∃ b,V3.heap.size=b:=⟨_,rfl⟩
 rw [gGL] at hGL
 have hl:LawsAt V4 (.slice (some ⟨GL,0,none⟩) 3 3) [(vD,[.string ⟨#[86]⟩,.int .i64 1,.int .u32 4,.int .u32 0,.bool false,.int .i64 0,.int .i64 0,.slice none 0 0,.int .i64 1,.int .u32 4,.int .u32 0,.bool false,.int .i64 0,.int .i64 0,.slice none 0 0,.slice (some ⟨q1,0,none⟩) 1 1,.slice (some ⟨q2,0,none⟩) 1 1,.int .i64 1]),(fD,[.string ⟨#[70]⟩,.int .i64 0,.int .u32 0,.int .u32 0,.bool false,.int .i64 0,.int .i64 0,.slice none 0 0,.int .i64 6,.int .u32 0,.int .u32 0,.bool false,.int .i64 0,.int .i64 0,.slice none 0 0,.slice (some ⟨q3,0,none⟩) 1 1,.slice none 0 0,.int .i64 1]),(uD,[.string ⟨#[85]⟩,.int .i64 0,.int .u32 0,.int .u32 0,.bool false,.int .i64 0,.int .i64 0,.slice none 0 0,.int .i64 6,.int .u32 0,.int .u32 0,.bool false,.int .i64 0,.int .i64 0,.slice none 0 0,.slice (some ⟨q4,0,none⟩) 1 1,.slice (some ⟨q5,0,none⟩) 1 1,.int .i64 1])]:=⟨rd_blk (xs:=[.string ⟨#[86]⟩,.int .i64 1,.int .u32 4,.int .u32 0,.bool false,.int .i64 0,.int .i64 0,.slice none 0 0,.int .i64 1,.int .u32 4,.int .u32 0,.bool false,.int .i64 0,.int .i64 0,.slice none 0 0,.slice (some ⟨q1,0,none⟩) 1 1,.slice (some ⟨q2,0,none⟩) 1 1,.int .i64 1,.string ⟨#[70]⟩,.int .i64 0,.int .u32 0,.int .u32 0,.bool false,.int .i64 0,.int .i64 0,.slice none 0 0,.int .i64 6,.int .u32 0,.int .u32 0,.bool false,.int .i64 0,.int .i64 0,.slice none 0 0,.slice (some ⟨q3,0,none⟩) 1 1,.slice none 0 0,.int .i64 1,.string ⟨#[85]⟩,.int .i64 0,.int .u32 0,.int .u32 0,.bool false,.int .i64 0,.int .i64 0,.slice none 0 0,.int .i64 6,.int .u32 0,.int .u32 0,.bool false,.int .i64 0,.int .i64 0,.slice none 0 0,.slice (some ⟨q4,0,none⟩) 1 1,.slice (some ⟨q5,0,none⟩) 1 1,.int .i64 1]) hGL rfl (by decide),fun p hp=>by
  simp only [List.mem_cons,List.not_mem_nil,or_false] at hp
  rcases hp with rfl | rfl | rfl
  ·exact L1.out _ (n12.trans (n23.trans n3))
  ·exact L2.out _ (n23.trans n3)
  ·exact L3.out _ n3⟩
 have HL:Hid (∀ D,Ext V4 D->LawsAt D (.slice (some ⟨GL,0,none⟩) 3 3) [(vD,[.string ⟨#[86]⟩,.int .i64 1,.int .u32 4,.int .u32 0,.bool false,.int .i64 0,.int .i64 0,.slice none 0 0,.int .i64 1,.int .u32 4,.int .u32 0,.bool false,.int .i64 0,.int .i64 0,.slice none 0 0,.slice (some ⟨q1,0,none⟩) 1 1,.slice (some ⟨q2,0,none⟩) 1 1,.int .i64 1]),(fD,[.string ⟨#[70]⟩,.int .i64 0,.int .u32 0,.int .u32 0,.bool false,.int .i64 0,.int .i64 0,.slice none 0 0,.int .i64 6,.int .u32 0,.int .u32 0,.bool false,.int .i64 0,.int .i64 0,.slice none 0 0,.slice (some ⟨q3,0,none⟩) 1 1,.slice none 0 0,.int .i64 1]),(uD,[.string ⟨#[85]⟩,.int .i64 0,.int .u32 0,.int .u32 0,.bool false,.int .i64 0,.int .i64 0,.slice none 0 0,.int .i64 6,.int .u32 0,.int .u32 0,.bool false,.int .i64 0,.int .i64 0,.slice none 0 0,.slice (some ⟨q4,0,none⟩) 1 1,.slice (some ⟨q5,0,none⟩) 1 1,.int .i64 1])]):=Lib.hid (fun D hD=>hl.ext hD)
 clear hl L1 L2 L3 n12 n23 n3
 go_wp2_with fail
 refine(oa_any _).mono ?_
 rintro e V5 ⟨rfl,hN⟩
 have e5:Ext w V5:=e4.trans hN
 have s5:=hN
 clear hV4 gGL hGL
 clear hN
 go_wp2_with fail
 refine(ob_any _).mono ?_
 rintro e V6 ⟨rfl,hN⟩
 have e6:Ext w V6:=e5.trans hN
 have s6:=hN
 clear hN
 obtain⟨V7,hV7⟩:∃ D,V6.alloc (.cells #[.int .u32 5,.int .u32 2,.int .u32 3,.int .u32 4] 95)=D:=⟨_,rfl⟩
 have e7:Ext w V7:=by rw [<-hV7];exact e6.alloc _
 have hGA:V7.heap[V6.heap.size]?=some (.cells #[.int .u32 5,.int .u32 2,.int .u32 3,.int .u32 4] 95 (0,0)):=by rw [<-hV7];exact new_at rfl
 have n6:Ext V6 V7:=by rw [<-hV7];exact(Turn.refl _ V6).alloc _
 have s7:=n6
 obtain⟨GA,gGA⟩:∃ b,V6.heap.size=b:=⟨_,rfl⟩
 rw [gGA] at hGA
 have wGA:Hid (∀ D,Ext V7 D->WordAt D (.slice (some ⟨GA,0,none⟩) 2 2) abO):=Lib.hid (fun D hD=>WordAt.ext ⟨rd_blk (xs:=sndL abO) hGA rfl (by decide),by simp [WdOk]⟩ hD)
 clear n6
 go_wp2_with fail
 refine(opair_any _ _ _ _).mono ?_
 rintro e V8 ⟨FGA,rfl,hf,hN⟩
 have e8:Ext w V8:=e7.trans hN
 have s8:=hN
 have fGA:Hid (∀ D,Ext V8 D->WordAt D (.slice (some ⟨FGA,0,none⟩) 3 3) apaO):=Lib.hid (fun D hD=>hf.ext hD)
 have wGA:Hid (∀ D,Ext V8 D->WordAt D (.slice (some ⟨GA,0,none⟩) 2 2) abO):=Lib.hid (fun D hD=>wGA.out D (hN.trans hD))
 clear hN hf
 clear hV7 gGA hGA
 obtain⟨V9,hV9⟩:∃ D,V8.alloc (.cells #[.slice (some ⟨FGA,0,none⟩) 3 3,.slice (some ⟨GA,0,none⟩) 2 2] 105)=D:=⟨_,rfl⟩
 have e9:Ext w V9:=by rw [<-hV9];exact e8.alloc _
 have hGP:V9.heap[V8.heap.size]?=some (.cells #[.slice (some ⟨FGA,0,none⟩) 3 3,.slice (some ⟨GA,0,none⟩) 2 2] 105 (0,0)):=by rw [<-hV9];exact new_at rfl
 have n8:Ext V8 V9:=by rw [<-hV9];exact(Turn.refl _ V8).alloc _
 have s9:=n8
 obtain⟨GP,gGP⟩:∃ b,V8.heap.size=b:=⟨_,rfl⟩
 rw [gGP] at hGP
 have hp:PairsAt V9 (.slice (some ⟨GP,0,none⟩) 1 1) [((apaO,abO),[.slice (some ⟨FGA,0,none⟩) 3 3,.slice (some ⟨GA,0,none⟩) 2 2])]:=⟨rd_blk (xs:=[.slice (some ⟨FGA,0,none⟩) 3 3,.slice (some ⟨GA,0,none⟩) 2 2]) hGP rfl (by decide),fun p hp=>by
  simp only [List.mem_cons,List.not_mem_nil,or_false] at hp
  subst hp
  exact⟨rfl,_,_,rfl,⟨_,3,rfl,fGA.out _ n8,Nat.le_refl 3⟩,⟨_,2,rfl,wGA.out _ n8,Nat.le_refl 2⟩⟩⟩
 have HP:Hid (∀ D,Ext V9 D->PairsAt D (.slice (some ⟨GP,0,none⟩) 1 1) [((apaO,abO),[.slice (some ⟨FGA,0,none⟩) 3 3,.slice (some ⟨GA,0,none⟩) 2 2])]):=Lib.hid (fun D hD=>pairs_ext hp hD)
 have HGP:Hid (∀ D,Ext V9 D->D.heap[GP]?=some (.cells #[.slice (some ⟨FGA,0,none⟩) 3 3,.slice (some ⟨GA,0,none⟩) 2 2] 105 (0,0))):=Lib.hid (fun D hD=>Ext.keep hD hGP)
 have wGA:Hid (∀ D,Ext V9 D->WordAt D (.slice (some ⟨GA,0,none⟩) 2 2) abO):=Lib.hid (fun D hD=>wGA.out D (n8.trans hD))
 have fGA:Hid (∀ D,Ext V9 D->WordAt D (.slice (some ⟨FGA,0,none⟩) 3 3) apaO):=Lib.hid (fun D hD=>fGA.out D (n8.trans hD))
 clear hp hGP n8
 go_wp2_with fail
 refine(oa_any _).mono ?_
 rintro e V10 ⟨rfl,hN⟩
 have e10:Ext w V10:=e9.trans hN
 have s10:=hN
 clear hV9 gGP
 clear hN
 go_wp2_with fail
 refine(op_any _).mono ?_
 rintro e V11 ⟨rfl,hN⟩
 have e11:Ext w V11:=e10.trans hN
 have s11:=hN
 clear hN
 obtain⟨V12,hV12⟩:∃ D,V11.alloc (.cells #[.int .u32 5,.int .u32 2,.int .u32 2,.int .u32 5] 95)=D:=⟨_,rfl⟩
 have e12:Ext w V12:=by rw [<-hV12];exact e11.alloc _
 have hGB:V12.heap[V11.heap.size]?=some (.cells #[.int .u32 5,.int .u32 2,.int .u32 2,.int .u32 5] 95 (0,0)):=by rw [<-hV12];exact new_at rfl
 have n11:Ext V11 V12:=by rw [<-hV12];exact(Turn.refl _ V11).alloc _
 have s12:=n11
 obtain⟨GB,gGB⟩:∃ b,V11.heap.size=b:=⟨_,rfl⟩
 rw [gGB] at hGB
 have wGB:Hid (∀ D,Ext V12 D->WordAt D (.slice (some ⟨GB,0,none⟩) 2 2) apO):=Lib.hid (fun D hD=>WordAt.ext ⟨rd_blk (xs:=sndL apO) hGB rfl (by decide),by simp [WdOk]⟩ hD)
 clear n11
 go_wp2_with fail
 refine(opair_any _ _ _ _).mono ?_
 rintro e V13 ⟨FGB,rfl,hf,hN⟩
 have e13:Ext w V13:=e12.trans hN
 have s13:=hN
 have fGB:Hid (∀ D,Ext V13 D->WordAt D (.slice (some ⟨FGB,0,none⟩) 3 3) apaO):=Lib.hid (fun D hD=>hf.ext hD)
 have wGB:Hid (∀ D,Ext V13 D->WordAt D (.slice (some ⟨GB,0,none⟩) 2 2) apO):=Lib.hid (fun D hD=>wGB.out D (hN.trans hD))
 clear hN hf
 clear hV12 gGB hGB
 obtain⟨V14,hV14⟩:∃ D,V13.alloc (.cells #[.slice (some ⟨FGB,0,none⟩) 3 3,.slice (some ⟨GB,0,none⟩) 2 2] 105)=D:=⟨_,rfl⟩
 have e14:Ext w V14:=by rw [<-hV14];exact e13.alloc _
 have hBX:V14.heap[V13.heap.size]?=some (.cells #[.slice (some ⟨FGB,0,none⟩) 3 3,.slice (some ⟨GB,0,none⟩) 2 2] 105 (0,0)):=by rw [<-hV14];exact new_at rfl
 have n13:Ext V13 V14:=by rw [<-hV14];exact(Turn.refl _ V13).alloc _
 have s14:=n13
 obtain⟨BX,gBX⟩:∃ b,V13.heap.size=b:=⟨_,rfl⟩
 rw [gBX] at hBX
 have HBX:Hid (∀ D,Ext V14 D->D.heap[BX]?=some (.cells #[.slice (some ⟨FGB,0,none⟩) 3 3,.slice (some ⟨GB,0,none⟩) 2 2] 105 (0,0))):=Lib.hid (fun D hD=>Ext.keep hD hBX)
 have wGB:Hid (∀ D,Ext V14 D->WordAt D (.slice (some ⟨GB,0,none⟩) 2 2) apO):=Lib.hid (fun D hD=>wGB.out D (n13.trans hD))
 have fGB:Hid (∀ D,Ext V14 D->WordAt D (.slice (some ⟨FGB,0,none⟩) 3 3) apaO):=Lib.hid (fun D hD=>fGB.out D (n13.trans hD))
 go_upto_region 3 with (fail)
 clear hV14 gBX hBX n13
 have x4:Ext V4 V14:=(s5.trans (s6.trans (s7.trans (s8.trans (s9.trans (s10.trans (s11.trans (s12.trans (s13.trans s14)))))))))
 have xp:Ext V9 V14:=(s10.trans (s11.trans (s12.trans (s13.trans s14))))
 go_cut [4,5,6] from 30 to 40 (fun v4 v5 v6 wx=>v4=.int .i64 1/\v5=.bool true/\v6=.int .i64 0/\Ext V14 wx)
 case first=>
  have hS0:Ext V14 V14.drew:=(Turn.refl _ V14).drew
  refine wp_region_late (S:=fun D=>Ext V14 D) [] (by kernel_rfl) hS0 ?_
  intro _
  obtain⟨U0,hU0⟩:∃ D,V14.drew=D:=⟨_,rfl⟩
  rw [hU0] at hS0 ⊢
  clear hU0
  refine tkE (i:=0) (d:=30) (v:=?_) rfl (Or.inl ⟨by rfl,?_⟩) hS0 ?_
  rotate_left
  ·intro w hSw;(try dsimp only at hSw);go_simp;try with_reducible rfl
  try simp only [Act.put,pq]
  refine tkE (i:=2) (d:=32) (v:=?_) rfl (Or.inl ⟨by rfl,?_⟩) hS0 ?_
  rotate_left
  ·intro D hD;have hrow:=HBX.out D (show Ext V14 D from hD);refine exec_load_row (x:=.tmp 3) ?_ BX ?_ _ _ _ hrow Tryz.underlying105 pairInfo2 <;> rfl
  try simp only [Act.put,pq]
  refine tkE (i:=3) (d:=33) (v:=?_) rfl (Or.inl ⟨by rfl,?_⟩) hS0 ?_
  rotate_left
  ·intro w hSw;(try dsimp only at hSw);go_simp;try with_reducible rfl
  try simp only [Act.put,pq]
  refine tkE (i:=4) (d:=34) (v:=?_) rfl (Or.inl ⟨by rfl,?_⟩) hS0 ?_
  rotate_left
  ·intro w hSw;(try dsimp only at hSw);go_simp;try with_reducible rfl
  try simp only [Act.put,pq]
  refine tkE (i:=5) (d:=35) (v:=?_) rfl (Or.inl ⟨by rfl,?_⟩) hS0 ?_
  rotate_left
  ·intro D hD;have hrow:=HGP.out D (xp.trans (show Ext V14 D from hD));refine exec_load_row (x:=.tmp 34) ?_ GP ?_ _ _ _ hrow Tryz.underlying105 pairInfo2 <;> rfl
  try simp only [Act.put,pq]
  refine wpAnyE_ready (rs:=[1,6]) (by kernel_rfl) (by simp) ?_
  refine AllReadyE.cons rfl (fun K hK=>?_) (AllReadyE.cons rfl (fun K hK=>?_) AllReadyE.nil)
  ·(try rw [if_pos (show Region.wanted _ _=true from rfl)])
   go_simp
   obtain⟨U1,hU⟩:∃ D,U0.alloc (.cells #[.int .i64 0,.int .i64 1,.int .i64 2] 3)=D:=⟨_,rfl⟩
   have hI:U1.heap[U0.heap.size]?=some (.cells #[.int .i64 0,.int .i64 1,.int .i64 2] 3 (0,0)):=by rw [<-hU];exact new_at rfl
   have hS1:Ext V14 U1:=by rw [<-hU];exact hS0.alloc _
   rw [hU]
   obtain⟨GI,hGI⟩:∃ b,U0.heap.size=b:=⟨_,rfl⟩
   rw [hGI] at hI ⊢
   have RI:Hid (∀ D,Ext U1 D->Rd D (.slice (some ⟨GI,0,none⟩) 3 3) 3 1 (intV [0,1,2])):=Lib.hid (fun D hD=>(rd_blk (xs:=intV [0,1,2]) hI rfl (by decide)).ext hD)
   have iU1:Ext U0 U1:=by rw [<-hU];exact(Turn.refl _ _).alloc _
   clear hU hI hGI
   refine hK _ _ hS1 (fun _=>?_)
   clear hK K
   try simp only [Act.put,pq]
   refine wpAnyE_ready (rs:=[6]) (by kernel_rfl) (by simp) ?_
   refine AllReadyE.cons rfl (fun K hK=>?_) AllReadyE.nil
   (try rw [if_pos (show Region.wanted _ _=true from rfl)])
   go_simp
   obtain⟨U2,hU⟩:∃ D,U1.alloc (.cells #[.slice (some ⟨FGB,0,none⟩) 3 3,.slice (some ⟨GB,0,none⟩) 2 2,.slice (some ⟨FGA,0,none⟩) 3 3,.slice (some ⟨GA,0,none⟩) 2 2] 105)=D:=⟨_,rfl⟩
   have hI:U2.heap[U1.heap.size]?=some (.cells #[.slice (some ⟨FGB,0,none⟩) 3 3,.slice (some ⟨GB,0,none⟩) 2 2,.slice (some ⟨FGA,0,none⟩) 3 3,.slice (some ⟨GA,0,none⟩) 2 2] 105 (0,0)):=by rw [<-hU];exact new_at rfl
   have hS2:Ext V14 U2:=by rw [<-hU];exact hS1.alloc _
   rw [hU]
   obtain⟨GQ,hGQ⟩:∃ b,U1.heap.size=b:=⟨_,rfl⟩
   rw [hGQ] at hI ⊢
   have RQ:Hid (∀ D,Ext U2 D->PairsAt D (.slice (some ⟨GQ,0,none⟩) 2 2) [((apaO,apO),[.slice (some ⟨FGB,0,none⟩) 3 3,.slice (some ⟨GB,0,none⟩) 2 2]),((apaO,abO),[.slice (some ⟨FGA,0,none⟩) 3 3,.slice (some ⟨GA,0,none⟩) 2 2])]):=Lib.hid (fun D hD=>pairs_ext (v:=.slice (some ⟨GQ,0,none⟩) 2 2) ⟨rd_blk (xs:=[.slice (some ⟨FGB,0,none⟩) 3 3,.slice (some ⟨GB,0,none⟩) 2 2,.slice (some ⟨FGA,0,none⟩) 3 3,.slice (some ⟨GA,0,none⟩) 2 2]) hI rfl (by decide),fun p hp=>by
    simp only [List.mem_cons,List.not_mem_nil,or_false] at hp
    rcases hp with rfl | rfl
    ·exact⟨rfl,_,_,rfl,⟨_,3,rfl,fGB.out _ hS2,Nat.le_refl 3⟩,⟨_,2,rfl,wGB.out _ hS2,Nat.le_refl 2⟩⟩
    ·exact⟨rfl,_,_,rfl,⟨_,3,rfl,fGA.out _ (xp.trans hS2),Nat.le_refl 3⟩,⟨_,2,rfl,wGA.out _ (xp.trans hS2),Nat.le_refl 2⟩⟩⟩ hD)
   have iU2:Ext U1 U2:=by rw [<-hU];exact(Turn.refl _ _).alloc _
   clear hU hI hGQ
   refine hK _ _ hS2 (fun _=>?_)
   clear hK K
   try simp only [Act.put,pq]
   refine wpAnyE_ready (rs:=[7]) (by kernel_rfl) (by simp) ?_
   refine AllReadyE.cons rfl (fun K hK=>?_) AllReadyE.nil
   (try rw [if_pos (show Region.wanted _ _=true from rfl)])
   go_simp
   have hw:=wo_fits (qs:=[((apaO,apO),[.slice (some ⟨FGB,0,none⟩) 3 3,.slice (some ⟨GB,0,none⟩) 2 2]),((apaO,abO),[.slice (some ⟨FGA,0,none⟩) 3 3,.slice (some ⟨GA,0,none⟩) 2 2])]) rfl
   have hc:=fits_law (w:=U2) (ps:=[(vD,[.string ⟨#[86]⟩,.int .i64 1,.int .u32 4,.int .u32 0,.bool false,.int .i64 0,.int .i64 0,.slice none 0 0,.int .i64 1,.int .u32 4,.int .u32 0,.bool false,.int .i64 0,.int .i64 0,.slice none 0 0,.slice (some ⟨q1,0,none⟩) 1 1,.slice (some ⟨q2,0,none⟩) 1 1,.int .i64 1]),(fD,[.string ⟨#[70]⟩,.int .i64 0,.int .u32 0,.int .u32 0,.bool false,.int .i64 0,.int .i64 0,.slice none 0 0,.int .i64 6,.int .u32 0,.int .u32 0,.bool false,.int .i64 0,.int .i64 0,.slice none 0 0,.slice (some ⟨q3,0,none⟩) 1 1,.slice none 0 0,.int .i64 1]),(uD,[.string ⟨#[85]⟩,.int .i64 0,.int .u32 0,.int .u32 0,.bool false,.int .i64 0,.int .i64 0,.slice none 0 0,.int .i64 6,.int .u32 0,.int .u32 0,.bool false,.int .i64 0,.int .i64 0,.slice none 0 0,.slice (some ⟨q4,0,none⟩) 1 1,.slice (some ⟨q5,0,none⟩) 1 1,.int .i64 1])]) (qs:=[((apaO,apO),[.slice (some ⟨FGB,0,none⟩) 3 3,.slice (some ⟨GB,0,none⟩) 2 2]),((apaO,abO),[.slice (some ⟨FGA,0,none⟩) 3 3,.slice (some ⟨GA,0,none⟩) 2 2])]) (xs:=[0,1,2]) (HL.out _ (x4.trans hS2)) rfl (RI.out _ iU2) rfl (RQ.out _ (Turn.refl _ _)) rfl (hT.keep (e14.trans hS2) id)
   simp only [List.map_cons,List.map_nil] at hc hw
   rw [hw.1,hw.2.1,hw.2.2] at hc
   have HC:=Lib.hid hc
   clear hc hw
   refine HC.out.mono ?_
   rintro e U3 ⟨rfl,hN⟩
   have hS3:Ext V14 U3:=hS2.trans hN
   clear hN HC
   refine hK _ _ hS3 (fun _=>?_)
   clear hK K
   try simp only [Act.put,pq]
   refine tkE (i:=8) (d:=29) (v:=?_) rfl (Or.inl ⟨by rfl,?_⟩) hS3 ?_
   rotate_left
   ·intro w hSw;(try dsimp only at hSw);go_simp;try with_reducible rfl
   try simp only [Act.put,pq]
   refine tkE (i:=9) (d:=38) (v:=?_) rfl (Or.inl ⟨by rfl,?_⟩) hS3 ?_
   rotate_left
   ·intro w hSw;(try dsimp only at hSw);go_simp;try with_reducible rfl
   try simp only [Act.put,pq]
   refine tkE (i:=10) (d:=39) (v:=?_) rfl (Or.inl ⟨by rfl,?_⟩) hS3 ?_
   rotate_left
   ·intro w hSw;(try dsimp only at hSw);go_simp;try with_reducible rfl
   try simp only [Act.put,pq]
   refine tkE (i:=11) (d:=40) (v:=?_) rfl (Or.inl ⟨by rfl,?_⟩) hS3 ?_
   rotate_left
   ·intro w hSw;(try dsimp only at hSw);go_simp;try with_reducible rfl
   try simp only [Act.put,pq]
   refine tkE (i:=12) (d:=4) (v:=?_) rfl (Or.inl ⟨by rfl,?_⟩) hS3 ?_
   rotate_left
   ·intro w hSw;(try dsimp only at hSw);go_simp;try with_reducible rfl
   try simp only [Act.put,pq]
   refine tkE (i:=13) (d:=5) (v:=?_) rfl (Or.inl ⟨by rfl,?_⟩) hS3 ?_
   rotate_left
   ·intro w hSw;(try dsimp only at hSw);go_simp;try with_reducible rfl
   try simp only [Act.put,pq]
   refine tkE (i:=14) (d:=6) (v:=?_) rfl (Or.inl ⟨by rfl,?_⟩) hS3 ?_
   rotate_left
   ·intro w hSw;(try dsimp only at hSw);go_simp;try with_reducible rfl
   try simp only [Act.put,pq]
   refine wpAnyE_done (by kernel_rfl) ?_ _
   have HS3:=Lib.hid hS3
   clear hS3 hS2 hS1 hS0
   go_wp2
   go_meet
   case rel=>exact⟨rfl,rfl,rfl,HS3.out⟩
  ·(try rw [if_pos (show Region.wanted _ _=true from rfl)])
   go_simp
   obtain⟨U1,hU⟩:∃ D,U0.alloc (.cells #[.slice (some ⟨FGB,0,none⟩) 3 3,.slice (some ⟨GB,0,none⟩) 2 2,.slice (some ⟨FGA,0,none⟩) 3 3,.slice (some ⟨GA,0,none⟩) 2 2] 105)=D:=⟨_,rfl⟩
   have hI:U1.heap[U0.heap.size]?=some (.cells #[.slice (some ⟨FGB,0,none⟩) 3 3,.slice (some ⟨GB,0,none⟩) 2 2,.slice (some ⟨FGA,0,none⟩) 3 3,.slice (some ⟨GA,0,none⟩) 2 2] 105 (0,0)):=by rw [<-hU];exact new_at rfl
   have hS1:Ext V14 U1:=by rw [<-hU];exact hS0.alloc _
   rw [hU]
   obtain⟨GQ,hGQ⟩:∃ b,U0.heap.size=b:=⟨_,rfl⟩
   rw [hGQ] at hI ⊢
   have RQ:Hid (∀ D,Ext U1 D->PairsAt D (.slice (some ⟨GQ,0,none⟩) 2 2) [((apaO,apO),[.slice (some ⟨FGB,0,none⟩) 3 3,.slice (some ⟨GB,0,none⟩) 2 2]),((apaO,abO),[.slice (some ⟨FGA,0,none⟩) 3 3,.slice (some ⟨GA,0,none⟩) 2 2])]):=Lib.hid (fun D hD=>pairs_ext (v:=.slice (some ⟨GQ,0,none⟩) 2 2) ⟨rd_blk (xs:=[.slice (some ⟨FGB,0,none⟩) 3 3,.slice (some ⟨GB,0,none⟩) 2 2,.slice (some ⟨FGA,0,none⟩) 3 3,.slice (some ⟨GA,0,none⟩) 2 2]) hI rfl (by decide),fun p hp=>by
    simp only [List.mem_cons,List.not_mem_nil,or_false] at hp
    rcases hp with rfl | rfl
    ·exact⟨rfl,_,_,rfl,⟨_,3,rfl,fGB.out _ hS1,Nat.le_refl 3⟩,⟨_,2,rfl,wGB.out _ hS1,Nat.le_refl 2⟩⟩
    ·exact⟨rfl,_,_,rfl,⟨_,3,rfl,fGA.out _ (xp.trans hS1),Nat.le_refl 3⟩,⟨_,2,rfl,wGA.out _ (xp.trans hS1),Nat.le_refl 2⟩⟩⟩ hD)
   have iU1:Ext U0 U1:=by rw [<-hU];exact(Turn.refl _ _).alloc _
   clear hU hI hGQ
   refine hK _ _ hS1 (fun _=>?_)
   clear hK K
   try simp only [Act.put,pq]
   refine wpAnyE_ready (rs:=[1]) (by kernel_rfl) (by simp) ?_
   refine AllReadyE.cons rfl (fun K hK=>?_) AllReadyE.nil
   (try rw [if_pos (show Region.wanted _ _=true from rfl)])
   go_simp
   obtain⟨U2,hU⟩:∃ D,U1.alloc (.cells #[.int .i64 0,.int .i64 1,.int .i64 2] 3)=D:=⟨_,rfl⟩
   have hI:U2.heap[U1.heap.size]?=some (.cells #[.int .i64 0,.int .i64 1,.int .i64 2] 3 (0,0)):=by rw [<-hU];exact new_at rfl
   have hS2:Ext V14 U2:=by rw [<-hU];exact hS1.alloc _
   rw [hU]
   obtain⟨GI,hGI⟩:∃ b,U1.heap.size=b:=⟨_,rfl⟩
   rw [hGI] at hI ⊢
   have RI:Hid (∀ D,Ext U2 D->Rd D (.slice (some ⟨GI,0,none⟩) 3 3) 3 1 (intV [0,1,2])):=Lib.hid (fun D hD=>(rd_blk (xs:=intV [0,1,2]) hI rfl (by decide)).ext hD)
   have iU2:Ext U1 U2:=by rw [<-hU];exact(Turn.refl _ _).alloc _
   clear hU hI hGI
   refine hK _ _ hS2 (fun _=>?_)
   clear hK K
   try simp only [Act.put,pq]
   refine wpAnyE_ready (rs:=[7]) (by kernel_rfl) (by simp) ?_
   refine AllReadyE.cons rfl (fun K hK=>?_) AllReadyE.nil
   (try rw [if_pos (show Region.wanted _ _=true from rfl)])
   go_simp
   have hw:=wo_fits (qs:=[((apaO,apO),[.slice (some ⟨FGB,0,none⟩) 3 3,.slice (some ⟨GB,0,none⟩) 2 2]),((apaO,abO),[.slice (some ⟨FGA,0,none⟩) 3 3,.slice (some ⟨GA,0,none⟩) 2 2])]) rfl
   have hc:=fits_law (w:=U2) (ps:=[(vD,[.string ⟨#[86]⟩,.int .i64 1,.int .u32 4,.int .u32 0,.bool false,.int .i64 0,.int .i64 0,.slice none 0 0,.int .i64 1,.int .u32 4,.int .u32 0,.bool false,.int .i64 0,.int .i64 0,.slice none 0 0,.slice (some ⟨q1,0,none⟩) 1 1,.slice (some ⟨q2,0,none⟩) 1 1,.int .i64 1]),(fD,[.string ⟨#[70]⟩,.int .i64 0,.int .u32 0,.int .u32 0,.bool false,.int .i64 0,.int .i64 0,.slice none 0 0,.int .i64 6,.int .u32 0,.int .u32 0,.bool false,.int .i64 0,.int .i64 0,.slice none 0 0,.slice (some ⟨q3,0,none⟩) 1 1,.slice none 0 0,.int .i64 1]),(uD,[.string ⟨#[85]⟩,.int .i64 0,.int .u32 0,.int .u32 0,.bool false,.int .i64 0,.int .i64 0,.slice none 0 0,.int .i64 6,.int .u32 0,.int .u32 0,.bool false,.int .i64 0,.int .i64 0,.slice none 0 0,.slice (some ⟨q4,0,none⟩) 1 1,.slice (some ⟨q5,0,none⟩) 1 1,.int .i64 1])]) (qs:=[((apaO,apO),[.slice (some ⟨FGB,0,none⟩) 3 3,.slice (some ⟨GB,0,none⟩) 2 2]),((apaO,abO),[.slice (some ⟨FGA,0,none⟩) 3 3,.slice (some ⟨GA,0,none⟩) 2 2])]) (xs:=[0,1,2]) (HL.out _ (x4.trans hS2)) rfl (RI.out _ (Turn.refl _ _)) rfl (RQ.out _ iU2) rfl (hT.keep (e14.trans hS2) id)
   simp only [List.map_cons,List.map_nil] at hc hw
   rw [hw.1,hw.2.1,hw.2.2] at hc
   have HC:=Lib.hid hc
   clear hc hw
   refine HC.out.mono ?_
   rintro e U3 ⟨rfl,hN⟩
   have hS3:Ext V14 U3:=hS2.trans hN
   clear hN HC
   refine hK _ _ hS3 (fun _=>?_)
   clear hK K
   try simp only [Act.put,pq]
   refine tkE (i:=8) (d:=29) (v:=?_) rfl (Or.inl ⟨by rfl,?_⟩) hS3 ?_
   rotate_left
   ·intro w hSw;(try dsimp only at hSw);go_simp;try with_reducible rfl
   try simp only [Act.put,pq]
   refine tkE (i:=9) (d:=38) (v:=?_) rfl (Or.inl ⟨by rfl,?_⟩) hS3 ?_
   rotate_left
   ·intro w hSw;(try dsimp only at hSw);go_simp;try with_reducible rfl
   try simp only [Act.put,pq]
   refine tkE (i:=10) (d:=39) (v:=?_) rfl (Or.inl ⟨by rfl,?_⟩) hS3 ?_
   rotate_left
   ·intro w hSw;(try dsimp only at hSw);go_simp;try with_reducible rfl
   try simp only [Act.put,pq]
   refine tkE (i:=11) (d:=40) (v:=?_) rfl (Or.inl ⟨by rfl,?_⟩) hS3 ?_
   rotate_left
   ·intro w hSw;(try dsimp only at hSw);go_simp;try with_reducible rfl
   try simp only [Act.put,pq]
   refine tkE (i:=12) (d:=4) (v:=?_) rfl (Or.inl ⟨by rfl,?_⟩) hS3 ?_
   rotate_left
   ·intro w hSw;(try dsimp only at hSw);go_simp;try with_reducible rfl
   try simp only [Act.put,pq]
   refine tkE (i:=13) (d:=5) (v:=?_) rfl (Or.inl ⟨by rfl,?_⟩) hS3 ?_
   rotate_left
   ·intro w hSw;(try dsimp only at hSw);go_simp;try with_reducible rfl
   try simp only [Act.put,pq]
   refine tkE (i:=14) (d:=6) (v:=?_) rfl (Or.inl ⟨by rfl,?_⟩) hS3 ?_
   rotate_left
   ·intro w hSw;(try dsimp only at hSw);go_simp;try with_reducible rfl
   try simp only [Act.put,pq]
   refine wpAnyE_done (by kernel_rfl) ?_ _
   have HS3:=Lib.hid hS3
   clear hS3 hS2 hS1 hS0
   go_wp2
   go_meet
   case rel=>exact⟨rfl,rfl,rfl,HS3.out⟩
 case rest=>
  obtain⟨rfl,rfl,rfl,hX⟩:=hcut
  have e15:Ext w wc:=e14.trans hX
  have x4:Ext V4 wc:=x4.trans hX
  have xp:Ext V9 wc:=xp.trans hX
  generalize wc=V15 at e15 x4 xp ⊢
  clear hX HBX wGA fGA wGB fGB HGP
  have hc:=explain_any (w:=V15) (ps:=[(vD,[.string ⟨#[86]⟩,.int .i64 1,.int .u32 4,.int .u32 0,.bool false,.int .i64 0,.int .i64 0,.slice none 0 0,.int .i64 1,.int .u32 4,.int .u32 0,.bool false,.int .i64 0,.int .i64 0,.slice none 0 0,.slice (some ⟨q1,0,none⟩) 1 1,.slice (some ⟨q2,0,none⟩) 1 1,.int .i64 1]),(fD,[.string ⟨#[70]⟩,.int .i64 0,.int .u32 0,.int .u32 0,.bool false,.int .i64 0,.int .i64 0,.slice none 0 0,.int .i64 6,.int .u32 0,.int .u32 0,.bool false,.int .i64 0,.int .i64 0,.slice none 0 0,.slice (some ⟨q3,0,none⟩) 1 1,.slice none 0 0,.int .i64 1]),(uD,[.string ⟨#[85]⟩,.int .i64 0,.int .u32 0,.int .u32 0,.bool false,.int .i64 0,.int .i64 0,.slice none 0 0,.int .i64 6,.int .u32 0,.int .u32 0,.bool false,.int .i64 0,.int .i64 0,.slice none 0 0,.slice (some ⟨q4,0,none⟩) 1 1,.slice (some ⟨q5,0,none⟩) 1 1,.int .i64 1])]) (qs:=[((apaO,abO),[.slice (some ⟨FGA,0,none⟩) 3 3,.slice (some ⟨GA,0,none⟩) 2 2])]) (HL.out _ x4) rfl (HP.out _ xp) rfl (hT.keep e15 id)
  have hw:=wo_explain (qs:=[((apaO,abO),[.slice (some ⟨FGA,0,none⟩) 3 3,.slice (some ⟨GA,0,none⟩) 2 2])]) rfl
  simp only [List.map_cons,List.map_nil] at hc hw
  have hz:=wo_ordE (qs:=[((apaO,abO),[.slice (some ⟨FGA,0,none⟩) 3 3,.slice (some ⟨GA,0,none⟩) 2 2])]) rfl
  simp only [List.map_cons,List.map_nil] at hz
  rw [hw.1,hw.2,hz] at hc
  simp only [List.length_cons,List.length_nil] at hc
  clear hz
  have HC:=Lib.hid hc
  clear hc hw
  go_wp2_with fail
  refine(HC.out).mono ?_
  rintro e V16 ⟨xo,xc,rfl,hr,hN⟩
  have e16:Ext w V16:=e15.trans hN
  have s16:=hN
  have x4:Ext V4 V16:=x4.trans hN
  have xp:Ext V9 V16:=xp.trans hN
  clear HC
  have RX:Hid (∀ D,Ext V16 D->Rd D (.slice xo 3 xc) 3 1 (natV [0,2,1])):=Lib.hid (fun D hD=>hr.ext hD)
  clear hr hN
  have hc:=all_any' (w:=V16) (ps:=[(vD,[.string ⟨#[86]⟩,.int .i64 1,.int .u32 4,.int .u32 0,.bool false,.int .i64 0,.int .i64 0,.slice none 0 0,.int .i64 1,.int .u32 4,.int .u32 0,.bool false,.int .i64 0,.int .i64 0,.slice none 0 0,.slice (some ⟨q1,0,none⟩) 1 1,.slice (some ⟨q2,0,none⟩) 1 1,.int .i64 1]),(fD,[.string ⟨#[70]⟩,.int .i64 0,.int .u32 0,.int .u32 0,.bool false,.int .i64 0,.int .i64 0,.slice none 0 0,.int .i64 6,.int .u32 0,.int .u32 0,.bool false,.int .i64 0,.int .i64 0,.slice none 0 0,.slice (some ⟨q3,0,none⟩) 1 1,.slice none 0 0,.int .i64 1]),(uD,[.string ⟨#[85]⟩,.int .i64 0,.int .u32 0,.int .u32 0,.bool false,.int .i64 0,.int .i64 0,.slice none 0 0,.int .i64 6,.int .u32 0,.int .u32 0,.bool false,.int .i64 0,.int .i64 0,.slice none 0 0,.slice (some ⟨q4,0,none⟩) 1 1,.slice (some ⟨q5,0,none⟩) 1 1,.int .i64 1])]) (qs:=[((apaO,abO),[.slice (some ⟨FGA,0,none⟩) 3 3,.slice (some ⟨GA,0,none⟩) 2 2])]) (most:=9) (HL.out _ x4) rfl (HP.out _ xp) rfl (hT.keep e16 id)
  have hw:=wo_all (qs:=[((apaO,abO),[.slice (some ⟨FGA,0,none⟩) 3 3,.slice (some ⟨GA,0,none⟩) 2 2])]) rfl
  simp only [List.map_cons,List.map_nil] at hc hw
  have hz:=wo_ordE (qs:=[((apaO,abO),[.slice (some ⟨FGA,0,none⟩) 3 3,.slice (some ⟨GA,0,none⟩) 2 2])]) rfl
  simp only [List.map_cons,List.map_nil] at hz
  rw [hw,hz] at hc
  simp only [List.length_cons,List.length_nil] at hc
  clear hz
  have HC:=Lib.hid hc
  clear hc hw
  go_wp2_with fail
  refine(HC.out).mono ?_
  rintro e V17 ⟨yo,yc,rfl,hr,hN⟩
  have e17:Ext w V17:=e16.trans hN
  have s17:=hN
  have x4:Ext V4 V17:=x4.trans hN
  have xp:Ext V9 V17:=xp.trans hN
  clear HC
  have RY:Hid (∀ D,Ext V17 D->GridAt D (.slice yo 2 yc) [[0,2,1],[2,0,1]]):=Lib.hid (fun D hD=>GridAt.ext hr hD)
  clear hr hN
  have hc:=needed_any (w:=V17) (ps:=[(vD,[.string ⟨#[86]⟩,.int .i64 1,.int .u32 4,.int .u32 0,.bool false,.int .i64 0,.int .i64 0,.slice none 0 0,.int .i64 1,.int .u32 4,.int .u32 0,.bool false,.int .i64 0,.int .i64 0,.slice none 0 0,.slice (some ⟨q1,0,none⟩) 1 1,.slice (some ⟨q2,0,none⟩) 1 1,.int .i64 1]),(fD,[.string ⟨#[70]⟩,.int .i64 0,.int .u32 0,.int .u32 0,.bool false,.int .i64 0,.int .i64 0,.slice none 0 0,.int .i64 6,.int .u32 0,.int .u32 0,.bool false,.int .i64 0,.int .i64 0,.slice none 0 0,.slice (some ⟨q3,0,none⟩) 1 1,.slice none 0 0,.int .i64 1]),(uD,[.string ⟨#[85]⟩,.int .i64 0,.int .u32 0,.int .u32 0,.bool false,.int .i64 0,.int .i64 0,.slice none 0 0,.int .i64 6,.int .u32 0,.int .u32 0,.bool false,.int .i64 0,.int .i64 0,.slice none 0 0,.slice (some ⟨q4,0,none⟩) 1 1,.slice (some ⟨q5,0,none⟩) 1 1,.int .i64 1])]) (qs:=[((apaO,abO),[.slice (some ⟨FGA,0,none⟩) 3 3,.slice (some ⟨GA,0,none⟩) 2 2])]) (HL.out _ x4) rfl (HP.out _ xp) rfl (hT.keep e17 id)
  have hw:=wo_need (qs:=[((apaO,abO),[.slice (some ⟨FGA,0,none⟩) 3 3,.slice (some ⟨GA,0,none⟩) 2 2])]) rfl
  simp only [List.map_cons,List.map_nil] at hc hw
  rw [hw.1,hw.2] at hc
  simp only [List.length_cons,List.length_nil] at hc
  have HC:=Lib.hid hc
  clear hc hw
  go_wp2_with fail
  refine(HC.out).mono ?_
  rintro e V18 ⟨zo,zc,rfl,hr,hN⟩
  have e18:Ext w V18:=e17.trans hN
  have s18:=hN
  have x4:Ext V4 V18:=x4.trans hN
  have xp:Ext V9 V18:=xp.trans hN
  clear HC
  have RZ:Hid (∀ D,Ext V18 D->Rd D (.slice zo 2 zc) 2 2 (prs [(0,1),(2,1)])):=Lib.hid (fun D hD=>hr.ext hD)
  clear hr hN
  go_wp2_with fail
  refine(ov_any _).mono ?_
  rintro e V19 ⟨q6,q7,rfl,l6,hN⟩
  have e19:Ext w V19:=e18.trans hN
  have s19:=hN
  have L6:Hid (∀ D,Ext V19 D->LawAt D vD [.string ⟨#[86]⟩,.int .i64 1,.int .u32 4,.int .u32 0,.bool false,.int .i64 0,.int .i64 0,.slice none 0 0,.int .i64 1,.int .u32 4,.int .u32 0,.bool false,.int .i64 0,.int .i64 0,.slice none 0 0,.slice (some ⟨q6,0,none⟩) 1 1,.slice (some ⟨q7,0,none⟩) 1 1,.int .i64 1]):=Lib.hid (fun D hD=>l6.ext hD)
  clear l6
  have m1:=hN
  clear hN
  go_wp2_with fail
  refine(of_any _).mono ?_
  rintro e V20 ⟨q8,rfl,l7,hN⟩
  have e20:Ext w V20:=e19.trans hN
  have s20:=hN
  have L7:Hid (∀ D,Ext V20 D->LawAt D fD [.string ⟨#[70]⟩,.int .i64 0,.int .u32 0,.int .u32 0,.bool false,.int .i64 0,.int .i64 0,.slice none 0 0,.int .i64 6,.int .u32 0,.int .u32 0,.bool false,.int .i64 0,.int .i64 0,.slice none 0 0,.slice (some ⟨q8,0,none⟩) 1 1,.slice none 0 0,.int .i64 1]):=Lib.hid (fun D hD=>l7.ext hD)
  clear l7
  have m2:=hN
  clear hN
  obtain⟨V21,hV21⟩:∃ D,V20.alloc (.cells #[.string ⟨#[86]⟩,.int .i64 1,.int .u32 4,.int .u32 0,.bool false,.int .i64 0,.int .i64 0,.slice none 0 0,.int .i64 1,.int .u32 4,.int .u32 0,.bool false,.int .i64 0,.int .i64 0,.slice none 0 0,.slice (some ⟨q6,0,none⟩) 1 1,.slice (some ⟨q7,0,none⟩) 1 1,.int .i64 1,.string ⟨#[70]⟩,.int .i64 0,.int .u32 0,.int .u32 0,.bool false,.int .i64 0,.int .i64 0,.slice none 0 0,.int .i64 6,.int .u32 0,.int .u32 0,.bool false,.int .i64 0,.int .i64 0,.slice none 0 0,.slice (some ⟨q8,0,none⟩) 1 1,.slice none 0 0,.int .i64 1] 102)=D:=⟨_,rfl⟩
  have e21:Ext w V21:=by rw [<-hV21];exact e20.alloc _
  have hGM:V21.heap[V20.heap.size]?=some (.cells #[.string ⟨#[86]⟩,.int .i64 1,.int .u32 4,.int .u32 0,.bool false,.int .i64 0,.int .i64 0,.slice none 0 0,.int .i64 1,.int .u32 4,.int .u32 0,.bool false,.int .i64 0,.int .i64 0,.slice none 0 0,.slice (some ⟨q6,0,none⟩) 1 1,.slice (some ⟨q7,0,none⟩) 1 1,.int .i64 1,.string ⟨#[70]⟩,.int .i64 0,.int .u32 0,.int .u32 0,.bool false,.int .i64 0,.int .i64 0,.slice none 0 0,.int .i64 6,.int .u32 0,.int .u32 0,.bool false,.int .i64 0,.int .i64 0,.slice none 0 0,.slice (some ⟨q8,0,none⟩) 1 1,.slice none 0 0,.int .i64 1] 102 (0,0)):=by rw [<-hV21];exact new_at rfl
  have n20:Ext V20 V21:=by rw [<-hV21];exact(Turn.refl _ V20).alloc _
  have s21:=n20
  obtain⟨GM,gGM⟩:∃ b,V20.heap.size=b:=⟨_,rfl⟩
  rw [gGM] at hGM
  have hl:LawsAt V21 (.slice (some ⟨GM,0,none⟩) 2 2) [(vD,[.string ⟨#[86]⟩,.int .i64 1,.int .u32 4,.int .u32 0,.bool false,.int .i64 0,.int .i64 0,.slice none 0 0,.int .i64 1,.int .u32 4,.int .u32 0,.bool false,.int .i64 0,.int .i64 0,.slice none 0 0,.slice (some ⟨q6,0,none⟩) 1 1,.slice (some ⟨q7,0,none⟩) 1 1,.int .i64 1]),(fD,[.string ⟨#[70]⟩,.int .i64 0,.int .u32 0,.int .u32 0,.bool false,.int .i64 0,.int .i64 0,.slice none 0 0,.int .i64 6,.int .u32 0,.int .u32 0,.bool false,.int .i64 0,.int .i64 0,.slice none 0 0,.slice (some ⟨q8,0,none⟩) 1 1,.slice none 0 0,.int .i64 1])]:=⟨rd_blk (xs:=[.string ⟨#[86]⟩,.int .i64 1,.int .u32 4,.int .u32 0,.bool false,.int .i64 0,.int .i64 0,.slice none 0 0,.int .i64 1,.int .u32 4,.int .u32 0,.bool false,.int .i64 0,.int .i64 0,.slice none 0 0,.slice (some ⟨q6,0,none⟩) 1 1,.slice (some ⟨q7,0,none⟩) 1 1,.int .i64 1,.string ⟨#[70]⟩,.int .i64 0,.int .u32 0,.int .u32 0,.bool false,.int .i64 0,.int .i64 0,.slice none 0 0,.int .i64 6,.int .u32 0,.int .u32 0,.bool false,.int .i64 0,.int .i64 0,.slice none 0 0,.slice (some ⟨q8,0,none⟩) 1 1,.slice none 0 0,.int .i64 1]) hGM rfl (by decide),fun p hp=>by
   simp only [List.mem_cons,List.not_mem_nil,or_false] at hp
   rcases hp with rfl | rfl
   ·exact L6.out _ (m2.trans n20)
   ·exact L7.out _ n20⟩
  obtain⟨V22,hV22⟩:∃ D,V21.alloc (.cells #[.int .i64 0,.int .i64 1] 3)=D:=⟨_,rfl⟩
  have e22:Ext w V22:=by rw [<-hV22];exact e21.alloc _
  have hGN:V22.heap[V21.heap.size]?=some (.cells #[.int .i64 0,.int .i64 1] 3 (0,0)):=by rw [<-hV22];exact new_at rfl
  have n21:Ext V21 V22:=by rw [<-hV22];exact(Turn.refl _ V21).alloc _
  have s22:=n21
  obtain⟨GN,gGN⟩:∃ b,V21.heap.size=b:=⟨_,rfl⟩
  rw [gGN] at hGN
  have hl2:=hl.ext n21
  have ho:Rd V22 (.slice (some ⟨GN,0,none⟩) 2 2) 2 1 (intV [0,1]):=rd_blk (xs:=intV [0,1]) hGN rfl (by decide)
  have xp:Ext V9 V22:=xp.trans (m1.trans (m2.trans (n20.trans n21)))
  have xz:Ext V18 V22:=m1.trans (m2.trans (n20.trans n21))
  have hc:=matters_any (w:=V22) (ps:=[(vD,[.string ⟨#[86]⟩,.int .i64 1,.int .u32 4,.int .u32 0,.bool false,.int .i64 0,.int .i64 0,.slice none 0 0,.int .i64 1,.int .u32 4,.int .u32 0,.bool false,.int .i64 0,.int .i64 0,.slice none 0 0,.slice (some ⟨q6,0,none⟩) 1 1,.slice (some ⟨q7,0,none⟩) 1 1,.int .i64 1]),(fD,[.string ⟨#[70]⟩,.int .i64 0,.int .u32 0,.int .u32 0,.bool false,.int .i64 0,.int .i64 0,.slice none 0 0,.int .i64 6,.int .u32 0,.int .u32 0,.bool false,.int .i64 0,.int .i64 0,.slice none 0 0,.slice (some ⟨q8,0,none⟩) 1 1,.slice none 0 0,.int .i64 1])]) (qs:=[((apaO,abO),[.slice (some ⟨FGA,0,none⟩) 3 3,.slice (some ⟨GA,0,none⟩) 2 2])]) (xs:=[0,1]) hl2 rfl ho rfl (HP.out _ xp) rfl (hT.keep e22 id)
  have hw:=wo_matt (qs:=[((apaO,abO),[.slice (some ⟨FGA,0,none⟩) 3 3,.slice (some ⟨GA,0,none⟩) 2 2])]) rfl
  simp only [List.map_cons,List.map_nil] at hc hw
  rw [hw.1,hw.2] at hc
  simp only [List.length_cons,List.length_nil] at hc
  have HC:=Lib.hid hc
  clear hc hw hl hl2 ho L6 L7 m1 m2 hGM hGN HL HP x4 xp
  go_wp2_with fail
  refine(HC.out).mono ?_
  rintro e V23 ⟨mo,mc,rfl,hr,hN⟩
  have e23:Ext w V23:=e22.trans hN
  have s23:=hN
  have xz:Ext V18 V23:=xz.trans hN
  clear HC hV21 hV22 gGM gGN n20 n21
  have RM:Hid (∀ D,Ext V23 D->Rd D (.slice mo 1 mc) 1 1 (natV [0])):=Lib.hid (fun D hD=>hr.ext hD)
  clear hr hN
  obtain⟨V24,hV24⟩:∃ D,V23.alloc (.cells #[.int .i64 0,.int .i64 2,.int .i64 1] 3)=D:=⟨_,rfl⟩
  have e24:Ext w V24:=by rw [<-hV24];exact e23.alloc _
  have hGA1:V24.heap[V23.heap.size]?=some (.cells #[.int .i64 0,.int .i64 2,.int .i64 1] 3 (0,0)):=by rw [<-hV24];exact new_at rfl
  have n23:Ext V23 V24:=by rw [<-hV24];exact(Turn.refl _ V23).alloc _
  have s24:=n23
  obtain⟨GA1,gGA1⟩:∃ b,V23.heap.size=b:=⟨_,rfl⟩
  rw [gGA1] at hGA1
  have xz:Ext V18 V24:=xz.trans n23
  have xm:Ext V23 V24:=n23
  have hc:=numbers_nat (.slice xo 3 xc) (.slice (some ⟨GA1,0,none⟩) 3 3) [0,2,1] [0,2,1] V24 (RX.out _ ((s17.trans s18).trans xz)) (rd_blk (xs:=natV [0,2,1]) hGA1 rfl (by decide))
  rw [decide_eq_true rfl] at hc
  have HC:=Lib.hid hc
  clear hc
  go_wp2_with fail
  refine HC.out.mono ?_
  rintro e V25 ⟨rfl,m24,hm⟩
  have hN:Ext V24 V25:=by rw [hm];exact(Turn.refl _ V24).drewN _
  have e25:Ext w V25:=e24.trans hN
  have s25:=hN
  have xz:Ext V18 V25:=xz.trans hN
  clear HC hm hV24 gGA1 hGA1 n23 RX
  have xm:Ext V23 V25:=xm.trans hN
  clear hN
  obtain⟨V26,hV26⟩:∃ D,V25.alloc (.cells #[.int .i64 0,.int .i64 2,.int .i64 1] 3)=D:=⟨_,rfl⟩
  have e26:Ext w V26:=by rw [<-hV26];exact e25.alloc _
  have hGB1:V26.heap[V25.heap.size]?=some (.cells #[.int .i64 0,.int .i64 2,.int .i64 1] 3 (0,0)):=by rw [<-hV26];exact new_at rfl
  have n25:Ext V25 V26:=by rw [<-hV26];exact(Turn.refl _ V25).alloc _
  have s26:=n25
  obtain⟨GB1,gGB1⟩:∃ b,V25.heap.size=b:=⟨_,rfl⟩
  rw [gGB1] at hGB1
  obtain⟨V27,hV27⟩:∃ D,V26.alloc (.cells #[.int .i64 2,.int .i64 0,.int .i64 1] 3)=D:=⟨_,rfl⟩
  have e27:Ext w V27:=by rw [<-hV27];exact e26.alloc _
  have hGB2:V27.heap[V26.heap.size]?=some (.cells #[.int .i64 2,.int .i64 0,.int .i64 1] 3 (0,0)):=by rw [<-hV27];exact new_at rfl
  have n26:Ext V26 V27:=by rw [<-hV27];exact(Turn.refl _ V26).alloc _
  have s27:=n26
  obtain⟨GB2,gGB2⟩:∃ b,V26.heap.size=b:=⟨_,rfl⟩
  rw [gGB2] at hGB2
  obtain⟨V28,hV28⟩:∃ D,V27.alloc (.cells #[.slice (some ⟨GB1,0,none⟩) 3 3,.slice (some ⟨GB2,0,none⟩) 3 3] 48)=D:=⟨_,rfl⟩
  have e28:Ext w V28:=by rw [<-hV28];exact e27.alloc _
  have hGB3:V28.heap[V27.heap.size]?=some (.cells #[.slice (some ⟨GB1,0,none⟩) 3 3,.slice (some ⟨GB2,0,none⟩) 3 3] 48 (0,0)):=by rw [<-hV28];exact new_at rfl
  have n27:Ext V27 V28:=by rw [<-hV28];exact(Turn.refl _ V27).alloc _
  have s28:=n27
  obtain⟨GB3,gGB3⟩:∃ b,V27.heap.size=b:=⟨_,rfl⟩
  rw [gGB3] at hGB3
  have xz:Ext V18 V28:=xz.trans (n25.trans (n26.trans n27))
  have xm:Ext V23 V28:=xm.trans (n25.trans (n26.trans n27))
  have hgr:GridAt V28 (.slice (some ⟨GB3,0,none⟩) 2 2) [[0,2,1],[2,0,1]]:=⟨[.slice (some ⟨GB1,0,none⟩) 3 3,.slice (some ⟨GB2,0,none⟩) 3 3],rd_blk (xs:=[.slice (some ⟨GB1,0,none⟩) 3 3,.slice (some ⟨GB2,0,none⟩) 3 3]) hGB3 rfl (by decide),fun i hi=>by
   have hi:i<2:=hi
   rcases(by omega:i=0\/i=1) with rfl | rfl
   ·exact⟨_,_,rfl,(rd_blk (xs:=natV [0,2,1]) hGB1 rfl (by show 3<=maxLen;decide)).ext (n26.trans n27)⟩
   ·exact⟨_,_,rfl,(rd_blk (xs:=natV [2,0,1]) hGB2 rfl (by show 3<=maxLen;decide)).ext n27⟩⟩
  have hc:=lists_any (.slice yo 2 yc) (.slice (some ⟨GB3,0,none⟩) 2 2) [[0,2,1],[2,0,1]] [[0,2,1],[2,0,1]] V28 (RY.out _ (s18.trans xz)) hgr
  rw [decide_eq_true rfl] at hc
  have HC:=Lib.hid hc
  clear hc
  go_wp2_with fail
  refine HC.out.mono ?_
  rintro e V29 ⟨rfl,m28,hm⟩
  have hN:Ext V28 V29:=by rw [hm];exact(Turn.refl _ V28).drewN _
  have e29:Ext w V29:=e28.trans hN
  have s29:=hN
  have xz:Ext V18 V29:=xz.trans hN
  clear HC hm hV26 hV27 hV28 gGB1 gGB2 gGB3 hGB1 hGB2 hGB3 hgr n25 n26 n27 RY
  have xm:Ext V23 V29:=xm.trans hN
  clear hN
  obtain⟨V30,hV30⟩:∃ D,V29.alloc (.cells #[.int .i64 0,.int .i64 1,.int .i64 2,.int .i64 1] 73)=D:=⟨_,rfl⟩
  have e30:Ext w V30:=by rw [<-hV30];exact e29.alloc _
  have hGC1:V30.heap[V29.heap.size]?=some (.cells #[.int .i64 0,.int .i64 1,.int .i64 2,.int .i64 1] 73 (0,0)):=by rw [<-hV30];exact new_at rfl
  have n29:Ext V29 V30:=by rw [<-hV30];exact(Turn.refl _ V29).alloc _
  have s30:=n29
  obtain⟨GC1,gGC1⟩:∃ b,V29.heap.size=b:=⟨_,rfl⟩
  rw [gGC1] at hGC1
  have xz:Ext V18 V30:=xz.trans n29
  have xm:Ext V23 V30:=xm.trans n29
  have hc:=twos_any (.slice zo 2 zc) (.slice (some ⟨GC1,0,none⟩) 2 2) [(0,1),(2,1)] [(0,1),(2,1)] V30 (RZ.out _ xz) (rd_blk (xs:=prs [(0,1),(2,1)]) hGC1 rfl (by decide))
  rw [decide_eq_true rfl] at hc
  have HC:=Lib.hid hc
  clear hc
  go_wp2_with fail
  refine HC.out.mono ?_
  rintro e V31 ⟨rfl,m30,hm⟩
  have hN:Ext V30 V31:=by rw [hm];exact(Turn.refl _ V30).drewN _
  have e31:Ext w V31:=e30.trans hN
  have s31:=hN
  have xz:Ext V18 V31:=xz.trans hN
  clear HC hm hV30 gGC1 hGC1 n29 RZ
  have xm:Ext V23 V31:=xm.trans hN
  clear hN
  obtain⟨V32,hV32⟩:∃ D,V31.alloc (.cells #[.int .i64 0] 3)=D:=⟨_,rfl⟩
  have e32:Ext w V32:=by rw [<-hV32];exact e31.alloc _
  have hGD1:V32.heap[V31.heap.size]?=some (.cells #[.int .i64 0] 3 (0,0)):=by rw [<-hV32];exact new_at rfl
  have n31:Ext V31 V32:=by rw [<-hV32];exact(Turn.refl _ V31).alloc _
  have s32:=n31
  obtain⟨GD1,gGD1⟩:∃ b,V31.heap.size=b:=⟨_,rfl⟩
  rw [gGD1] at hGD1
  have xm:Ext V23 V32:=xm.trans n31
  have xz:Ext V18 V32:=xz.trans n31
  have hc:=numbers_nat (.slice mo 1 mc) (.slice (some ⟨GD1,0,none⟩) 1 1) [0] [0] V32 (RM.out _ xm) (rd_blk (xs:=natV [0]) hGD1 rfl (by decide))
  rw [decide_eq_true rfl] at hc
  have HC:=Lib.hid hc
  clear hc
  go_wp2_with fail
  refine HC.out.mono ?_
  rintro e V33 ⟨rfl,m32,hm⟩
  have hN:Ext V32 V33:=by rw [hm];exact(Turn.refl _ V32).drewN _
  have e33:Ext w V33:=e32.trans hN
  have s33:=hN
  have xz:Ext V18 V33:=xz.trans hN
  clear HC hm hV32 gGD1 hGD1 n31 RM
  have HEND:=Lib.hid e33
  clear e0 e1 e2 e3 e4 e5 e6 e7 e8 e9 e10 e11 e12 e13 e14 e15 e16 e17 e18 e19 e20 e21 e22 e23 e24 e25 e26 e27 e28 e29 e30 e31 e32 e33
  go_wp2
  go_ret
  exact⟨rfl,HEND.out⟩
end Go.Proofs.YtfdlhlghcbeblaaGreatDoor
set_option maxRecDepth 100000
set_option maxHeartbeats 8000000
namespace Go.Proofs.YtfdlhlghcbeblaaGreatDoor
open Go.RowKit Go.Ab
attribute [local go_sem] Oper.semAt_some wide_fn wide_depth
def placeR(ol:List Nat)(x:Nat):Int:=if ol.findIdx (· == x)<ol.length then(ol.findIdx (· == x):Nat) else -1
def notTo(ol:List Nat)(x k:Nat):Prop:=∀ j (h:j<ol.length),j<k->ol[j]≠x
end Go.Proofs.YtfdlhlghcbeblaaGreatDoor
