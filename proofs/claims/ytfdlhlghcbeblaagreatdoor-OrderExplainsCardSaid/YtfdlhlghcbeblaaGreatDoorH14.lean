/- law.run: its iterator in ModeLeft (printed by genrun.py). law.run (printed by genlrun.py). law.fits. slices.ContainsFunc over sounds and over elements of Out; law.Check$1, Check$2 (printed by genhasfn.py). -/
import Derived.Test.YtfdlhlghcbeblaaGreatDoorH12
import Derived.Test.YtfdlhlghcbeblaaGreatDoorH13
import Derived.Test.YtfdlhlghcbeblaaGreatDoorH09
import Derived.Test.YtfdlhlghcbeblaaGreatDoorH10
set_option maxRecDepth 100000
set_option maxHeartbeats 16000000
namespace Go.Proofs.YtfdlhlghcbeblaaGreatDoor
open Go.RowKit Go.Ab
attribute [local go_sem] Oper.semAt_some wide_fn wide_depth
theorem run_left{w:World}{BW BL Bk Bm:Nat}{l:LawD}{cs:List Value}{vo:Option Addr}{vc:Nat}{ws:Wd}{K:Nat->Prop}(hlaw:lawB l=true)(hmode:l.mode=3)(hwl:ws.length<=32)(hcap:ws.length<=vc)(hkv:KeptIn K (.slice vo ws.length vc))
  (hKw:∀ b,K b->b<w.heap.size) (hst:∀ W,Turn (fun b=>¬ K b) w W->RunSt W BW BL Bk Bm l cs vo vc ws) :
  IterO Tryz.prog 225 #[.pointer (some ⟨BW,0,none⟩),.pointer (some ⟨BL,0,none⟩),.pointer (some ⟨Bk,0,none⟩),.pointer (some ⟨Bm,0,none⟩)] (RunM 2) (RunE 2) (traceL l ws) K w:=by
 intro lp J Jx W ht hJ hJx hY h0
 obtain⟨hk4,hm6,hkm,_,hfits,_,_,_⟩:=lawB_parts hlaw
 have h0st:=hst W ht
 have hmo:=h0st.law.box.mode
 rw [hmode] at hmo
 obtain⟨wn,hwn⟩:∃ n,ws.length=n:=⟨_,rfl⟩
 have cW:=cell_of_one h0st.box
 rw [hwn] at cW hwl hcap hkv
 have HKV:=Lib.hid hkv
 have HWN:=Lib.hid hwn;have HST:=Lib.hid hst;have HFT:=Lib.hid hfits;have HMO:=Lib.hid hmode;have HJ:=Lib.hid hJ;have HY:=Lib.hid hY;have HJ0:=Lib.hid h0;have HT0:=Lib.hid ht
 have H0ST:=Lib.hid h0st
 obtain⟨kn,hkn⟩:∃ n,l.ifs.length=n:=⟨_,rfl⟩
 obtain⟨mn,hmn⟩:∃ n,l.outs.length=n:=⟨_,rfl⟩
 rw [hkn] at hk4 hkm
 rw [hmn] at hm6 hkm
 have HKN:=Lib.hid hkn;have HMN:=Lib.hid hmn
 clear hst hfits hmode hJ hJx hY h0 ht h0st hlaw hwn hkv hkn hmn
 show Calls _ _ #[.func (.yield lp) #[] #[],.pointer (some ⟨BW,0,none⟩),.pointer (some ⟨BL,0,none⟩),.pointer (some ⟨Bk,0,none⟩),.pointer (some ⟨Bm,0,none⟩)] _ _
 go_enter Tryz.func225,Tryz.ntmps225
 have hL0:=H0ST.out.law.box.mode
 rw [HMO.out] at hL0
 go_upto_region 1 with (fail)
 obtain⟨w1,hw1⟩:∃ D,W.alloc (.cells #[.func (.yield lp) #[] #[]] 266)=D:=⟨_,rfl⟩
 have hE1:Ext W w1:=by rw [<-hw1];exact(Turn.refl _ W).alloc _
 have hY1:w1.heap[W.heap.size]?=some (.cells #[.func (.yield lp) #[] #[]] 266 (0,0)):=by rw [<-hw1];exact new_at rfl
 have hs1:w1.heap.size=W.heap.size+1:=by rw [<-hw1];simp
 rw [hw1]
 obtain⟨Y0,hY0⟩:∃ b,W.heap.size=b:=⟨_,rfl⟩
 rw [hY0] at hY1 hs1 ⊢
 have hj:=HJ.out;have hyy:=HY.out
 rw [hY0] at hj hyy
 have HJW:=HJ
 have HJ:=Lib.hid hj;have HY:=Lib.hid hyy
 clear hj hyy
 have HKY:Hid (∀ b,K b->b<Y0):=Lib.hid fun b hb=>by have:=hKw b hb;have:=HT0.out.size;omega
 have HY0:=Lib.hid hY0;have HS1:=Lib.hid hs1
 clear hKw
 have cW:=hE1.cell_some cW id
 clear hw1 hY0 hs1 hmo
 go_upto_region 2 with (fail)
 rw [HS1.out]
 obtain⟨w2,hw2⟩:∃ D,w1.alloc (.cells #[.slice vo wn vc] 99)=D:=⟨_,rfl⟩
 have hE2:Ext w1 w2:=by rw [<-hw2];exact(Turn.refl _ w1).alloc _
 have hN2:SlBox w2 (Y0+1) (.slice vo wn vc):=by rw [<-hw2];exact new_at HS1.out.symm
 have hs2:w2.heap.size=Y0+2:=by rw [<-hw2];simp [HS1.out]
 have hY2:=hE2.keep hY1
 rw [hw2]
 have hE12:=hE1.trans hE2
 have hmd:=hE12.cell_some hL0 id
 have HS2:=Lib.hid hs2
 clear hw2 cW hY1 hE1 hE2 hL0 hs2
 have hJ2:=HJ.out _ (fun b=>b=Y0\/b=Y0+1) [] _ _ HJ0.out (Ext.of hE12) (fun b hb=>by have:=HY0.out;have:=HS2.out;omega)
 have HJ2:=Lib.hid hJ2
 have hT2:Turn (fun b=>¬ K b) w w2:=HT0.out.trans (Ext.of hE12)
 clear hJ2
 have ck:=hE12.cell_some (cell_of_one H0ST.out.bk) id
 rw [HKN.out] at ck
 have cN:=cell_of_one hN2
 go_wp2
 clear ck cN
 have hstart:LeftAt l ws [] ws ((wn:Int) - (kn:Int)+1).toNat:=by
  have h:=LeftAt.start (l:=l) (ws:=ws) (by rw [HMO.out];decide) (by rw [HMO.out];decide)
  rw [HWN.out,HKN.out] at h
  rw [show ((wn:Int) - (kn:Int)+1).toNat=wn+1 - kn by omega];exact h
 have HT2:=Lib.hid hT2;have HY2:=Lib.hid hY2;have HN2:=Lib.hid hN2
 clear hT2 hY2 hN2 hmd
 refine wp_loop (fun a V=>∃(O:Nat->Prop) (tr:List (Nat × Wd)) (u:Wd) (z:Int) (uo:Option Addr) (uc:Nat),a.defers=[]/\(a.tmps.size=117/\a.tmps.getD 0 undef=.func (.yield lp) #[] #[]/\a.tmps.getD 1 undef=.pointer (some ⟨BW,0,none⟩)/\a.tmps.getD 2 undef=.pointer (some ⟨BL,0,none⟩)/\a.tmps.getD 3 undef=.pointer (some ⟨Bk,0,none⟩)/\a.tmps.getD 4 undef=.pointer (some ⟨Bm,0,none⟩)/\a.tmps.getD 5 undef=.pointer (some ⟨Y0,0,none⟩)/\a.tmps.getD 6 undef=.pointer (some ⟨Y0+1,0,none⟩)/\a.tmps.getD 11 undef=.int .i64 z)/\-5<=z/\z<=300/\LeftAt l ws tr u (z+1).toNat/\RunNow w V K O J Y0 lp tr u uo uc)
  (fun a _=>(intOf (a.tmps.getD 11 undef)+1).toNat) ?_ ?_
 ·refine⟨(fun b=>b=Y0\/b=Y0+1),[],ws,(wn:Int) - (kn:Int),vo,vc,rfl,⟨rfl,rfl,rfl,rfl,rfl,rfl,rfl,rfl,rfl⟩,by omega,by omega,hstart,⟨HJ2.out,.inl rfl,.inr rfl,fun b hb=>by have:=HS2.out;omega,HT2.out,HY2.out,?_,?_,?_,?_⟩⟩
  ·rw [HWN.out];exact HN2.out
  ·exact H0ST.out.word.ext hE12
  ·rw [HWN.out];exact hcap
  ·rw [HWN.out];exact fun g o n c e h0'=>.inl (HKV.out g o n c e h0')
 clear HJ2 HJ0 HT2 HY2 HN2 H0ST hE12 HT0 HY0 HS1 HS2 hcap HKV
 rintro⟨t,_⟩ V ⟨O,tr,u',z,uo,uc,hds,⟨hsz,f0,f1,f2,f3,f4,f5,f6,f11⟩,hz1,hz2,hR,hN⟩
 obtain⟨uw,rfl⟩:∃ x,x=u':=⟨_,rfl⟩
 subst hds
 obtain⟨u',hu⟩:=frame_fun hsz
 obtain⟨u,rfl⟩:∃ x,x=u':=⟨_,rfl⟩
 have hu':t=#[u 0,u 1,u 2,u 3,u 4,u 5,u 6,u 7,u 8,u 9,u 10,u 11,u 12,u 13,u 14,u 15,u 16,u 17,u 18,u 19,u 20,u 21,u 22,u 23,u 24,u 25,u 26,u 27,u 28,u 29,u 30,u 31,u 32,u 33,u 34,u 35,u 36,u 37,u 38,u 39,u 40,u 41,u 42,u 43,u 44,u 45,u 46,u 47,u 48,u 49,u 50,u 51,u 52,u 53,u 54,u 55,u 56,u 57,u 58,u 59,u 60,u 61,u 62,u 63,u 64,u 65,u 66,u 67,u 68,u 69,u 70,u 71,u 72,u 73,u 74,u 75,u 76,u 77,u 78,u 79,u 80,u 81,u 82,u 83,u 84,u 85,u 86,u 87,u 88,u 89,u 90,u 91,u 92,u 93,u 94,u 95,u 96,u 97,u 98,u 99,u 100,u 101,u 102,u 103,u 104,u 105,u 106,u 107,u 108,u 109,u 110,u 111,u 112,u 113,u 114,u 115,u 116]:=hu
 clear hu
 subst hu'
 change u 0=_ at f0
 change u 1=_ at f1
 change u 2=_ at f2
 change u 3=_ at f3
 change u 4=_ at f4
 change u 5=_ at f5
 change u 6=_ at f6
 change u 11=_ at f11
 rw [f0,f1,f2,f3,f4,f5,f6,f11]
 clear f0 f1 f2 f3 f4 f5 f6 f11 hsz
 have hst:=HST.out V hN.t
 obtain⟨un,hun⟩:∃ n,uw.length=n:=⟨_,rfl⟩
 have hbl:=boxLen_eq hN.n
 have cN:=cell_of_one hN.n
 have cY:=cell_of_one hN.y
 have ck:=cell_of_one hst.bk
 have cm:=cell_of_one hst.bm
 rw [HKN.out] at ck
 rw [HMN.out] at cm
 rw [hun] at cN hbl
 have hfew:=few (t:=tr.length) (n:=ws.length+1) (m:=mn) (by have:=hR.2.1;omega) hm6 (by rw [HWN.out];omega)
 have hul:un<=230:=by
  have h1:=hR.2.2.1
  rw [HMN.out,hun,HWN.out] at h1
  omega
 have HUN:=Lib.hid hun;have HBL:=Lib.hid hbl;have HR:=Lib.hid hR;have HN:=Lib.hid hN;have HS:=Lib.hid hst
 clear hun hbl hR hN hst hfew
 by_cases hz0:0<=z
 case neg=>
  have h1:¬ (0:Int)<=z:=hz0
  have hd:=HR.out
  rw [show (z+1).toNat=0 by omega] at hd
  have hd:=hd.done
  have HD:=Lib.hid hd
  clear hd cm cY
  go_wp2
  go_end0
  exact⟨⟨_,rfl⟩,O,.inl (by rw [HD.out];exact HN.out.j)⟩
 obtain⟨i,rfl⟩:=Int.eq_ofNat_of_zero_le hz0
 have hR:=HR.out
 rw [show ((i:Int)+1).toNat=i+1 by omega] at hR
 have hle:=hR.le
 rw [HUN.out,HKN.out] at hle
 have HR:=Lib.hid hR
 clear hR
 go_upto_region 24 with (fail)
 obtain⟨hL1,hL2⟩:=HS.out.law
 obtain⟨nm,k1,p1,m1,n1,a1,b1,o1,N1,c1,k2,p2,m2,n2,a2,b2,o2,N2,c2,io,N3,ic,oo,N4,oc,md,rfl,HLA,HPL,HPR,HIF,HOU,HNM,HN1,HN2,HN3,HN4,HMD,q0,q1,q2,q3,q4⟩:=law_gen hL2
 have hwd:=HN.out.wd
 have hhit:=hit_any hL2 hwd HS.out.tab i (by rw [HUN.out];omega) (by rw [HUN.out,HKN.out];omega)
 rw [HUN.out] at hhit hwd
 obtain⟨hb,hhb⟩:∃ b,hitL l uw i=b:=⟨_,rfl⟩
 rw [hhb] at hhit
 have HH:=Lib.hid hhit;have HHB:=Lib.hid hhb;have HL1:=Lib.hid hL1;have HWD:=Lib.hid hwd;have HL2:=Lib.hid hL2
 clear hhit hhb hL1 hL2 hwd ck cm cY
 go_wp2_with (first | (refine wpList_load_row rfl 102 (.tmp 2) rfl BL rfl _ _ _ _ HL1.out Tryz.underlying102 rfl Tryz.lawInfo ?_) | fail)
 refine HH.out.mono ?_
 rintro e V1 ⟨rfl,hE1⟩
 have hN1:=HN.out.ext hE1 HJ.out
 have hS1:=HST.out V1 hN1.t
 cases hb
 case false=>
  have hR1:=HR.out.miss HHB.out
  have HR1:=Lib.hid hR1;have HN1:=Lib.hid hN1
  have hbl:=boxLen_eq hN1.n
  rw [HUN.out] at hbl
  have HB1:=Lib.hid hbl
  clear hR1 hN1 hS1 HH hE1 cN hbl
  go_wp2
  refine⟨⟨O,tr,uw,(i:Int) - 1,uo,uc,by first | rfl | trivial,⟨rfl,rfl,rfl,rfl,rfl,rfl,rfl,rfl,rfl⟩,by omega,by omega,by rw [show ((i:Int) - 1+1).toNat=i by omega];exact HR1.out,HN1.out⟩,?_⟩
  simp [intOf]
 have cN:=cell_of_one hN1.n
 rw [HUN.out] at cN
 have hw1:=hN1.wd
 rw [HUN.out] at hw1
 have hrep:=replace_any hS1.law.2 hw1 HUN.out (by have:=hN1.cap;rw [HUN.out] at this;exact this) i (by rw [HKN.out];exact hle) HFT.out (by rw [HMN.out];omega) (by omega)
 have hL1:=hS1.law.1
 have hwok:WdOk (replL l uw i):=by
  have h1:=hw1.2
  intro s hs
  unfold replL repl at hs
  rcases List.mem_append.1 hs with hs | hs
  ·rcases List.mem_append.1 hs with hs | hs
   ·exact h1 s (List.mem_of_mem_take hs)
   ·exact putL_ok (fun x hx=>h1 x (List.mem_of_mem_drop (List.mem_of_mem_take hx))) HOU.out.2 s hs
  ·exact h1 s (List.mem_of_mem_drop hs)
 have HREP:=Lib.hid hrep;have HL1':=Lib.hid hL1;have HN1:=Lib.hid hN1;have HWOK:=Lib.hid hwok
 obtain⟨hR2,rest,hspl⟩:=HR.out.hit HHB.out
 have HR2:=Lib.hid hR2;have HSPL:=Lib.hid hspl
 clear hrep hL1 hN1 hS1 hw1 hwok hR2 hspl HH hE1
 go_upto_region 27 with (first | (refine wpList_load_row rfl 102 (.tmp 2) rfl BL rfl _ _ _ _ HL1'.out Tryz.underlying102 rfl Tryz.lawInfo ?_) | (go_at_call 230;refine HREP.out.mono ?_;rintro e V2 ⟨ru,rfl,hO2,hE2⟩;obtain⟨ro,rc,rfl⟩:=own_slice hO2;have cN2:=cell_of_one (hE2.keep HN1.out.n);have fN2:=free_of_one (hE2.keep HN1.out.n)))
 obtain⟨O2,hP,_,hP3⟩:=(HN1.out).put2 HKY.out hO2 hE2 HWOK.out (Nat.le_refl 2) HJ.out
 have hv2:=(HN1.out.lt _ HN1.out.on).2
 obtain⟨V3,hV3⟩:∃ D,V2.setCell ⟨Y0+1,0,none⟩ (.slice ro (replL l uw i).length rc)=D:=⟨_,rfl⟩
 rw [hV3] at hP hP3 ⊢
 clear hV3 hO2 hE2 cN cN2 fN2 HREP HL1' HL1 HN1 HWOK HL2 HWD HN HS
 obtain⟨r,hr⟩:∃ r,replL l uw i=r:=⟨_,rfl⟩
 rw [hr] at hP hP3 HR2 HSPL
 have hlr:=replL_length (l:=l) (u:=uw) (i:=i) (by rw [HUN.out,HKN.out];exact hle)
 rw [hr,HUN.out,HKN.out,HMN.out] at hlr
 rw [hr]
 obtain⟨rn,hrn⟩:∃ n,r.length=n:=⟨_,rfl⟩
 rw [hrn] at hlr
 have cN:=cell_of_one hP.n
 rw [hrn] at cN
 have cY:=cell_of_one hP.y
 obtain⟨fn,tmps,assign,body,hy,hYR⟩:=HY.out O2 tr (i,r) rest V3 #[.int .i64 (i:Int),.slice ro rn rc] HSPL.out hP.j ⟨ro,rc,by rw [hrn],hP.wd,hP.cap,fun g o n c e h0'=>by obtain⟨q1,q2,q3⟩:=hP3 g o n c e h0';exact⟨q1,by omega,q3⟩⟩
 clear hP3 hv2
 have HP:=Lib.hid hP;have HYR:=Lib.hid hYR;have HRN:=Lib.hid hrn
 clear hP hYR hrn hr HHB
 rw [HRN.out]
 refine(wpIn_wide (n:=0)).1 ?_
 gi_wp2
 refine HYR.out.mono ?_
 rintro e W3 (⟨rfl,hJ3,hk3⟩ | ⟨rfl,hJx3,_⟩)
 ·have hN3:=HP.out.yielded hJ3 hk3
  have hS3:=HST.out W3 hN3.t
  have ck:=cell_of_one hS3.bk
  have cm:=cell_of_one hS3.bm
  rw [HKN.out] at ck
  rw [HMN.out] at cm
  have hbl:=boxLen_eq hN3.n
  rw [HRN.out] at hbl
  have HN3:=Lib.hid hN3;have HB3:=Lib.hid hbl
  clear hN3 hS3 hbl hy cN cY hJ3 hk3
  have hr3:=HR2.out
  rw [HKN.out] at hr3
  have HR3:=Lib.hid hr3
  clear hr3
  obtain⟨mx,hmx⟩:∃ n,max kn 1=n:=⟨_,rfl⟩
  have hr4:=HR3.out
  rw [hmx] at hr4
  have hmx2:max (kn:Int) 1=(mx:Int):=by omega
  have hmx4:mx<=4/\1<=mx:=by omega
  have HR4:=Lib.hid hr4;have HMX:=Lib.hid hmx
  clear hr4 hmx
  gi_wp2
  go_wp2
  ·refine⟨⟨by omega,by omega,O2,tr++[(i,r)],r,?_,ro,rc,HN3.out⟩,by simp [intOf];omega⟩
   have h4:=HR4.out
   rwa [show mx=1 by have:=HMX.out;omega,show i+1 - 1=i by omega] at h4
  ·refine⟨⟨by omega,by omega,O2,tr++[(i,r)],r,?_,ro,rc,HN3.out⟩,by simp [intOf];omega⟩
   have h4:=HR4.out
   rw [show mx=kn by have:=HMX.out;omega] at h4
   rwa [show ((i:Int) - (kn:Int)+1).toNat=i+1 - kn by omega]
 ·have HJX:=Lib.hid hJx3
  clear hJx3 hy
  gi_wp2
  go_wp2
  refine bodyPost_ret (results_none rfl _ _ _) rfl ?_
  exact⟨⟨_,rfl⟩,O2,.inr ⟨tr,(i,r),rest,HSPL.out,HJX.out⟩⟩
end Go.Proofs.YtfdlhlghcbeblaaGreatDoor
set_option maxRecDepth 100000
set_option maxHeartbeats 8000000
namespace Go.Proofs.YtfdlhlghcbeblaaGreatDoor
open Go.RowKit Go.Ab
attribute [local go_sem] Oper.semAt_some wide_fn wide_depth
theorem lrun_any{w:World}{l:LawD}{cs:List Value}{vo:Option Addr}{vn vc:Nat}(hl:LawAt w l cs) :
  Calls Tryz.prog 201 #[.agg cs.toArray,.slice vo vn vc] w fun e w'=>∃ Bk Bm,e=.returned (.func (.func 225) #[] #[.pointer (some ⟨w.heap.size+1,0,none⟩),.pointer (some ⟨w.heap.size,0,none⟩),.pointer (some ⟨Bk,0,none⟩),.pointer (some ⟨Bm,0,none⟩)]) /\
   LBx w' w.heap.size l cs/\SlBox w' (w.heap.size+1) (.slice vo vn vc)/\w'.heap[Bk]?=some (.cells #[.int .i64 (l.ifs.length:Int)] 3 (0,0))/\w'.heap[Bm]?=some (.cells #[.int .i64 (l.outs.length:Int)] 3 (0,0))/\w.heap.size<=Bk/\w.heap.size<=Bm/\Ext w w':=by
 obtain⟨nm,k1,p1,m1,n1,a1,b1,o1,N1,c1,k2,p2,m2,n2,a2,b2,o2,N2,c2,io,N3,ic,oo,N4,oc,md,rfl,HLA,HPL,HPR,HIF,HOU,HNM,HN1,HN2,HN3,HN4,HMD,q0,q1,q2,q3,q4⟩:=law_gen hl
 rw [HN3.out,HN4.out]
 clear hl
 go_enter Tryz.func201,Tryz.ntmps201
 go_upto_region 1 with (fail)
 obtain⟨w1,hw1⟩:∃ D,(w.alloc (.cells #[.string nm,.int .i64 k1,.int .u32 (p1:Int),.int .u32 (m1:Int),.bool n1,.int .i64 a1,.int .i64 b1,.slice o1 N1 c1,.int .i64 k2,.int .u32 (p2:Int),.int .u32 (m2:Int),.bool n2,.int .i64 a2,.int .i64 b2,.slice o2 N2 c2,.slice io N3 ic,.slice oo N4 oc,.int .i64 md] 102)).alloc (.cells #[.slice vo vn vc] 99)=D:=⟨_,rfl⟩
 have hE1:Ext w w1:=by rw [<-hw1];exact((Turn.refl _ w).alloc _).alloc _
 have hl1:w1.heap[w.heap.size]?=some (.cells #[.string nm,.int .i64 k1,.int .u32 (p1:Int),.int .u32 (m1:Int),.bool n1,.int .i64 a1,.int .i64 b1,.slice o1 N1 c1,.int .i64 k2,.int .u32 (p2:Int),.int .u32 (m2:Int),.bool n2,.int .i64 a2,.int .i64 b2,.slice o2 N2 c2,.slice io N3 ic,.slice oo N4 oc,.int .i64 md] 102 (0,0)):=by rw [<-hw1];exact new_keep (new_at rfl)
 have hv1:SlBox w1 (w.heap.size+1) (.slice vo vn vc):=by rw [<-hw1];exact new_at (by simp)
 have hs1:w1.heap.size=w.heap.size+2:=by rw [<-hw1];simp
 rw [hw1]
 clear hw1
 obtain⟨B,hB⟩:∃ b,w.heap.size=b:=⟨_,rfl⟩
 rw [hB] at hl1 hv1 hs1 ⊢
 have HB:=Lib.hid hs1;have HBW:=Lib.hid hB;have HL1:=Lib.hid hl1;have HV1:=Lib.hid hv1
 have hcs:∀(D:World),Turn (fun b=>w1.heap.size<=b) w1 D->D.cell? ⟨B,15,none⟩=some (.slice io N3 ic)/\D.cell? ⟨B,16,none⟩=some (.slice oo N4 oc):=by
  intro D hD
  have h0:=hD.heap HL1.out (by have:=HB.out;omega)
  exact⟨cell_of_row _ _ 15 _ _ _ h0,cell_of_row _ _ 16 _ _ _ h0⟩
 have HS:=Lib.hid hcs
 clear hcs hl1 hv1 hs1 hB
 refine wp_region_late (S:=fun D=>D.cell? ⟨B,15,none⟩=some (.slice io N3 ic)/\D.cell? ⟨B,16,none⟩=some (.slice oo N4 oc)) [] (by kernel_rfl) (HS.out _ (Turn.drew (Turn.refl _ w1))) ?_
 intro hS0
 refine tkE (i:=0) (d:=7) (v:=?_) rfl (Or.inl ⟨by rfl,?_⟩) hS0 ?_
 rotate_left
 ·intro w hSw;(try dsimp only at hSw);go_simp;try with_reducible rfl
 try simp only [Act.put,pq]
 refine tkE (i:=1) (d:=8) (v:=?_) rfl (Or.inl ⟨by rfl,?_⟩) hS0 ?_
 rotate_left
 ·intro w hSw;(try dsimp only at hSw);go_simp;try with_reducible rfl
 try simp only [Act.put,pq]
 refine tkE (i:=2) (d:=9) (v:=?_) rfl (Or.inl ⟨by rfl,?_⟩) hS0 ?_
 rotate_left
 ·intro w hSw;(try dsimp only at hSw);go_simp;try with_reducible rfl
 try simp only [Act.put,pq]
 refine tkE (i:=3) (d:=10) (v:=?_) rfl (Or.inl ⟨by rfl,?_⟩) hS0 ?_
 rotate_left
 ·intro w hSw;(try dsimp only at hSw);go_simp;try with_reducible rfl
 try simp only [Act.put,pq]
 refine tkE (i:=4) (d:=11) (v:=?_) rfl (Or.inl ⟨by rfl,?_⟩) hS0 ?_
 rotate_left
 ·intro w hSw;(try dsimp only at hSw);go_simp;try with_reducible rfl
 try simp only [Act.put,pq]
 refine tkE (i:=5) (d:=12) (v:=?_) rfl (Or.inl ⟨by rfl,?_⟩) hS0 ?_
 rotate_left
 ·intro w hSw;(try dsimp only at hSw);go_simp;try with_reducible rfl
 try simp only [Act.put,pq]
 refine wpAnyE_ready (rs:=[6,7]) (by kernel_rfl) (by simp) ?_
 refine AllReadyE.cons rfl (fun K hK=>?_) (AllReadyE.cons rfl (fun K hK=>?_) AllReadyE.nil)
 ·(try rw [if_pos (show Region.wanted _ _=true from rfl)])
  go_simp
  have hE2:Ext w1 ((w1.drew).alloc (.cells #[.int .i64 0] 3)):=Turn.alloc (Turn.drew (Turn.refl _ w1)) _
  refine hK.out _ _ (HS.out _ (Ext.of hE2)) (fun hS2=>?_)
  clear hK K
  try simp only [Act.put,pq]
  refine wpAnyE_ready (rs:=[7]) (by kernel_rfl) (by simp) ?_
  refine AllReadyE.cons rfl (fun K hK=>?_) AllReadyE.nil
  (try rw [if_pos (show Region.wanted _ _=true from rfl)])
  go_simp
  have hE3:Ext w1 ((w1.drew.alloc (.cells #[.int .i64 0] 3)).alloc (.cells #[.int .i64 0] 3)):=Turn.alloc (hE2) _
  refine hK.out _ _ (HS.out _ (Ext.of hE3)) (fun hS3=>?_)
  clear hK K
  try simp only [Act.put,pq]
  rw [HB.out,show B+2+1=B+3 from rfl]
  obtain⟨w3,hw3⟩:∃ D,((w1.alloc (.cells #[.int .i64 0] 3)).alloc (.cells #[.int .i64 0] 3)).drew=D:=⟨_,rfl⟩
  have hE13:Ext w1 w3:=by rw [<-hw3];exact(((Turn.refl _ w1).alloc _).alloc _).drew
  have hz2:w3.heap[B+2]?=some (.cells #[.int .i64 0] 3 (0,0)):=by rw [<-hw3];exact drew_keep (new_keep (new_at HB.out.symm))
  have hz3:w3.heap[B+3]?=some (.cells #[.int .i64 0] 3 (0,0)):=by rw [<-hw3];exact drew_keep (new_at (by simp [HB.out]))
  rw [hw3]
  clear hw3 hS2 hS3 hE2 hE3
  refine wpAnyE_ready (rs:=[8]) (by kernel_rfl) (by simp) ?_
  refine AllReadyE.cons rfl (fun K hK=>?_) AllReadyE.nil
  (try rw [if_pos (show Region.wanted _ _=true from rfl)])
  have cK:=cell_of_one hz2
  have fK:=free_of_one hz2
  go_simp
  have hT4:Turn (fun b=>b=B+2) w3 (w3.setCell ⟨B+2,0,none⟩ (.int .i64 (N3:Int))):=Turn.set1 w3 (B+2) 0 _
  have hm4:=hT4.heap hz3 (by omega)
  have hk4:=cell1_set (.int .i64 (N3:Int)) hz2
  refine hK.out _ _ (HS.out _ ((Ext.of hE13).trans (hT4.mono (fun b hb e=>by have:=HB.out;omega)))) (fun hS4=>?_)
  clear hK K cK fK
  (try change wpAnyE _ _ _ _ _ _ _ _ (Act.put _ none _) _)
  (try simp only [Act.put])
  obtain⟨w4,hw4⟩:∃ D,w3.setCell ⟨B+2,0,none⟩ (.int .i64 (N3:Int))=D:=⟨_,rfl⟩
  rw [hw4] at hT4 hm4 hk4 hS4 ⊢
  clear hw4
  refine wpAnyE_ready (rs:=[9]) (by kernel_rfl) (by simp) ?_
  refine AllReadyE.cons rfl (fun K hK=>?_) AllReadyE.nil
  (try rw [if_pos (show Region.wanted _ _=true from rfl)])
  have cM:=cell_of_one hm4
  have fM:=free_of_one hm4
  go_simp
  have hT5:Turn (fun b=>b=B+3) w4 (w4.setCell ⟨B+3,0,none⟩ (.int .i64 (N4:Int))):=Turn.set1 w4 (B+3) 0 _
  have hk5:=hT5.heap hk4 (by omega)
  have hm5:=cell1_set (.int .i64 (N4:Int)) hm4
  refine hK.out _ _ (HS.out _ (((Ext.of hE13).trans (hT4.mono (fun b hb e=>by have:=HB.out;omega))).trans (hT5.mono (fun b hb e=>by have:=HB.out;omega)))) (fun _=>?_)
  clear hK K cM fM
  (try change wpAnyE _ _ _ _ _ _ _ _ (Act.put _ none _) _)
  (try simp only [Act.put])
  refine wpAnyE_done (by kernel_rfl) ?_ _
  have hEE:Ext w1 (w4.setCell ⟨B+3,0,none⟩ (.int .i64 (N4:Int))):=Turn.after (Turn.after hE13 hT4 (fun b hb e=>by have:=HB.out;omega)) hT5 (fun b hb e=>by have:=HB.out;omega)
  obtain⟨w5,hw5⟩:∃ D,w4.setCell ⟨B+3,0,none⟩ (.int .i64 (N4:Int))=D:=⟨_,rfl⟩
  rw [hw5] at hk5 hm5 hEE ⊢
  clear hw5 hT4 hT5 hm4 hk4 hS4 hE13 hz2 hz3
  go_wp2
  go_ret
  refine⟨B+2,B+3,?_⟩
  rw [HBW.out]
  exact⟨rfl,⟨hEE.keep HL1.out,HLA.out.ext (hE1.trans hEE)⟩,hEE.keep HV1.out,hk5,hm5,by omega,by omega,hE1.trans hEE⟩
 ·(try rw [if_pos (show Region.wanted _ _=true from rfl)])
  go_simp
  have hE2:Ext w1 ((w1.drew).alloc (.cells #[.int .i64 0] 3)):=Turn.alloc (Turn.drew (Turn.refl _ w1)) _
  refine hK.out _ _ (HS.out _ (Ext.of hE2)) (fun hS2=>?_)
  clear hK K
  try simp only [Act.put,pq]
  refine wpAnyE_ready (rs:=[6]) (by kernel_rfl) (by simp) ?_
  refine AllReadyE.cons rfl (fun K hK=>?_) AllReadyE.nil
  (try rw [if_pos (show Region.wanted _ _=true from rfl)])
  go_simp
  have hE3:Ext w1 ((w1.drew.alloc (.cells #[.int .i64 0] 3)).alloc (.cells #[.int .i64 0] 3)):=Turn.alloc (hE2) _
  refine hK.out _ _ (HS.out _ (Ext.of hE3)) (fun hS3=>?_)
  clear hK K
  try simp only [Act.put,pq]
  rw [HB.out,show B+2+1=B+3 from rfl]
  obtain⟨w3,hw3⟩:∃ D,((w1.alloc (.cells #[.int .i64 0] 3)).alloc (.cells #[.int .i64 0] 3)).drew=D:=⟨_,rfl⟩
  have hE13:Ext w1 w3:=by rw [<-hw3];exact(((Turn.refl _ w1).alloc _).alloc _).drew
  have hz2:w3.heap[B+2]?=some (.cells #[.int .i64 0] 3 (0,0)):=by rw [<-hw3];exact drew_keep (new_keep (new_at HB.out.symm))
  have hz3:w3.heap[B+3]?=some (.cells #[.int .i64 0] 3 (0,0)):=by rw [<-hw3];exact drew_keep (new_at (by simp [HB.out]))
  rw [hw3]
  clear hw3 hS2 hS3 hE2 hE3
  refine wpAnyE_ready (rs:=[8]) (by kernel_rfl) (by simp) ?_
  refine AllReadyE.cons rfl (fun K hK=>?_) AllReadyE.nil
  (try rw [if_pos (show Region.wanted _ _=true from rfl)])
  have cK:=cell_of_one hz3
  have fK:=free_of_one hz3
  go_simp
  have hT4:Turn (fun b=>b=B+3) w3 (w3.setCell ⟨B+3,0,none⟩ (.int .i64 (N3:Int))):=Turn.set1 w3 (B+3) 0 _
  have hm4:=hT4.heap hz2 (by omega)
  have hk4:=cell1_set (.int .i64 (N3:Int)) hz3
  refine hK.out _ _ (HS.out _ ((Ext.of hE13).trans (hT4.mono (fun b hb e=>by have:=HB.out;omega)))) (fun hS4=>?_)
  clear hK K cK fK
  (try change wpAnyE _ _ _ _ _ _ _ _ (Act.put _ none _) _)
  (try simp only [Act.put])
  obtain⟨w4,hw4⟩:∃ D,w3.setCell ⟨B+3,0,none⟩ (.int .i64 (N3:Int))=D:=⟨_,rfl⟩
  rw [hw4] at hT4 hm4 hk4 hS4 ⊢
  clear hw4
  refine wpAnyE_ready (rs:=[9]) (by kernel_rfl) (by simp) ?_
  refine AllReadyE.cons rfl (fun K hK=>?_) AllReadyE.nil
  (try rw [if_pos (show Region.wanted _ _=true from rfl)])
  have cM:=cell_of_one hm4
  have fM:=free_of_one hm4
  go_simp
  have hT5:Turn (fun b=>b=B+2) w4 (w4.setCell ⟨B+2,0,none⟩ (.int .i64 (N4:Int))):=Turn.set1 w4 (B+2) 0 _
  have hk5:=hT5.heap hk4 (by omega)
  have hm5:=cell1_set (.int .i64 (N4:Int)) hm4
  refine hK.out _ _ (HS.out _ (((Ext.of hE13).trans (hT4.mono (fun b hb e=>by have:=HB.out;omega))).trans (hT5.mono (fun b hb e=>by have:=HB.out;omega)))) (fun _=>?_)
  clear hK K cM fM
  (try change wpAnyE _ _ _ _ _ _ _ _ (Act.put _ none _) _)
  (try simp only [Act.put])
  refine wpAnyE_done (by kernel_rfl) ?_ _
  have hEE:Ext w1 (w4.setCell ⟨B+2,0,none⟩ (.int .i64 (N4:Int))):=Turn.after (Turn.after hE13 hT4 (fun b hb e=>by have:=HB.out;omega)) hT5 (fun b hb e=>by have:=HB.out;omega)
  obtain⟨w5,hw5⟩:∃ D,w4.setCell ⟨B+2,0,none⟩ (.int .i64 (N4:Int))=D:=⟨_,rfl⟩
  rw [hw5] at hk5 hm5 hEE ⊢
  clear hw5 hT4 hT5 hm4 hk4 hS4 hE13 hz2 hz3
  go_wp2
  go_ret
  refine⟨B+3,B+2,?_⟩
  rw [HBW.out]
  exact⟨rfl,⟨hEE.keep HL1.out,HLA.out.ext (hE1.trans hEE)⟩,hEE.keep HV1.out,hk5,hm5,by omega,by omega,hE1.trans hEE⟩
end Go.Proofs.YtfdlhlghcbeblaaGreatDoor
set_option maxRecDepth 100000
set_option maxHeartbeats 8000000
namespace Go.Proofs.YtfdlhlghcbeblaaGreatDoor
open Go.RowKit Go.Ab
attribute [local go_sem] Oper.semAt_some wide_fn wide_depth
theorem or_zero{a b:Nat}:a ||| b=0↔a=0/\b=0:=by
 constructor
 ·intro h
  have h1:=Nat.left_le_or (n:=a) (m:=b)
  have h2:=Nat.right_le_or (n:=a) (m:=b)
  omega
 ·rintro⟨rfl,rfl⟩;rfl
theorem and_or_zero{a b c:Nat}:a &&& (b ||| c)=0↔a &&& b=0/\a &&& c=0:=by rw [Nat.and_or_distrib_left,or_zero]
theorem high_zero{a b:Nat}(ha:a<4294967296)(hb:b<4294967296):andn (a ||| b) 16777215=0↔a<16777216/\b<16777216:=by
 have hab:a ||| b<4294967296:=Nat.or_lt_two_pow (n:=32) ha hb
 constructor
 ·intro h
  have key:∀ i,24<=i->(a ||| b).testBit i=false:=fun i hi=>by
   by_cases h32:i<32
   ·have:=congrArg (fun v=>Nat.testBit v i) h
    simp only [Nat.zero_testBit] at this
    rw [andn_bit _ hab,show (16777215:Nat)=2 ^ 24 - 1 from rfl,Nat.testBit_two_pow_sub_one] at this
    simpa [show ¬ i<24 by omega] using this
   ·exact high32 hab (by omega)
  have hlt:a ||| b<2 ^ 24:=Nat.lt_pow_two_of_testBit _ fun i hi=>key i hi
  have h1:=Nat.left_le_or (n:=a) (m:=b)
  have h2:=Nat.right_le_or (n:=a) (m:=b)
  omega
 ·rintro⟨h1,h2⟩
  have hlt:a ||| b<2 ^ 24:=Nat.or_lt_two_pow (n:=24) (by simpa using h1) (by simpa using h2)
  apply Nat.eq_of_testBit_eq
  intro i
  rw [andn_bit _ hab,Nat.zero_testBit,show (16777215:Nat)=2 ^ 24 - 1 from rfl,Nat.testBit_two_pow_sub_one]
  by_cases hi:i<24
  ·simp [hi]
  ·rw [Nat.testBit_lt_two_pow (Nat.lt_of_lt_of_le hlt (Nat.pow_le_pow_right (by decide) (by omega)))];rfl
theorem fit_prog{k:Nat}{x:OutD}(hx:OutOk x):fitB k x=if x.frm < -1\/(k:Int)<=x.frm then false else if okS x.st=false then false else if andn (x.cl ||| x.tk) 16777215≠0 then false else if x.cl &&& (x.st.1 ||| x.st.2)≠0 then false else
  if x.tk &&& ((x.st.1 ||| x.st.2) ||| x.cl)≠0 then false else if x.tk=0 then decide (x.ofi=0) else(decide (0<=x.ofi) && decide (x.ofi<k)):=by
 have hh:=high_zero hx.1 hx.2.2
 have ho:=and_or_zero (a:=x.tk) (b:=x.st.1 ||| x.st.2) (c:=x.cl)
 unfold fitB
 by_cases h1:x.frm < -1\/(k:Int)<=x.frm
 ·rw [if_pos h1]
  rcases h1 with h1 | h1
  ·rw [show decide (-1<=x.frm)=false by rw [decide_eq_false_iff_not];omega];simp
  ·rw [show decide (x.frm<(k:Int))=false by rw [decide_eq_false_iff_not];omega];simp
 rw [if_neg h1,show decide (-1<=x.frm)=true by rw [decide_eq_true_iff];omega,show decide (x.frm<(k:Int))=true by rw [decide_eq_true_iff];omega]
 by_cases h2:okS x.st=false
 ·rw [if_pos h2,h2];simp
 rw [if_neg h2,show okS x.st=true by simpa using h2]
 by_cases h3:andn (x.cl ||| x.tk) 16777215=0
 ·rw [if_neg (show ¬ (andn (x.cl ||| x.tk) 16777215≠0) from fun q=>q h3),decide_eq_true (hh.1 h3).1,decide_eq_true (hh.1 h3).2]
  by_cases h4:x.cl &&& (x.st.1 ||| x.st.2)=0
  ·rw [if_neg (show ¬ (x.cl &&& (x.st.1 ||| x.st.2)≠0) from fun q=>q h4),decide_eq_true h4]
   by_cases h5:x.tk &&& ((x.st.1 ||| x.st.2) ||| x.cl)=0
   ·rw [if_neg (show ¬ (x.tk &&& ((x.st.1 ||| x.st.2) ||| x.cl)≠0) from fun q=>q h5),decide_eq_true (ho.1 h5).1,decide_eq_true (ho.1 h5).2];simp only [Bool.and_self,Bool.true_and]
   ·rw [if_pos h5]
    by_cases h6:x.tk &&& (x.st.1 ||| x.st.2)=0
    ·rw [show decide (x.tk &&& x.cl=0)=false by rw [decide_eq_false_iff_not];exact fun h7=>h5 (ho.2 ⟨h6,h7⟩)];simp
    ·rw [decide_eq_false h6];simp
  ·rw [if_pos h4,decide_eq_false h4];simp
 ·rw [if_pos h3]
  by_cases h6:x.cl<16777216
  ·rw [show decide (x.tk<16777216)=false by rw [decide_eq_false_iff_not];exact fun h7=>h3 (hh.2 ⟨h6,h7⟩)];simp
  ·rw [decide_eq_false h6];simp
theorem fits_any{x:OutD}(hx:OutOk x)(k:Nat)(_hk:k<=9223372036854775807)(w:World) :
  Calls Tryz.prog 168 #[.agg (outCells x).toArray,.int .i64 (k:Int)] w fun e w'=>e=.returned (.bool (fitB k x))/\Ext w w':=by
 have HF:=Lib.hid (fit_prog (k:=k) hx)
 obtain⟨fr,cl,⟨sa,sb⟩,tk,ofi⟩:=x
 obtain⟨hcl,⟨hsa,hsb⟩,htk⟩:=hx
 dsimp only at hcl hsa hsb htk HF
 have hv:=fun(D:World)=>fvalid_any (s:=(sa,sb)) ⟨hsa,hsb⟩ D
 have o1:=u32_or_nat sa sb hsa hsb
 have hs:sa ||| sb<4294967296:=Nat.or_lt_two_pow (n:=32) hsa hsb
 obtain⟨s,hse⟩:∃ s,sa ||| sb=s:=⟨_,rfl⟩
 rw [hse] at o1 hs HF
 have o2:=u32_or_nat cl tk hcl htk
 have hct:cl ||| tk<4294967296:=Nat.or_lt_two_pow (n:=32) hcl htk
 obtain⟨ct,hcte⟩:∃ s,cl ||| tk=s:=⟨_,rfl⟩
 rw [hcte] at o2 hct HF
 have o3:bits .andNot .u32 (ct:Int) 16777215=((andn ct 16777215:Nat):Int):=andn32 ct 16777215 hct (by omega)
 obtain⟨e,hee⟩:∃ s,andn ct 16777215=s:=⟨_,rfl⟩
 rw [hee] at o3 HF
 have o4:=u32_and_nat cl s hcl hs
 obtain⟨f,hfe⟩:∃ y,cl &&& s=y:=⟨_,rfl⟩
 rw [hfe] at o4 HF
 have o5:=u32_or_nat s cl hs hcl
 have hsc:s ||| cl<4294967296:=Nat.or_lt_two_pow (n:=32) hs hcl
 obtain⟨g,hge⟩:∃ y,s ||| cl=y:=⟨_,rfl⟩
 rw [hge] at o5 HF hsc
 have o6:=u32_and_nat tk g htk hsc
 obtain⟨h,hhe⟩:∃ y,tk &&& g=y:=⟨_,rfl⟩
 rw [hhe] at o6 HF
 obtain⟨b,hbe⟩:∃ y,okS (sa,sb)=y:=⟨_,rfl⟩
 rw [hbe] at hv HF
 have HV:=Lib.hid hv
 obtain⟨R,hR⟩:∃ R,fitB k { frm:=fr,cl:=cl,st:=(sa,sb),tk:=tk,ofi:=ofi }=R:=⟨_,rfl⟩
 rw [hR] at HF ⊢
 clear hse hcte hee hfe hge hhe hbe hv hR
 unfold outCells
 dsimp only
 go_enter Tryz.func168,Tryz.ntmps168
 go_upto_region 1 with (fail)
 obtain⟨w1,hw1⟩:∃ D,w.alloc (.cells #[.int .i64 fr,.int .u32 (cl:Int),.int .u32 (sa:Int),.int .u32 (sb:Int),.int .u32 (tk:Int),.int .i64 ofi] 109)=D:=⟨_,rfl⟩
 have hE1:Ext w w1:=by rw [<-hw1];exact(Turn.refl _ w).alloc _
 have hb1:w1.heap[w.heap.size]?=some (.cells #[.int .i64 fr,.int .u32 (cl:Int),.int .u32 (sa:Int),.int .u32 (sb:Int),.int .u32 (tk:Int),.int .i64 ofi] 109 (0,0)):=by rw [<-hw1];exact new_at rfl
 (try rw [hw1])
 obtain⟨B,hB⟩:∃ y,w.heap.size=y:=⟨_,rfl⟩
 rw [hB] at hb1 ⊢
 have cX:=fun j=>cell_of_row _ _ j _ _ _ hb1
 have HB1:=Lib.hid hb1
 clear hw1 hB hb1
 by_cases h1:fr < -1
 ·have HR:Hid (R=false):=Lib.hid (by rw [HF.out,if_pos (.inl h1)])
  clear HF
  go_wp2
  go_ret
  exact⟨by rw [HR.out];rfl,hE1⟩
 by_cases h2:(k:Int)<=fr
 ·have HR:Hid (R=false):=Lib.hid (by rw [HF.out,if_pos (.inr h2)])
  clear HF
  go_wp2
  go_ret
  exact⟨by rw [HR.out];rfl,hE1⟩
 have HF2:Hid (R=if b=false then false else if e≠0 then false else if f≠0 then false else if h≠0 then false else if tk=0 then decide (ofi=0) else(decide (0<=ofi) && decide (ofi<k))):=Lib.hid (by rw [HF.out,if_neg (fun q=>q.elim h1 h2)])
 clear HF
 go_wp2_with fail
 refine(HV.out _).mono ?_
 rintro e' w2 ⟨rfl,hN⟩
 have hE2:=hE1.trans hN
 have cX2:=fun j=>cell_of_row _ _ j _ _ _ (hN.keep HB1.out)
 clear cX hN HB1
 cases b
 ·have HR:Hid (R=false):=Lib.hid (by rw [HF2.out];rfl)
  clear HF2
  go_wp2
  go_ret
  exact⟨by rw [HR.out];rfl,hE2⟩
 by_cases he0:e=0
 case neg=>
  have he1:((e:Int) != 0)=true:=by rw [bne_iff_ne];omega
  have HR:Hid (R=false):=Lib.hid (by rw [HF2.out,if_neg (by decide),if_pos he0])
  clear HF2
  go_wp2
  go_ret
  exact⟨by rw [HR.out];rfl,hE2⟩
 subst he0
 by_cases hf0:f=0
 case neg=>
  have he1:((f:Int) != 0)=true:=by rw [bne_iff_ne];omega
  have HR:Hid (R=false):=Lib.hid (by rw [HF2.out,if_neg (by decide),if_neg (by decide),if_pos hf0])
  clear HF2
  go_wp2
  go_ret
  exact⟨by rw [HR.out];rfl,hE2⟩
 subst hf0
 by_cases hh0:h=0
 case neg=>
  have he1:((h:Int) != 0)=true:=by rw [bne_iff_ne];omega
  have HR:Hid (R=false):=Lib.hid (by rw [HF2.out,if_neg (by decide),if_neg (by decide),if_neg (by decide),if_pos hh0])
  clear HF2
  go_wp2
  go_ret
  exact⟨by rw [HR.out];rfl,hE2⟩
 subst hh0
 have HF3:Hid (R=if tk=0 then decide (ofi=0) else(decide (0<=ofi) && decide (ofi<k))):=Lib.hid (by rw [HF2.out];rfl)
 clear HF2
 by_cases ht0:tk=0
 ·have ht1:((tk:Int) == 0)=true:=by rw [beq_iff_eq];omega
  have HR:Hid (R=decide (ofi=0)):=Lib.hid (by rw [HF3.out,if_pos ht0])
  obtain⟨q,hq⟩:∃ q,decide (ofi=0)=q:=⟨_,rfl⟩
  have hq2:(ofi == 0)=q:=by rw [<-hq];rfl
  rw [hq] at HR
  clear HF3 hq ht0
  go_wp2
  go_ret
  exact⟨by rw [HR.out];rfl,hE2⟩
 ·have ht1:((tk:Int) == 0)=false:=by rw [beq_eq_false_iff_ne];omega
  have HR:Hid (R=(decide (0<=ofi) && decide (ofi<k))):=Lib.hid (by rw [HF3.out,if_neg ht0])
  clear HF3
  by_cases hq0:0<=ofi
  ·have HR2:Hid (R=decide (ofi<k)):=Lib.hid (by rw [HR.out,decide_eq_true hq0];rfl)
   go_wp2
   go_ret
   exact⟨by rw [HR2.out];rfl,hE2⟩
  ·have hq1:¬ (0:Int)<=ofi:=hq0
   have HR2:Hid (R=false):=Lib.hid (by rw [HR.out,decide_eq_false hq0];rfl)
   go_wp2
   go_ret
   exact⟨by rw [HR2.out];rfl,hE2⟩
end Go.Proofs.YtfdlhlghcbeblaaGreatDoor
set_option maxRecDepth 100000
set_option maxHeartbeats 4000000
namespace Go.Proofs.YtfdlhlghcbeblaaGreatDoor
open Go.RowKit Go.Ab
attribute [local go_sem] Oper.semAt_some wide_fn wide_depth
theorem index_out{w:World}{ao:Option Addr}{N cap:Nat}{l:List OutD}(hl:OutsAt w (.slice ao N cap) l) (hN:l.length=N) (hlm:N<=maxLen) (fn:Nat) (lb:Array Value) (hen:∀ args w,(callFunc fn args).run Tryz.prog w=.ok (.enter fn args) w)
  (F:OutD->Bool) (hF:∀ x∈l,∀ V,Ext w V->Calls Tryz.prog fn (#[.agg (outCells x).toArray]++lb) V fun e w'=>e=.returned (.bool (F x))/\Ext V w') :
  Calls Tryz.prog 199 #[.slice ao N cap,.func (.func fn) #[] lb] w fun e w'=>∃ z:Int,e=.returned (.int .i64 z)/\decide (0<=z)=l.any F/\Ext w w':=by
 unfold maxLen at hlm
 have HL:=Lib.hid hl;have HF:=Lib.hid hF;have HN:=Lib.hid hN;have HEN:=Lib.hid hen
 clear hl hF hN hen
 go_enter Tryz.func199,Tryz.ntmps199
 go_wp2
 refine wp_loop (fun a W=>∃(k:Nat),k<=N/\a.defers=[]/\(a.tmps.size=19/\a.tmps.getD 0 undef=.slice ao N cap/\a.tmps.getD 1 undef=.func (.func fn) #[] lb/\a.tmps.getD 7 undef=.int .i64 N/\a.tmps.getD 8 undef=.int .i64 k)/\(l.take k).any F=false/\Ext w W)
  (fun a _=>N - (intOf (a.tmps.getD 8 undef)).toNat) ?_ ?_
 ·exact⟨0,by omega,rfl,⟨rfl,rfl,rfl,rfl,rfl⟩,by simp,Turn.refl _ _⟩
 rintro⟨t,_⟩ W ⟨k,hk,hds,⟨hsz,f0,f1,f7,f8⟩,hall,hE⟩
 subst hds
 obtain⟨u',hu⟩:=frame_fun hsz
 obtain⟨u,rfl⟩:∃ x,x=u':=⟨_,rfl⟩
 have hu':t=#[u 0,u 1,u 2,u 3,u 4,u 5,u 6,u 7,u 8,u 9,u 10,u 11,u 12,u 13,u 14,u 15,u 16,u 17,u 18]:=hu
 clear hu
 subst hu'
 change u 0=_ at f0
 change u 1=_ at f1
 change u 7=_ at f7
 change u 8=_ at f8
 rw [f0,f1,f7,f8]
 clear f0 f1 f7 f8 hsz
 have HALL:=Lib.hid hall
 clear hall
 by_cases hkN:k<N
 ·have h1:(k:Int)<(N:Int):=by omega
  have hkl:k<l.length:=by rw [HN.out];exact hkN
  obtain⟨g,off,c',hq,hg,_,d0,d1,d2,d3,d4,d5⟩:=(HL.out.ext hE).at hkl
  simp only [Value.slice.injEq] at hq
  obtain⟨rfl,hz,rfl⟩:=hq
  clear hz
  have hc:=HF.out _ (List.getElem_mem hkl) W hE
  obtain⟨x,hx⟩:∃ x,l[k]=x:=⟨_,rfl⟩
  have HX:Hid (l[k]=x):=Lib.hid hx
  rw [hx] at d0 d1 d2 d3 d4 d5 hc
  unfold outCells at hc
  obtain⟨b,hb⟩:∃ b,F x=b:=⟨_,rfl⟩
  rw [hb] at hc
  have HB:Hid (F l[k]=b):=Lib.hid (by rw [hx];exact hb)
  have HC:=Lib.hid hc
  clear hc hx hb
  have hen:=HEN.out
  go_wp2_with fail
  clear hen
  refine HC.out.mono ?_
  rintro e W2 ⟨rfl,hE2⟩
  have hE02:=hE.trans hE2
  clear HC hE hE2 d0 d1 d2 d3 d4 d5
  cases b
  ·have hfin:(l.take (k+1)).any F=false:=by
    rw [List.take_succ_eq_append_getElem hkl,List.any_append,HALL.out];simp [HB.out]
   have HFI:=Lib.hid hfin
   clear hfin
   go_wp2
   exact⟨⟨k+1,by omega,by first | rfl | trivial,⟨rfl,rfl,rfl,rfl,rfl⟩,HFI.out,hE02⟩,by simp [intOf];omega⟩
  ·have hfin:l.any F=true:=List.any_eq_true.2 ⟨_,List.getElem_mem hkl,HB.out⟩
   have HFI:=Lib.hid hfin
   clear hfin
   go_wp2
   go_ret
   exact⟨_,rfl,by rw [HFI.out];simp,hE02⟩
 ·obtain rfl:k=N:=by omega
  have h1:¬ (k:Int)<(k:Int):=by omega
  have hfin:l.any F=false:=by have:=HALL.out;rwa [List.take_of_length_le (by rw [HN.out];exact Nat.le_refl _)] at this
  have HFI:=Lib.hid hfin
  clear hfin
  go_wp2
  go_ret
  exact⟨_,rfl,by rw [HFI.out];simp,hE⟩
theorem contains_out{w:World}{ao:Option Addr}{N cap:Nat}{l:List OutD}(hl:OutsAt w (.slice ao N cap) l) (hN:l.length=N) (hlm:N<=maxLen) (fn:Nat) (lb:Array Value) (hen:∀ args w,(callFunc fn args).run Tryz.prog w=.ok (.enter fn args) w)
  (F:OutD->Bool) (hF:∀ x∈l,∀ V,Ext w V->Calls Tryz.prog fn (#[.agg (outCells x).toArray]++lb) V fun e w'=>e=.returned (.bool (F x))/\Ext V w') :
  Calls Tryz.prog 174 #[.slice ao N cap,.func (.func fn) #[] lb] w fun e w'=>e=.returned (.bool (l.any F))/\Ext w w':=by
 have hi:=index_out hl hN hlm (cap:=cap) fn lb hen F hF
 have HI:=Lib.hid hi
 clear hi hF hl hen hN
 go_enter Tryz.func174,Tryz.ntmps174
 go_wp2_with fail
 refine HI.out.mono ?_
 rintro e w2 ⟨z,rfl,hz,hE⟩
 have HZ:=Lib.hid hz
 clear hz
 go_wp2
 go_ret
 exact⟨by rw [<-HZ.out];rfl,hE⟩
theorem index_snd{w:World}{ao:Option Addr}{N cap:Nat}{l:List (Nat × Nat)} (hl:WordAt w (.slice ao N cap) l) (hN:l.length=N) (hlm:N<=maxLen) (fn:Nat) (lb:Array Value) (hen:∀ args w,(callFunc fn args).run Tryz.prog w=.ok (.enter fn args) w)
  (F:(Nat × Nat)->Bool) (hF:∀ x∈l,∀ V,Ext w V->Calls Tryz.prog fn (#[sV x]++lb) V fun e w'=>e=.returned (.bool (F x))/\Ext V w') :
  Calls Tryz.prog 198 #[.slice ao N cap,.func (.func fn) #[] lb] w fun e w'=>∃ z:Int,e=.returned (.int .i64 z)/\decide (0<=z)=l.any F/\Ext w w':=by
 unfold maxLen at hlm
 have HL:=Lib.hid hl;have HF:=Lib.hid hF;have HN:=Lib.hid hN;have HEN:=Lib.hid hen
 clear hl hF hN hen
 go_enter Tryz.func198,Tryz.ntmps198
 go_wp2
 refine wp_loop (fun a W=>∃(k:Nat),k<=N/\a.defers=[]/\(a.tmps.size=19/\a.tmps.getD 0 undef=.slice ao N cap/\a.tmps.getD 1 undef=.func (.func fn) #[] lb/\a.tmps.getD 7 undef=.int .i64 N/\a.tmps.getD 8 undef=.int .i64 k)/\(l.take k).any F=false/\Ext w W)
  (fun a _=>N - (intOf (a.tmps.getD 8 undef)).toNat) ?_ ?_
 ·exact⟨0,by omega,rfl,⟨rfl,rfl,rfl,rfl,rfl⟩,by simp,Turn.refl _ _⟩
 rintro⟨t,_⟩ W ⟨k,hk,hds,⟨hsz,f0,f1,f7,f8⟩,hall,hE⟩
 subst hds
 obtain⟨u',hu⟩:=frame_fun hsz
 obtain⟨u,rfl⟩:∃ x,x=u':=⟨_,rfl⟩
 have hu':t=#[u 0,u 1,u 2,u 3,u 4,u 5,u 6,u 7,u 8,u 9,u 10,u 11,u 12,u 13,u 14,u 15,u 16,u 17,u 18]:=hu
 clear hu
 subst hu'
 change u 0=_ at f0
 change u 1=_ at f1
 change u 7=_ at f7
 change u 8=_ at f8
 rw [f0,f1,f7,f8]
 clear f0 f1 f7 f8 hsz
 have HALL:=Lib.hid hall
 clear hall
 by_cases hkN:k<N
 ·have h1:(k:Int)<(N:Int):=by omega
  have hkl:k<l.length:=by rw [HN.out];exact hkN
  obtain⟨g,off,c',hq,hg,d0,d1⟩:=(HL.out.ext hE).at hkl
  simp only [Value.slice.injEq] at hq
  obtain⟨rfl,hz,rfl⟩:=hq
  clear hz
  have hgd:l.getD k (0,0)=l[k]:=by rw [List.getD_eq_getElem?_getD,List.getElem?_eq_getElem hkl];rfl
  rw [hgd] at d0 d1
  have hc:=HF.out _ (List.getElem_mem hkl) W hE
  obtain⟨x,hx⟩:∃ x,l[k]=x:=⟨_,rfl⟩
  rw [hx] at d0 d1 hc
  obtain⟨x1,x2⟩:=x
  dsimp only at d0 d1
  obtain⟨b,hb⟩:∃ b,F (x1,x2)=b:=⟨_,rfl⟩
  rw [hb] at hc
  have HB:Hid (F l[k]=b):=Lib.hid (by rw [hx];exact hb)
  have HC:=Lib.hid hc
  clear hc hx hb hgd
  have hen:=HEN.out
  go_wp2_with fail
  clear hen
  refine HC.out.mono ?_
  rintro e W2 ⟨rfl,hE2⟩
  have hE02:=hE.trans hE2
  clear HC hE hE2 d0 d1
  cases b
  ·have hfin:(l.take (k+1)).any F=false:=by
    rw [List.take_succ_eq_append_getElem hkl,List.any_append,HALL.out];simp [HB.out]
   have HFI:=Lib.hid hfin
   clear hfin
   go_wp2
   exact⟨⟨k+1,by omega,by first | rfl | trivial,⟨rfl,rfl,rfl,rfl,rfl⟩,HFI.out,hE02⟩,by simp [intOf];omega⟩
  ·have hfin:l.any F=true:=List.any_eq_true.2 ⟨_,List.getElem_mem hkl,HB.out⟩
   have HFI:=Lib.hid hfin
   clear hfin
   go_wp2
   go_ret
   exact⟨_,rfl,by rw [HFI.out];simp,hE02⟩
 ·obtain rfl:k=N:=by omega
  have h1:¬ (k:Int)<(k:Int):=by omega
  have hfin:l.any F=false:=by have:=HALL.out;rwa [List.take_of_length_le (by rw [HN.out];exact Nat.le_refl _)] at this
  have HFI:=Lib.hid hfin
  clear hfin
  go_wp2
  go_ret
  exact⟨_,rfl,by rw [HFI.out];simp,hE⟩
theorem contains_snd{w:World}{ao:Option Addr}{N cap:Nat}{l:List (Nat × Nat)} (hl:WordAt w (.slice ao N cap) l) (hN:l.length=N) (hlm:N<=maxLen) (fn:Nat) (lb:Array Value) (hen:∀ args w,(callFunc fn args).run Tryz.prog w=.ok (.enter fn args) w)
  (F:(Nat × Nat)->Bool) (hF:∀ x∈l,∀ V,Ext w V->Calls Tryz.prog fn (#[sV x]++lb) V fun e w'=>e=.returned (.bool (F x))/\Ext V w') :
  Calls Tryz.prog 173 #[.slice ao N cap,.func (.func fn) #[] lb] w fun e w'=>e=.returned (.bool (l.any F))/\Ext w w':=by
 have hi:=index_snd hl hN hlm (cap:=cap) fn lb hen F hF
 have HI:=Lib.hid hi
 clear hi hF hl hen hN
 go_enter Tryz.func173,Tryz.ntmps173
 go_wp2_with fail
 refine HI.out.mono ?_
 rintro e w2 ⟨z,rfl,hz,hE⟩
 have HZ:=Lib.hid hz
 clear hz
 go_wp2
 go_ret
 exact⟨by rw [<-HZ.out];rfl,hE⟩
theorem badout_any{x:OutD}(hx:OutOk x){k Bk:Nat}(hk:k<=9223372036854775807){w:World}(hb:w.heap[Bk]?=some (.cells #[.int .i64 (k:Int)] 3 (0,0))) :
  Calls Tryz.prog 167 #[.agg (outCells x).toArray,.pointer (some ⟨Bk,0,none⟩)] w fun e w'=>e=.returned (.bool (!fitB k x))/\Ext w w':=by
 have hE1:Ext w (w.alloc (.cells (outCells x).toArray 109)):=(Turn.refl _ w).alloc _
 have cB:=cell_of_one (hE1.keep hb)
 have hc:=fits_any hx k hk (w.alloc (.cells (outCells x).toArray 109))
 obtain⟨b,hbe⟩:∃ b,fitB k x=b:=⟨_,rfl⟩
 rw [hbe] at hc ⊢
 have HC:=Lib.hid hc;have HE:=Lib.hid hE1
 clear hbe hc hE1 hb
 unfold outCells at HC cB HE ⊢
 go_enter Tryz.func167,Tryz.ntmps167
 go_wp2_with fail
 refine HC.out.mono ?_
 rintro e w2 ⟨rfl,hE⟩
 have hE2:=HE.out.trans hE
 cases b
 all_goals
  go_wp2
  go_ret
  exact⟨rfl,hE2⟩
theorem invsnd_any{s:Nat × Nat}(hs:lt32 s)(w:World) :
  Calls Tryz.prog 169 #[sV s] w fun e w'=>e=.returned (.bool (!okS s))/\Ext w w':=by
 have hE1:Ext w (w.alloc (.cells #[.int .u32 (s.1:Int),.int .u32 (s.2:Int)] 95)):=(Turn.refl _ w).alloc _
 have hc:=fvalid_any hs (w.alloc (.cells #[.int .u32 (s.1:Int),.int .u32 (s.2:Int)] 95))
 obtain⟨b,hbe⟩:∃ b,okS s=b:=⟨_,rfl⟩
 rw [hbe] at hc ⊢
 have HC:=Lib.hid hc;have HE:=Lib.hid hE1
 clear hbe hc hE1
 go_enter Tryz.func169,Tryz.ntmps169
 go_wp2_with fail
 refine HC.out.mono ?_
 rintro e w2 ⟨rfl,hE⟩
 have hE2:=HE.out.trans hE
 cases b
 all_goals
  go_wp2
  go_ret
  exact⟨rfl,hE2⟩
end Go.Proofs.YtfdlhlghcbeblaaGreatDoor
