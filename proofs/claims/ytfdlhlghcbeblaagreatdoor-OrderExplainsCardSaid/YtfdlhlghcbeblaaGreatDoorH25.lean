/- law.Trace (printed by genltrace.py). slices.Clone over sounds; a word of its own. -/
import Derived.Test.YtfdlhlghcbeblaaGreatDoorH24
import Derived.Test.YtfdlhlghcbeblaaGreatDoorH14
import Derived.Test.YtfdlhlghcbeblaaGreatDoorH15
import Derived.Test.YtfdlhlghcbeblaaGreatDoorH10
import Derived.Test.YtfdlhlghcbeblaaGreatDoorH05
import Derived.Test.YtfdlhlghcbeblaaGreatDoorH11
import Derived.Test.YtfdlhlghcbeblaaGreatDoorH16
import Derived.Lib.SliceRun
set_option maxRecDepth 100000
set_option maxHeartbeats 16000000
namespace Go.Proofs.YtfdlhlghcbeblaaGreatDoor
open Go.RowKit Go.Ab
attribute [local go_sem] Oper.semAt_some wide_fn wide_depth
theorem Tryz.infoW:(Tryz.prog.info? 99).map (fun i=>(i.zero,i.size,i.bytes))=some (some (.slice none 0 0),1,24):=by kernel_rfl
theorem ltrace_fr{w:World}{l:LawD}{cs:List Value}{vo:Option Addr}{vc:Nat}{ws:Wd}(hl:LawAt w l cs)(hv:WordAt w (.slice vo ws.length vc) ws) (hcap:ws.length<=vc) (hT:Tab w) :
  Calls Tryz.prog 175 #[.agg cs.toArray,.slice vo ws.length vc] w fun e w'=>∃ u v,e=.returned (.tuple #[u,v,.int .i64 (trE l ws)])/\TrOutF w.heap.size w' u v (trT l ws)/\Ext w w':=by
 have hck:=fun(V:World) (hE:Ext w V)=>lwcheck_any (hl.ext hE) (hv.ext hE) (hT.keep hE id)
 have hrun:=fun(V:World) (hE:Ext w V)=>lrun_any (hl.ext hE) (vo:=vo) (vn:=ws.length) (vc:=vc)
 have HLW:=Lib.hid hl;have HVW:=Lib.hid hv;have HTW:=Lib.hid hT
 have hin:KeptIn (fun g=>g<w.heap.size) (.slice vo ws.length vc):=fun g o n c e h0=>by
  obtain⟨_,_,ao,cap,q,h3⟩:=hv.1
  rw [q] at e
  cases e
  cases q
  obtain⟨g',o',q1,q2,_⟩:=h3 h0
  cases q1;exact q2
 have hcases:lawW l ws=0->lawB l=true/\ws.length<=32:=fun h0=>⟨(lawW_zero h0).1,wE_le (lawW_zero h0).2⟩
 have htr:trE l ws=if lawW l ws=0 then(if longT (traceL l ws)=true then 11 else 0) else lawW l ws:=rfl
 have htt:trT l ws=if trE l ws=0 then traceL l ws else []:=rfl
 have hcnt:=traceL_count l ws
 obtain⟨wn,hwn⟩:∃ n,ws.length=n:=⟨_,rfl⟩
 rw [hwn] at hck hrun hin hcases hcap hcnt HVW
 rw [hwn]
 obtain⟨nm,k1,p1,m1,n1,a1,b1,o1,N1,c1,k2,p2,m2,n2,a2,b2,o2,N2,c2,io,N3,ic,oo,N4,oc,md,rfl,HLA,HPL,HPR,HIF,HOU,HNM,HN1,HN2,HN3,HN4,HMD,q0,q1,q2,q3,q4⟩:=law_gen hl
 obtain⟨R,hR⟩:∃ R,lawW l ws=R:=⟨_,rfl⟩
 obtain⟨E,hE⟩:∃ R,trE l ws=R:=⟨_,rfl⟩
 obtain⟨U,hU⟩:∃ R,trT l ws=R:=⟨_,rfl⟩
 rw [hR] at hck hcases htr
 rw [hE] at htr htt ⊢
 rw [hU] at htt ⊢
 have HCK:=Lib.hid hck;have HRUN:=Lib.hid hrun;have HIN:=Lib.hid hin;have HCA:=Lib.hid hcases;have HTR:=Lib.hid htr;have HTT:=Lib.hid htt;have HWN:=Lib.hid hwn
 clear hl hv hT hck hrun hin hcases htr htt hR hE hU hwn
 refine calls_of_wp_marks Tryz.func175 rfl ?_
 simp only [Tryz.ntmps175,List.size_toArray,List.length_cons,List.length_nil,Nat.reduceAdd,Nat.reduceSub,Array.replicate_succ,Array.replicate_zero,List.push_toArray,List.append_toArray,List.nil_append,List.cons_append]
 go_upto_region 1 with (fail)
 obtain⟨w0,hw0⟩:∃ D,(((w.alloc (.cells #[.string nm,.int .i64 k1,.int .u32 (p1:Int),.int .u32 (m1:Int),.bool n1,.int .i64 a1,.int .i64 b1,.slice o1 N1 c1,.int .i64 k2,.int .u32 (p2:Int),.int .u32 (m2:Int),.bool n2,.int .i64 a2,.int .i64 b2,.slice o2 N2 c2,.slice io N3 ic,.slice oo N4 oc,.int .i64 md] 102)).alloc (.cells #[.slice none 0 0] 48)).alloc (.cells #[.slice none 0 0] 60)).alloc (.cells #[.int .i64 0] 40)=D:=⟨_,rfl⟩
 have hE0:Ext w w0:=by rw [<-hw0];exact((((Turn.refl _ w).alloc _).alloc _).alloc _).alloc _
 have hl0:w0.heap[w.heap.size]?=some (.cells #[.string nm,.int .i64 k1,.int .u32 (p1:Int),.int .u32 (m1:Int),.bool n1,.int .i64 a1,.int .i64 b1,.slice o1 N1 c1,.int .i64 k2,.int .u32 (p2:Int),.int .u32 (m2:Int),.bool n2,.int .i64 a2,.int .i64 b2,.slice o2 N2 c2,.slice io N3 ic,.slice oo N4 oc,.int .i64 md] 102 (0,0)):=by rw [<-hw0];exact new_keep (new_keep (new_keep (new_at rfl)))
 have hu0:w0.heap[w.heap.size+1]?=some (.cells #[.slice none 0 0] 48 (0,0)):=by rw [<-hw0];exact new_keep (new_keep (new_at (by simp)))
 have hv0:w0.heap[w.heap.size+2]?=some (.cells #[.slice none 0 0] 60 (0,0)):=by rw [<-hw0];exact new_keep (new_at (by simp))
 have he0:w0.heap[w.heap.size+3]?=some (.cells #[.int .i64 0] 40 (0,0)):=by rw [<-hw0];exact new_at (by simp)
 have hs0:w0.heap.size=w.heap.size+4:=by rw [<-hw0];simp
 rw [hw0]
 obtain⟨B,hB⟩:∃ b,w.heap.size=b:=⟨_,rfl⟩
 rw [hB] at hl0 hu0 hv0 he0 hs0 ⊢
 have HB:=Lib.hid hB;have HL0:=Lib.hid hl0
 clear hw0 hB hl0
 go_wp2_with (refine wpList_load_row rfl 102 (.tmp 2) rfl B rfl _ _ _ _ HL0.out Tryz.underlying102 rfl Tryz.lawInfo ?_)
 refine(HCK.out _ hE0).mono ?_
 rintro e w1 ⟨rfl,hN⟩
 have hE1:=hE0.trans hN
 have HL1:=Lib.hid (hN.keep HL0.out)
 have hu1:=hN.keep hu0
 have hv1:=hN.keep hv0
 have he1:=hN.keep he0
 have hs1:B+4<=w1.heap.size:=by have:=hN.size;omega
 clear hN hE0 HL0 HCK hu0 hv0 he0 hs0
 by_cases h0:R=0
 case neg=>
  have h1:(R != 0)=true:=by rw [bne_iff_ne];exact h0
  have HE:Hid (E=R):=Lib.hid (by rw [HTR.out,if_neg h0])
  have HU:Hid (U=[]):=Lib.hid (by rw [HTT.out,if_neg (by rw [HE.out];exact h0)])
  have hset:=set3 hu1 hv1 he1 (by omega) (by omega) (by omega) (.slice none 0 0) (.slice none 0 0) (.int .i64 R)
  have HSET:=Lib.hid hset
  have cu:=cell_of_one hu1;have fu:=free_of_one hu1
  have cv:=cell_of_one hv1;have fv:=free_of_one hv1
  have ce:=cell_of_one he1;have fe:=free_of_one he1
  clear hset hu1 hv1 he1 HRUN
  go_wp2
  obtain⟨q1,q2,q3,q4⟩:=HSET.out
  refine leavesM (v:=.tuple #[.slice none 0 0,.slice none 0 0,.int .i64 R]) (base:=B) _ _ trivial fun w' ht' hs=>⟨results_three rfl rfl rfl rfl (ht'.heap q1 (Go.Ab.Shut.not q1 rfl)) (ht'.heap q2 (Go.Ab.Shut.not q2 rfl)) (ht'.heap q3 (Go.Ab.Shut.not q3 rfl)),_,_,by rw [HE.out],by rw [HU.out];exact TrOutF.nil _ _,?_⟩
  exact(hE1.after q4 (fun b hb hn=>by have:=HB.out;omega)).after ht' (fun b h1 h2=>by have:=h2.1;have:=HB.out;omega)
 subst h0
 obtain⟨hlaw,hwl⟩:=HCA.out rfl
 have HTR1:Hid (E=if longT (traceL l ws)=true then 11 else 0):=Lib.hid (by rw [HTR.out,if_pos rfl])
 clear HTR HCA
 go_upto_region 6 with (fail)
 obtain⟨w2,hw2⟩:∃ D,(w1.alloc (.cells #[.slice none 0 0] 48)).alloc (.cells #[.slice none 0 0] 60)=D:=⟨_,rfl⟩
 have hN2:Ext w1 w2:=by rw [<-hw2];exact((Turn.refl _ w1).alloc _).alloc _
 have hp2:w2.heap[w1.heap.size]?=some (.cells #[.slice none 0 0] 48 (0,0)):=by rw [<-hw2];exact new_keep (new_at rfl)
 have hq2:w2.heap[w1.heap.size+1]?=some (.cells #[.slice none 0 0] 60 (0,0)):=by rw [<-hw2];exact new_at (by simp)
 have hs2:w2.heap.size=w1.heap.size+2:=by rw [<-hw2];simp
 rw [hw2]
 obtain⟨P,hP⟩:∃ b,w1.heap.size=b:=⟨_,rfl⟩
 rw [hP] at hp2 hq2 hs2 hs1 ⊢
 have hBP:=hs1
 have hE2:=hE1.trans hN2
 have HL2:=Lib.hid (hN2.keep HL1.out)
 have hu2:=hN2.keep hu1
 have hv2:=hN2.keep hv1
 have he2:=hN2.keep he1
 clear hw2 hP hN2 hE1 HL1 hu1 hv1 he1 hs1
 go_wp2_with (refine wpList_load_row rfl 102 (.tmp 2) rfl B rfl _ _ _ _ HL2.out Tryz.underlying102 rfl Tryz.lawInfo ?_)
 have hrc:=HRUN.out w2 hE2
 rw [hs2] at hrc
 have HRC:=Lib.hid hrc
 clear hrc
 refine HRC.out.mono ?_
 rintro e w3 ⟨Bk,Bm,rfl,hLB,hSB,hKB,hMB,hk1,hm1,hN⟩
 have hE3:=hE2.trans hN
 have hp3:=hN.keep hp2
 have hq3:=hN.keep hq2
 have hu3:=hN.keep hu2
 have hv3:=hN.keep hv2
 have he3:=hN.keep he2
 have hs3:P+2<=w3.heap.size:=by have:=hN.size;omega
 have hL3:=(Array.getElem?_eq_some_iff.1 hLB.1).1
 have hS3:=(Array.getElem?_eq_some_iff.1 hSB).1
 have hK3:=(Array.getElem?_eq_some_iff.1 hKB).1
 have hM3:=(Array.getElem?_eq_some_iff.1 hMB).1
 obtain⟨D,hD⟩:∃ b,w3.heap.size=b:=⟨_,rfl⟩
 rw [hD] at hs3 hL3 hS3 hK3 hM3
 have hPD:=hs3
 have HD:=Lib.hid hD
 have hiter:∃ m,IterO Tryz.prog 225 #[.pointer (some ⟨P+2+1,0,none⟩),.pointer (some ⟨P+2,0,none⟩),.pointer (some ⟨Bk,0,none⟩),.pointer (some ⟨Bm,0,none⟩)] (RunM m) (RunE m) (traceL l ws) (fun b=>b<D/\b≠P/\b≠P+1/\b≠B+1/\b≠B+2/\b≠B+3) w3:=by
  refine run_iter (cs:=[.string nm,.int .i64 k1,.int .u32 (p1:Int),.int .u32 (m1:Int),.bool n1,.int .i64 a1,.int .i64 b1,.slice o1 N1 c1,.int .i64 k2,.int .u32 (p2:Int),.int .u32 (m2:Int),.bool n2,.int .i64 a2,.int .i64 b2,.slice o2 N2 c2,.slice io N3 ic,.slice oo N4 oc,.int .i64 md]) (vo:=vo) (vc:=vc) hlaw (by rw [HWN.out];exact hwl) (by rw [HWN.out];exact hcap) (by rw [HWN.out];exact HIN.out.mono fun b hb=>by have:=HB.out;omega) (fun b hb=>by omega) (fun W hW=>?_)
  have hEW:Ext w W:=hE3.after hW (fun b hb hn=>hn (by have:=HB.out;omega))
  exact⟨⟨hW.heap hLB.1 (fun hn=>hn (by omega)),HLA.out.ext hEW⟩,by rw [HWN.out];exact hW.heap hSB (fun hn=>hn (by omega)),by rw [HWN.out];exact HVW.out.ext hEW,HTW.out.keep hEW id,hW.heap hKB (fun hn=>hn (by omega)),hW.heap hMB (fun hn=>hn (by omega))⟩
 obtain⟨m,hit⟩:=hiter
 have HIT:=Lib.hid hit
 have HU3:=Lib.hid hu3;have HV3:=Lib.hid hv3;have HE3:=Lib.hid he3;have HP3:=Lib.hid hp3;have HQ3:=Lib.hid hq3
 clear hit hLB hSB hKB hMB hN hE2 HL2 hp2 hq2 hu2 hv2 he2 hs2 hp3 hq3 hu3 hv3 he3 HRC HRUN hk1 hm1 hL3 hS3 hK3 hM3 hD
 go_wp2_with fail
 refine wp_rangeO (xs:=traceL l ws) (K:=fun b=>b<D/\b≠P/\b≠P+1/\b≠B+1/\b≠B+2/\b≠B+3) rfl (enters_of Tryz.func225 (by kernel_rfl) rfl) HIT.out (fun b h=>by rw [HD.out];exact h.1) (fun _ _ x A ys h=>by obtain⟨ao,c,rfl,_⟩:=h;rfl) ?hEs
  (fun O pre V=>∃ u v vals,TrI w B P D m O pre V u v vals)
  (fun c _ pre V=>c=.ret/\V.heap[B+1]?=some (.cells #[.slice none 0 0] 48 (0,0))/\V.heap[B+2]?=some (.cells #[.slice none 0 0] 60 (0,0))/\V.heap[B+3]?=some (.cells #[.int .i64 11] 40 (0,0))/\Ext w V/\longT pre=true) ?hI ?hIx ?h0 (fun ys t=>(((t.setIfInBounds 21 (ys.getD 0 undef)).setIfInBounds 22 (ys.getD 1 undef)).setIfInBounds 10 (ys.getD 0 undef)).setIfInBounds 11 (ys.getD 1 undef)) ?assign ?body ?done ?stop
 case hEs=>
  rintro n O x A W ys ⟨ao,c,rfl,h1,h2,h3⟩ ht hr
  exact⟨ao,c,rfl,⟨Rd.nocells ht hr h1.1,h1.2⟩,h2,h3.mono fun b hb=>⟨hb.1,hb.2.1,Nat.lt_of_lt_of_le hb.2.2 ht.size⟩⟩
 case hI=>
  rintro O O' pre A W ⟨u,v,vals,hi⟩ hO ht hO'
  rw [HD.out] at hO ht
  exact⟨u,v,vals,hi.turn HB.out hBP hPD hO ht hO'⟩
 case hIx=>
  rintro c O O' pre A W ⟨i0,i1,i2,i3,i4,i5⟩ hO ht hO'
  rw [HD.out] at hO ht
  have low:∀ b,b<D->¬ ((O b/\RunM m (D+2) b)\/b=D+1):=fun b hb hn=>by
   rcases hn with h1 | h1
   ·have:=(hO b h1.1).1;omega
   ·omega
  exact⟨i0,ht.heap i1 (low _ (by omega)),ht.heap i2 (low _ (by omega)),ht.heap i3 (low _ (by omega)),i4.after ht (fun b hb hn=>low b (by have:=HB.out;omega) hn),i5⟩
 case h0=>
  intro W hW hs
  exact⟨_,_,[],hW.keep HU3.out,hW.keep HV3.out,hW.keep HE3.out,hW.keep HP3.out,hW.keep HQ3.out,World.ownsRow_nil _ _ _ _,World.ownsRow_nil _ _ _ _,trivial,fun g hg=>(by cases hg),fun g hg=>(by cases hg),fun x hx=>(by cases hx),hE3.trans hW,rfl⟩
 case assign=>
  rintro n O x ys V Kn ⟨ao,c,rfl,_⟩ hK
  gi_wp2
  exact hK
 case done=>
  rintro O V ⟨u,v,vals,hi⟩ hO ht hDf
  rw [HD.out] at hDf
  have HE:Hid (E=0):=Lib.hid (by rw [HTR1.out,if_neg (by rw [hi.short];decide)])
  have HU:Hid (U=traceL l ws):=Lib.hid (by rw [HTT.out,if_pos HE.out])
  obtain⟨W1,hW1⟩:∃ D,V.drew=D:=⟨_,rfl⟩
  have hE1:Ext V W1:=by rw [<-hW1];exact Turn.drew (Turn.refl _ V)
  have RU1:=Lib.hid (hE1.keep hi.ru);have P1:=Lib.hid (hE1.keep hi.bu);have Q1:=Lib.hid (hE1.keep hi.bv)
  have RV2:=Lib.hid ((Turn.set1 W1 (B+1) 0 u).heap (hE1.keep hi.rv) (by omega))
  have Q2:=Lib.hid ((Turn.set1 W1 (B+1) 0 u).heap (hE1.keep hi.bv) (by omega))
  have RE3:=Lib.hid ((Turn.set1 (W1.setCell ⟨B+1,0,none⟩ u) (B+2) 0 v).heap ((Turn.set1 W1 (B+1) 0 u).heap (hE1.keep hi.re) (by omega)) (by omega))
  obtain⟨q1,q2,q3,q4⟩:=set3 (hE1.keep hi.ru) (hE1.keep hi.rv) (hE1.keep hi.re) (by omega) (by omega) (by omega) u v (.int .i64 0)
  obtain⟨W,hW⟩:∃ D,((W1.setCell ⟨B+1,0,none⟩ u).setCell ⟨B+2,0,none⟩ v).setCell ⟨B+3,0,none⟩ (.int .i64 0)=D:=⟨_,rfl⟩
  rw [hW] at q1 q2 q3 q4
  have q4:Turn (fun b=>b=B+1\/b=B+2\/b=B+3) V W:=(Ext.of hE1).trans q4
  have hout:TrOutF w.heap.size W u v (traceL l ws):=by
   refine⟨own_base (own_keep hi.ou q4 (fun g hg e=>by have:=(hi.ou.lt g hg).1;omega)) (by have:=HB.out;omega),vals,own_base (own_keep hi.ov q4 (fun g hg e=>by have:=(hi.ov.lt g hg).1;omega)) (by have:=HB.out;omega),?_,fun x hx=>(hi.wk x hx).mono fun b hb=>(by have h1:=HB.out;have h2:=hb.1;omega)⟩
   exact hi.wd.keepS (S:=fun g=>D+2+m<=g) (q4.mono fun b _ e hn=>by omega) (fun x hx=>(hi.wk x hx).mono fun b hb=>hb.1)
  have hm:Marks B ({ target:=.collected D,args:=#[] }::[]) W:=Marks.cons (base:=B) trivial (by omega) (q4.heap hDf (by omega)) (fun e he=>by cases he)
  have hEW:Ext w W:=hi.ext.after q4 (fun b hb hn=>by have:=HB.out;omega)
  have HOUT:=Lib.hid hout;have HM:=Lib.hid hm
  obtain⟨uo,uc,rfl⟩:=own_slice hi.ou
  obtain⟨wo,wc,rfl⟩:=own_slice hi.ov
  obtain⟨tn,htn⟩:∃ n,(traceL l ws).length=n:=⟨_,rfl⟩
  rw [htn] at P1 Q1 RV2 Q2 RE3 hW HOUT q1 q2
  have HW:=Lib.hid hW;have HW1:=Lib.hid hW1
  clear hout hm hi hDf ht hO HIT HU3 HV3 HE3 HP3 HQ3 hE3 hW hW1 hE1 htn
  go_upto_region 12 with (fail)
  refine wp_region_late (S:=fun _=>True) [0,1,2,3,4] (by kernel_rfl) trivial ?_
  intro _
  rw [HW1.out]
  clear HW1
  refine wpAnyE_ready (rs:=[0,1]) (by kernel_rfl) (by simp) ?_
  refine AllReadyE.late rfl rfl (fun K hK=>?_) (AllReadyE.late rfl rfl (fun K hK=>?_) AllReadyE.nil)
  ·(try rw [if_pos (show Region.wanted _ _=true from rfl)])
   have c0:=cell_of_one P1.out
   go_simp
   refine hK.out _ _ ?_
   clear hK K c0
   try simp only [Act.put,pq]
   refine wpAnyE_ready (rs:=[1,2]) (by kernel_rfl) (by simp) ?_
   refine AllReadyE.late rfl rfl (fun K hK=>?_) (AllReadyE.late rfl rfl (fun K hK=>?_) AllReadyE.nil)
   ·(try rw [if_pos (show Region.wanted _ _=true from rfl)])
    have c0:=cell_of_one Q1.out
    go_simp
    refine hK.out _ _ ?_
    clear hK K c0
    try simp only [Act.put,pq]
    refine wpAnyE_ready (rs:=[2]) (by kernel_rfl) (by simp) ?_
    refine AllReadyE.late rfl rfl (fun K hK=>?_) AllReadyE.nil
    (try rw [if_pos (show Region.wanted _ _=true from rfl)])
    have cZ:=cell_of_one RU1.out
    have fZ:=free_of_one RU1.out
    go_simp
    refine hK.out _ _ ?_
    clear hK K cZ fZ
    (try change wpAnyE _ _ _ _ _ _ _ _ (Act.put _ none _) _)
    (try simp only [Act.put])
    refine wpAnyE_ready (rs:=[3]) (by kernel_rfl) (by simp) ?_
    refine AllReadyE.late rfl rfl (fun K hK=>?_) AllReadyE.nil
    (try rw [if_pos (show Region.wanted _ _=true from rfl)])
    have cZ:=cell_of_one RV2.out
    have fZ:=free_of_one RV2.out
    go_simp
    refine hK.out _ _ ?_
    clear hK K cZ fZ
    (try change wpAnyE _ _ _ _ _ _ _ _ (Act.put _ none _) _)
    (try simp only [Act.put])
    refine wpAnyE_ready (rs:=[4]) (by kernel_rfl) (by simp) ?_
    refine AllReadyE.late rfl rfl (fun K hK=>?_) AllReadyE.nil
    (try rw [if_pos (show Region.wanted _ _=true from rfl)])
    have cZ:=cell_of_one RE3.out
    have fZ:=free_of_one RE3.out
    go_simp
    refine hK.out _ _ ?_
    clear hK K cZ fZ
    (try change wpAnyE _ _ _ _ _ _ _ _ (Act.put _ none _) _)
    (try simp only [Act.put])
    refine wpAnyE_done (by kernel_rfl) ?_ _
    rw [HW.out]
    clear RU1 P1 Q1 RV2 Q2 RE3
    go_wp2
    rw [HD.out]
    refine leavesM (v:=.tuple #[.slice uo tn uc,.slice wo tn wc,.int .i64 0]) (base:=B) _ _ HM.out fun w' ht' hs=>⟨results_three rfl rfl rfl rfl (ht'.heap q1 (Go.Ab.Shut.not q1 rfl)) (ht'.heap q2 (Go.Ab.Shut.not q2 rfl)) (ht'.heap q3 (Go.Ab.Shut.not q3 rfl)),_,_,by rw [HE.out],?_,?_⟩
    ·rw [HU.out]
     obtain⟨r1,vals',r2,r3,r4⟩:=HOUT.out
     exact⟨own_shut r1 ht',vals',own_shut r2 ht',r3.shut ht',r4⟩
    ·exact hEW.after ht' (fun b h1 h2=>by have:=h2.1;have:=HB.out;omega)
   ·(try rw [if_pos (show Region.wanted _ _=true from rfl)])
    have cZ:=cell_of_one RU1.out
    have fZ:=free_of_one RU1.out
    go_simp
    refine hK.out _ _ ?_
    clear hK K cZ fZ
    (try change wpAnyE _ _ _ _ _ _ _ _ (Act.put _ none _) _)
    (try simp only [Act.put])
    refine wpAnyE_ready (rs:=[1]) (by kernel_rfl) (by simp) ?_
    refine AllReadyE.late rfl rfl (fun K hK=>?_) AllReadyE.nil
    (try rw [if_pos (show Region.wanted _ _=true from rfl)])
    have c0:=cell_of_one Q2.out
    go_simp
    refine hK.out _ _ ?_
    clear hK K c0
    try simp only [Act.put,pq]
    refine wpAnyE_ready (rs:=[3]) (by kernel_rfl) (by simp) ?_
    refine AllReadyE.late rfl rfl (fun K hK=>?_) AllReadyE.nil
    (try rw [if_pos (show Region.wanted _ _=true from rfl)])
    have cZ:=cell_of_one RV2.out
    have fZ:=free_of_one RV2.out
    go_simp
    refine hK.out _ _ ?_
    clear hK K cZ fZ
    (try change wpAnyE _ _ _ _ _ _ _ _ (Act.put _ none _) _)
    (try simp only [Act.put])
    refine wpAnyE_ready (rs:=[4]) (by kernel_rfl) (by simp) ?_
    refine AllReadyE.late rfl rfl (fun K hK=>?_) AllReadyE.nil
    (try rw [if_pos (show Region.wanted _ _=true from rfl)])
    have cZ:=cell_of_one RE3.out
    have fZ:=free_of_one RE3.out
    go_simp
    refine hK.out _ _ ?_
    clear hK K cZ fZ
    (try change wpAnyE _ _ _ _ _ _ _ _ (Act.put _ none _) _)
    (try simp only [Act.put])
    refine wpAnyE_done (by kernel_rfl) ?_ _
    rw [HW.out]
    clear RU1 P1 Q1 RV2 Q2 RE3
    go_wp2
    rw [HD.out]
    refine leavesM (v:=.tuple #[.slice uo tn uc,.slice wo tn wc,.int .i64 0]) (base:=B) _ _ HM.out fun w' ht' hs=>⟨results_three rfl rfl rfl rfl (ht'.heap q1 (Go.Ab.Shut.not q1 rfl)) (ht'.heap q2 (Go.Ab.Shut.not q2 rfl)) (ht'.heap q3 (Go.Ab.Shut.not q3 rfl)),_,_,by rw [HE.out],?_,?_⟩
    ·rw [HU.out]
     obtain⟨r1,vals',r2,r3,r4⟩:=HOUT.out
     exact⟨own_shut r1 ht',vals',own_shut r2 ht',r3.shut ht',r4⟩
    ·exact hEW.after ht' (fun b h1 h2=>by have:=h2.1;have:=HB.out;omega)
  ·(try rw [if_pos (show Region.wanted _ _=true from rfl)])
   have c0:=cell_of_one Q1.out
   go_simp
   refine hK.out _ _ ?_
   clear hK K c0
   try simp only [Act.put,pq]
   refine wpAnyE_ready (rs:=[0]) (by kernel_rfl) (by simp) ?_
   refine AllReadyE.late rfl rfl (fun K hK=>?_) AllReadyE.nil
   (try rw [if_pos (show Region.wanted _ _=true from rfl)])
   have c0:=cell_of_one P1.out
   go_simp
   refine hK.out _ _ ?_
   clear hK K c0
   try simp only [Act.put,pq]
   refine wpAnyE_ready (rs:=[2]) (by kernel_rfl) (by simp) ?_
   refine AllReadyE.late rfl rfl (fun K hK=>?_) AllReadyE.nil
   (try rw [if_pos (show Region.wanted _ _=true from rfl)])
   have cZ:=cell_of_one RU1.out
   have fZ:=free_of_one RU1.out
   go_simp
   refine hK.out _ _ ?_
   clear hK K cZ fZ
   (try change wpAnyE _ _ _ _ _ _ _ _ (Act.put _ none _) _)
   (try simp only [Act.put])
   refine wpAnyE_ready (rs:=[3]) (by kernel_rfl) (by simp) ?_
   refine AllReadyE.late rfl rfl (fun K hK=>?_) AllReadyE.nil
   (try rw [if_pos (show Region.wanted _ _=true from rfl)])
   have cZ:=cell_of_one RV2.out
   have fZ:=free_of_one RV2.out
   go_simp
   refine hK.out _ _ ?_
   clear hK K cZ fZ
   (try change wpAnyE _ _ _ _ _ _ _ _ (Act.put _ none _) _)
   (try simp only [Act.put])
   refine wpAnyE_ready (rs:=[4]) (by kernel_rfl) (by simp) ?_
   refine AllReadyE.late rfl rfl (fun K hK=>?_) AllReadyE.nil
   (try rw [if_pos (show Region.wanted _ _=true from rfl)])
   have cZ:=cell_of_one RE3.out
   have fZ:=free_of_one RE3.out
   go_simp
   refine hK.out _ _ ?_
   clear hK K cZ fZ
   (try change wpAnyE _ _ _ _ _ _ _ _ (Act.put _ none _) _)
   (try simp only [Act.put])
   refine wpAnyE_done (by kernel_rfl) ?_ _
   rw [HW.out]
   clear RU1 P1 Q1 RV2 Q2 RE3
   go_wp2
   rw [HD.out]
   refine leavesM (v:=.tuple #[.slice uo tn uc,.slice wo tn wc,.int .i64 0]) (base:=B) _ _ HM.out fun w' ht' hs=>⟨results_three rfl rfl rfl rfl (ht'.heap q1 (Go.Ab.Shut.not q1 rfl)) (ht'.heap q2 (Go.Ab.Shut.not q2 rfl)) (ht'.heap q3 (Go.Ab.Shut.not q3 rfl)),_,_,by rw [HE.out],?_,?_⟩
   ·rw [HU.out]
    obtain⟨r1,vals',r2,r3,r4⟩:=HOUT.out
    exact⟨own_shut r1 ht',vals',own_shut r2 ht',r3.shut ht',r4⟩
   ·exact hEW.after ht' (fun b h1 h2=>by have:=h2.1;have:=HB.out;omega)
 case stop=>
  rintro c O pre x rest V hx ⟨rfl,i1,i2,i3,i4,i5⟩ hDf
  rw [HD.out] at hDf ⊢
  have hlong:longT (traceL l ws)=true:=by
   rw [hx]
   unfold longT at i5 ⊢
   rw [show pre++x::rest=(pre++[x])++rest by simp,List.any_append,i5];rfl
  have HE:Hid (E=11):=Lib.hid (by rw [HTR1.out,if_pos hlong])
  have HU:Hid (U=[]):=Lib.hid (by rw [HTT.out,if_neg (by rw [HE.out];decide)])
  refine wp_ret ?_
  have hm:Marks B ({ target:=.collected D,args:=#[] }::[]) V:=Marks.cons (base:=B) trivial (by omega) hDf (fun e he=>by cases he)
  refine leavesM (v:=.tuple #[.slice none 0 0,.slice none 0 0,.int .i64 11]) (base:=B) _ _ hm fun w' ht' hs=>⟨results_three rfl rfl rfl rfl (ht'.heap i1 (Go.Ab.Shut.not i1 rfl)) (ht'.heap i2 (Go.Ab.Shut.not i2 rfl)) (ht'.heap i3 (Go.Ab.Shut.not i3 rfl)),_,_,by rw [HE.out],by rw [HU.out];exact TrOutF.nil _ _,?_⟩
  exact i4.after ht' (fun b h1 h2=>by have:=h2.1;have:=HB.out;omega)
 case body=>
  rintro O pre ⟨pl,xw⟩ rest ys V hx hsz hO ht ⟨u,v,vals,hi⟩ ⟨xo,xc,rfl,hxw,hxc,hxk⟩
  rw [HD.out] at hsz hO hxk ⊢
  simp only [pq]
  dsimp only at hxw hxc hxk ⊢
  have hpl:pre.length<=32:=by
   have:=congrArg List.length hx
   rw [List.length_append,List.length_cons] at this
   omega
  obtain⟨xn,hxn⟩:∃ n,xw.length=n:=⟨_,rfl⟩
  have HXN:=Lib.hid hxn
  have hxm:=hxw.1.2.1
  unfold maxLen at hxm
  rw [hxn] at hxm
  have HXW:=Lib.hid hxw;have HXK:=Lib.hid hxk;have HI:=Lib.hid hi;have HO:=Lib.hid hO;have HX:=Lib.hid hx
  rw [hxn]
  have hxc':=hxc
  rw [hxn] at hxc'
  clear hxn hxw hxk hi hO hx ht HIT HU3 HV3 HE3 HP3 HQ3
  by_cases h32:xn<=32
  case neg=>
   have h33:(32:Int)<(xn:Int):=by omega
   have hset:=set3 HI.out.ru HI.out.rv HI.out.re (by omega) (by omega) (by omega) (.slice none 0 0) (.slice none 0 0) (.int .i64 11)
   have HSET:=Lib.hid hset
   have cu:=cell_of_one HI.out.ru;have fu:=free_of_one HI.out.ru
   have cv:=cell_of_one HI.out.rv;have fv:=free_of_one HI.out.rv
   have ce:=cell_of_one HI.out.re;have fe:=free_of_one HI.out.re
   clear hset
   gi_wp2
   obtain⟨q1,q2,q3,q4⟩:=HSET.out
   refine⟨q4.mono fun b _ e hn=>?_,rfl,q1,q2,q3,HI.out.ext.after q4 (fun b hb hn=>by have:=HB.out;omega),?_⟩
   ·rcases hn with hn | hn | hn | hn
    ·omega
    ·have:=(HO.out b hn).1;omega
    ·omega
    ·omega
   ·unfold longT
    rw [List.any_append]
    simp [HXN.out];omega
  have h33:¬ (32:Int)<(xn:Int):=by omega
  have h32:xw.length<=32:=by rw [HXN.out];exact h32
  gi_wp2
  obtain⟨n,hn⟩:∃ n,pre.length=n:=⟨_,rfl⟩
  have HN:=Lib.hid hn
  have hou:=HI.out.ou
  have hov:=HI.out.ov
  rw [hn] at hou hov hpl
  have hdisj:=own_ne hou hov (by decide)
  have HUV:=Lib.hid hdisj;have HOUN:=Lib.hid hou;have HOVN:=Lib.hid hov
  have hnp:∀ q,(q=P\/q=P+1)->¬ (u.ownBlock=some q\/v.ownBlock=some q):=fun q hq e=>by
   rcases e with e | e
   ·have:=(HI.out.ou.lt _ e).1;omega
   ·have:=(HI.out.ov.lt _ e).1;omega
  have HNP:=Lib.hid hnp
  have hcs:∀(W:World),Turn (fun b=>u.ownBlock=some b\/v.ownBlock=some b) V W->W.cell? ⟨P,0,none⟩=some u/\W.cell? ⟨P+1,0,none⟩=some v:=fun W hW=>⟨cell_of_one (hW.heap HI.out.bu (HNP.out _ (.inl rfl))),cell_of_one (hW.heap HI.out.bv (HNP.out _ (.inr rfl)))⟩
  have HS:=Lib.hid hcs
  clear hn hou hov hdisj hnp hcs
  refine wpIn_region_late (S:=fun W=>W.cell? ⟨P,0,none⟩=some u/\W.cell? ⟨P+1,0,none⟩=some v) [8,9] (by kernel_rfl) (by kernel_rfl) (by rintro⟨_,_,h⟩;exact h) (HS.out _ (Turn.drew (Turn.refl _ V))) ?_
  intro hS0
  obtain⟨W1,hW1⟩:∃ D,V.drew=D:=⟨_,rfl⟩
  have hE1:Ext V W1:=by rw [<-hW1];exact Turn.drew (Turn.refl _ V)
  have hz1:=hE1.size
  rw [hW1] at hS0 ⊢
  clear hW1
  refine tkE (i:=0) (d:=26) (v:=?_) rfl (Or.inl ⟨by rfl,?_⟩) hS0 ?_
  rotate_left
  ·intro w hSw;(try dsimp only at hSw);go_simp;try with_reducible rfl
  try simp only [Act.put,pq]
  refine tkE (i:=1) (d:=27) (v:=?_) rfl (Or.inl ⟨by rfl,?_⟩) hS0 ?_
  rotate_left
  ·intro w hSw;(try dsimp only at hSw);go_simp;try with_reducible rfl
  try simp only [Act.put,pq]
  refine tkE (i:=4) (d:=30) (v:=?_) rfl (Or.inl ⟨by rfl,?_⟩) hS0 ?_
  rotate_left
  ·intro w hSw;(try dsimp only at hSw);go_simp;try with_reducible rfl
  try simp only [Act.put,pq]
  refine tkE (i:=5) (d:=31) (v:=?_) rfl (Or.inl ⟨by rfl,?_⟩) hS0 ?_
  rotate_left
  ·intro w hSw;(try dsimp only at hSw);go_simp;try with_reducible rfl
  try simp only [Act.put,pq]
  refine wpAnyE_ready (rs:=[2,6]) (by kernel_rfl) (by simp) ?_
  refine AllReadyE.cons rfl (fun K hK=>?_) (AllReadyE.cons rfl (fun K hK=>?_) AllReadyE.nil)
  ·(try rw [if_pos (show Region.wanted _ _=true from rfl)])
   go_simp
   obtain⟨W2,hW2⟩:∃ D,W1.alloc (.cells #[.int .i64 (pl:Int)] 3)=D:=⟨_,rfl⟩
   have eW2:Ext W1 W2:=by rw [<-hW2];exact(Turn.refl _ _).alloc _
   have nW2:W2.heap[W1.heap.size]?=some (.cells #[.int .i64 (pl:Int)] 3 (0,0)):=by rw [<-hW2];exact new_at rfl
   obtain⟨G1,hG1⟩:∃ D,W1.heap.size=D:=⟨_,rfl⟩
   rw [hW2,hG1]
   rw [hG1] at nW2
   have zW2:=eW2.size
   clear hW2
   refine hK.out _ _ (HS.out _ (Ext.of (hE1.trans eW2))) (fun _=>?_)
   clear hK K
   try simp only [Act.put,pq]
   refine wpAnyE_ready (rs:=[3,6]) (by kernel_rfl) (by simp) ?_
   refine AllReadyE.cons rfl (fun K hK=>?_) (AllReadyE.cons rfl (fun K hK=>?_) AllReadyE.nil)
   ·(try rw [if_pos (show Region.wanted _ _=true from rfl)])
    refine append_oper (.tmp 26) (.tmp 28) 48 rfl (D+2) 3 _ 1 8 Tryz.underlying48 Tryz.infoI rfl (by decide) _ _ _ rfl (own_ext HOUN.out (hE1.trans eW2)) ⟨G1,0,none⟩ 1 1 [.int .i64 (pl:Int)] rfl rfl (cells_news nW2) ?c2 ?c3 ?c4 ?c5 ?_
    case c2=>first | rfl | (intro u hu;simp at hu;rcases hu with rfl;rfl)
    case c3=>unfold maxLen;omega
    case c4=>omega
    case c5=>omega
    intro ao1 c1 W3 hU1 hT1 hB1
    have t3:Turn (fun b=>u.ownBlock=some b\/v.ownBlock=some b) V W3:=(Ext.of (hE1.trans eW2)).trans (hT1.mono fun b _ e=>.inl e)
    have z3:=t3.size
    refine hK.out _ _ (HS.out _ (t3)) (fun _=>?_)
    clear hK K
    try simp only [Act.put,pq]
    have hv3:=own_keep HOVN.out (((Ext.of (hE1.trans eW2)).trans hT1):Turn (fun b=>u.ownBlock=some b) V W3) (fun g hg e=>HUV.out g e hg)
    refine wpAnyE_ready (rs:=[6]) (by kernel_rfl) (by simp) ?_
    refine AllReadyE.cons rfl (fun K hK=>?_) AllReadyE.nil
    (try rw [if_pos (show Region.wanted _ _=true from rfl)])
    go_simp
    obtain⟨W4,hW4⟩:∃ D,W3.alloc (.cells #[.slice xo xn xc] 99)=D:=⟨_,rfl⟩
    have eW4:Ext W3 W4:=by rw [<-hW4];exact(Turn.refl _ _).alloc _
    have nW4:W4.heap[W3.heap.size]?=some (.cells #[.slice xo xn xc] 99 (0,0)):=by rw [<-hW4];exact new_at rfl
    obtain⟨G2,hG2⟩:∃ D,W3.heap.size=D:=⟨_,rfl⟩
    rw [hW4,hG2]
    rw [hG2] at nW4
    have zW4:=eW4.size
    clear hW4
    refine hK.out _ _ (HS.out _ (t3.trans (Ext.of eW4))) (fun _=>?_)
    clear hK K
    try simp only [Act.put,pq]
    refine wpAnyE_ready (rs:=[7]) (by kernel_rfl) (by simp) ?_
    refine AllReadyE.cons rfl (fun K hK=>?_) AllReadyE.nil
    (try rw [if_pos (show Region.wanted _ _=true from rfl)])
    refine append_oper (.tmp 30) (.tmp 32) 60 rfl (D+2) 99 _ 1 24 Tryz.underlying60 Tryz.infoW rfl (by decide) _ _ _ rfl (own_ext hv3 eW4) ⟨G2,0,none⟩ 1 1 [.slice xo xn xc] rfl rfl (cells_news nW4) ?d2 ?d3 ?d4 ?d5 ?_
    case d2=>first | rfl | (intro u hu;simp at hu;rcases hu with rfl;rfl)
    case d3=>unfold maxLen;omega
    case d4=>omega
    case d5=>omega
    intro ao2 c2 W5 hU2 hT2 hB2
    have t5:Turn (fun b=>u.ownBlock=some b\/v.ownBlock=some b) V W5:=(t3.trans (Ext.of eW4)).trans (hT2.mono fun b _ e=>.inr e)
    refine hK.out _ _ (HS.out _ (t5)) (fun _=>?_)
    clear hK K
    try simp only [Act.put]
    have hUF:=own_keep (own_ext hU1 eW4) hT2 (fun g hg e=>own_ne (own_ext hU1 eW4) (own_ext hv3 eW4) (by decide) g hg e)
    have hVF:=hU2
    have hbu:(Value.slice ao1 (n+1) c1).ownBlock=u.ownBlock\/∃ k,V.heap.size<=k/\(Value.slice ao1 (n+1) c1).ownBlock=some k:=hB1.imp id fun e=>⟨_,by omega,e⟩
    have hbv:(Value.slice ao2 (n+1) c2).ownBlock=v.ownBlock\/∃ k,V.heap.size<=k/\(Value.slice ao2 (n+1) c2).ownBlock=some k:=hB2.imp id fun e=>⟨_,by omega,e⟩
    have hTV:Turn (fun b=>u.ownBlock=some b\/v.ownBlock=some b) V W5:=t5
    obtain⟨⟨ufin,vfin,valsfin,hFIN⟩,hKV⟩:=HI.out.push HB.out hBP hPD HO.out (by omega) HXW.out hxc HXK.out h32 (x:=(pl,xw)) (W:=W5) (u':=.slice ao1 (n+1) c1) (v':=.slice ao2 (n+1) c2) (by rw [HN.out];exact hUF) (by rw [HN.out,HXN.out];exact hVF) hTV hbu hbv
    have HFIN:=Lib.hid hFIN;have HKV:=Lib.hid hKV
    have cP:=cell_of_one (hTV.heap HI.out.bu (HNP.out P (.inl rfl)))
    have fP:=free_of_one (hTV.heap HI.out.bu (HNP.out P (.inl rfl)))
    have hQ1:(W5.setCell ⟨P,0,none⟩ (.slice ao1 (n+1) c1)).heap[P+1]?=some (.cells #[v] 60 (0,0)):=(Turn.set1 _ P 0 _).heap (hTV.heap HI.out.bv (HNP.out _ (.inr rfl))) (by omega)
    have HQ1:=Lib.hid hQ1
    clear hFIN hKV hTV hUF hVF hbu hbv hQ1
    refine wpAnyE_ready (rs:=[8]) (by kernel_rfl) (by simp) ?_
    refine AllReadyE.late rfl rfl (fun K hK=>?_) AllReadyE.nil
    (try rw [if_pos (show Region.wanted _ _=true from rfl)])
    go_simp
    refine hK.out _ _ ?_
    clear hK K
    (try change wpAnyE _ _ _ _ _ _ _ _ (Act.put _ none _) _)
    (try simp only [Act.put])
    have cQ:=cell_of_one HQ1.out
    have fQ:=free_of_one HQ1.out
    refine wpAnyE_ready (rs:=[9]) (by kernel_rfl) (by simp) ?_
    refine AllReadyE.late rfl rfl (fun K hK=>?_) AllReadyE.nil
    (try rw [if_pos (show Region.wanted _ _=true from rfl)])
    go_simp
    refine hK.out _ _ ?_
    clear hK K
    (try change wpAnyE _ _ _ _ _ _ _ _ (Act.put _ none _) _)
    (try simp only [Act.put])
    refine wpAnyE_done (by kernel_rfl) ?_ _
    exact⟨HKV.out,ufin,vfin,valsfin,HFIN.out⟩
   ·(try rw [if_pos (show Region.wanted _ _=true from rfl)])
    go_simp
    obtain⟨W3,hW3⟩:∃ D,W2.alloc (.cells #[.slice xo xn xc] 99)=D:=⟨_,rfl⟩
    have eW3:Ext W2 W3:=by rw [<-hW3];exact(Turn.refl _ _).alloc _
    have nW3:W3.heap[W2.heap.size]?=some (.cells #[.slice xo xn xc] 99 (0,0)):=by rw [<-hW3];exact new_at rfl
    obtain⟨G2,hG2⟩:∃ D,W2.heap.size=D:=⟨_,rfl⟩
    rw [hW3,hG2]
    rw [hG2] at nW3
    have zW3:=eW3.size
    clear hW3
    refine hK.out _ _ (HS.out _ (Ext.of ((hE1.trans eW2).trans eW3))) (fun _=>?_)
    clear hK K
    try simp only [Act.put,pq]
    refine wpAnyE_ready (rs:=[3]) (by kernel_rfl) (by simp) ?_
    refine AllReadyE.cons rfl (fun K hK=>?_) AllReadyE.nil
    (try rw [if_pos (show Region.wanted _ _=true from rfl)])
    refine append_oper (.tmp 26) (.tmp 28) 48 rfl (D+2) 3 _ 1 8 Tryz.underlying48 Tryz.infoI rfl (by decide) _ _ _ rfl (own_ext HOUN.out ((hE1.trans eW2).trans eW3)) ⟨G1,0,none⟩ 1 1 [.int .i64 (pl:Int)] rfl rfl (cells_news (eW3.keep nW2)) ?c2 ?c3 ?c4 ?c5 ?_
    case c2=>first | rfl | (intro u hu;simp at hu;rcases hu with rfl;rfl)
    case c3=>unfold maxLen;omega
    case c4=>omega
    case c5=>omega
    intro ao1 c1 W4 hU1 hT1 hB1
    have t4:Turn (fun b=>u.ownBlock=some b\/v.ownBlock=some b) V W4:=(Ext.of ((hE1.trans eW2).trans eW3)).trans (hT1.mono fun b _ e=>.inl e)
    have z4:=t4.size
    have k4:=hT1.heap nW3 (fun e=>by have:=(HI.out.ou.lt _ e).2;omega)
    refine hK.out _ _ (HS.out _ (t4)) (fun _=>?_)
    clear hK K
    try simp only [Act.put,pq]
    have hv4:=own_keep HOVN.out (((Ext.of ((hE1.trans eW2).trans eW3)).trans hT1):Turn (fun b=>u.ownBlock=some b) V W4) (fun g hg e=>HUV.out g e hg)
    refine wpAnyE_ready (rs:=[7]) (by kernel_rfl) (by simp) ?_
    refine AllReadyE.cons rfl (fun K hK=>?_) AllReadyE.nil
    (try rw [if_pos (show Region.wanted _ _=true from rfl)])
    refine append_oper (.tmp 30) (.tmp 32) 60 rfl (D+2) 99 _ 1 24 Tryz.underlying60 Tryz.infoW rfl (by decide) _ _ _ rfl hv4 ⟨G2,0,none⟩ 1 1 [.slice xo xn xc] rfl rfl (cells_news k4) ?d2 ?d3 ?d4 ?d5 ?_
    case d2=>first | rfl | (intro u hu;simp at hu;rcases hu with rfl;rfl)
    case d3=>unfold maxLen;omega
    case d4=>omega
    case d5=>omega
    intro ao2 c2 W5 hU2 hT2 hB2
    have t5:Turn (fun b=>u.ownBlock=some b\/v.ownBlock=some b) V W5:=t4.trans (hT2.mono fun b _ e=>.inr e)
    refine hK.out _ _ (HS.out _ (t5)) (fun _=>?_)
    clear hK K
    try simp only [Act.put]
    have hUF:=own_keep hU1 hT2 (fun g hg e=>own_ne hU1 hv4 (by decide) g hg e)
    have hVF:=hU2
    have hbu:(Value.slice ao1 (n+1) c1).ownBlock=u.ownBlock\/∃ k,V.heap.size<=k/\(Value.slice ao1 (n+1) c1).ownBlock=some k:=hB1.imp id fun e=>⟨_,by omega,e⟩
    have hbv:(Value.slice ao2 (n+1) c2).ownBlock=v.ownBlock\/∃ k,V.heap.size<=k/\(Value.slice ao2 (n+1) c2).ownBlock=some k:=hB2.imp id fun e=>⟨_,by omega,e⟩
    have hTV:Turn (fun b=>u.ownBlock=some b\/v.ownBlock=some b) V W5:=t5
    obtain⟨⟨ufin,vfin,valsfin,hFIN⟩,hKV⟩:=HI.out.push HB.out hBP hPD HO.out (by omega) HXW.out hxc HXK.out h32 (x:=(pl,xw)) (W:=W5) (u':=.slice ao1 (n+1) c1) (v':=.slice ao2 (n+1) c2) (by rw [HN.out];exact hUF) (by rw [HN.out,HXN.out];exact hVF) hTV hbu hbv
    have HFIN:=Lib.hid hFIN;have HKV:=Lib.hid hKV
    have cP:=cell_of_one (hTV.heap HI.out.bu (HNP.out P (.inl rfl)))
    have fP:=free_of_one (hTV.heap HI.out.bu (HNP.out P (.inl rfl)))
    have hQ1:(W5.setCell ⟨P,0,none⟩ (.slice ao1 (n+1) c1)).heap[P+1]?=some (.cells #[v] 60 (0,0)):=(Turn.set1 _ P 0 _).heap (hTV.heap HI.out.bv (HNP.out _ (.inr rfl))) (by omega)
    have HQ1:=Lib.hid hQ1
    clear hFIN hKV hTV hUF hVF hbu hbv hQ1
    refine wpAnyE_ready (rs:=[8]) (by kernel_rfl) (by simp) ?_
    refine AllReadyE.late rfl rfl (fun K hK=>?_) AllReadyE.nil
    (try rw [if_pos (show Region.wanted _ _=true from rfl)])
    go_simp
    refine hK.out _ _ ?_
    clear hK K
    (try change wpAnyE _ _ _ _ _ _ _ _ (Act.put _ none _) _)
    (try simp only [Act.put])
    have cQ:=cell_of_one HQ1.out
    have fQ:=free_of_one HQ1.out
    refine wpAnyE_ready (rs:=[9]) (by kernel_rfl) (by simp) ?_
    refine AllReadyE.late rfl rfl (fun K hK=>?_) AllReadyE.nil
    (try rw [if_pos (show Region.wanted _ _=true from rfl)])
    go_simp
    refine hK.out _ _ ?_
    clear hK K
    (try change wpAnyE _ _ _ _ _ _ _ _ (Act.put _ none _) _)
    (try simp only [Act.put])
    refine wpAnyE_done (by kernel_rfl) ?_ _
    exact⟨HKV.out,ufin,vfin,valsfin,HFIN.out⟩
  ·(try rw [if_pos (show Region.wanted _ _=true from rfl)])
   go_simp
   obtain⟨W2,hW2⟩:∃ D,W1.alloc (.cells #[.slice xo xn xc] 99)=D:=⟨_,rfl⟩
   have eW2:Ext W1 W2:=by rw [<-hW2];exact(Turn.refl _ _).alloc _
   have nW2:W2.heap[W1.heap.size]?=some (.cells #[.slice xo xn xc] 99 (0,0)):=by rw [<-hW2];exact new_at rfl
   obtain⟨G2,hG2⟩:∃ D,W1.heap.size=D:=⟨_,rfl⟩
   rw [hW2,hG2]
   rw [hG2] at nW2
   have zW2:=eW2.size
   clear hW2
   refine hK.out _ _ (HS.out _ (Ext.of (hE1.trans eW2))) (fun _=>?_)
   clear hK K
   try simp only [Act.put,pq]
   refine wpAnyE_ready (rs:=[2]) (by kernel_rfl) (by simp) ?_
   refine AllReadyE.cons rfl (fun K hK=>?_) AllReadyE.nil
   (try rw [if_pos (show Region.wanted _ _=true from rfl)])
   go_simp
   obtain⟨W3,hW3⟩:∃ D,W2.alloc (.cells #[.int .i64 (pl:Int)] 3)=D:=⟨_,rfl⟩
   have eW3:Ext W2 W3:=by rw [<-hW3];exact(Turn.refl _ _).alloc _
   have nW3:W3.heap[W2.heap.size]?=some (.cells #[.int .i64 (pl:Int)] 3 (0,0)):=by rw [<-hW3];exact new_at rfl
   obtain⟨G1,hG1⟩:∃ D,W2.heap.size=D:=⟨_,rfl⟩
   rw [hW3,hG1]
   rw [hG1] at nW3
   have zW3:=eW3.size
   clear hW3
   refine hK.out _ _ (HS.out _ (Ext.of ((hE1.trans eW2).trans eW3))) (fun _=>?_)
   clear hK K
   try simp only [Act.put,pq]
   refine wpAnyE_ready (rs:=[3]) (by kernel_rfl) (by simp) ?_
   refine AllReadyE.cons rfl (fun K hK=>?_) AllReadyE.nil
   (try rw [if_pos (show Region.wanted _ _=true from rfl)])
   refine append_oper (.tmp 26) (.tmp 28) 48 rfl (D+2) 3 _ 1 8 Tryz.underlying48 Tryz.infoI rfl (by decide) _ _ _ rfl (own_ext HOUN.out ((hE1.trans eW2).trans eW3)) ⟨G1,0,none⟩ 1 1 [.int .i64 (pl:Int)] rfl rfl (cells_news nW3) ?c2 ?c3 ?c4 ?c5 ?_
   case c2=>first | rfl | (intro u hu;simp at hu;rcases hu with rfl;rfl)
   case c3=>unfold maxLen;omega
   case c4=>omega
   case c5=>omega
   intro ao1 c1 W4 hU1 hT1 hB1
   have t4:Turn (fun b=>u.ownBlock=some b\/v.ownBlock=some b) V W4:=(Ext.of ((hE1.trans eW2).trans eW3)).trans (hT1.mono fun b _ e=>.inl e)
   have z4:=t4.size
   have k4:=hT1.heap (eW3.keep nW2) (fun e=>by have:=(HI.out.ou.lt _ e).2;omega)
   refine hK.out _ _ (HS.out _ (t4)) (fun _=>?_)
   clear hK K
   try simp only [Act.put,pq]
   have hv4:=own_keep HOVN.out (((Ext.of ((hE1.trans eW2).trans eW3)).trans hT1):Turn (fun b=>u.ownBlock=some b) V W4) (fun g hg e=>HUV.out g e hg)
   refine wpAnyE_ready (rs:=[7]) (by kernel_rfl) (by simp) ?_
   refine AllReadyE.cons rfl (fun K hK=>?_) AllReadyE.nil
   (try rw [if_pos (show Region.wanted _ _=true from rfl)])
   refine append_oper (.tmp 30) (.tmp 32) 60 rfl (D+2) 99 _ 1 24 Tryz.underlying60 Tryz.infoW rfl (by decide) _ _ _ rfl hv4 ⟨G2,0,none⟩ 1 1 [.slice xo xn xc] rfl rfl (cells_news k4) ?d2 ?d3 ?d4 ?d5 ?_
   case d2=>first | rfl | (intro u hu;simp at hu;rcases hu with rfl;rfl)
   case d3=>unfold maxLen;omega
   case d4=>omega
   case d5=>omega
   intro ao2 c2 W5 hU2 hT2 hB2
   have t5:Turn (fun b=>u.ownBlock=some b\/v.ownBlock=some b) V W5:=t4.trans (hT2.mono fun b _ e=>.inr e)
   refine hK.out _ _ (HS.out _ (t5)) (fun _=>?_)
   clear hK K
   try simp only [Act.put]
   have hUF:=own_keep hU1 hT2 (fun g hg e=>own_ne hU1 hv4 (by decide) g hg e)
   have hVF:=hU2
   have hbu:(Value.slice ao1 (n+1) c1).ownBlock=u.ownBlock\/∃ k,V.heap.size<=k/\(Value.slice ao1 (n+1) c1).ownBlock=some k:=hB1.imp id fun e=>⟨_,by omega,e⟩
   have hbv:(Value.slice ao2 (n+1) c2).ownBlock=v.ownBlock\/∃ k,V.heap.size<=k/\(Value.slice ao2 (n+1) c2).ownBlock=some k:=hB2.imp id fun e=>⟨_,by omega,e⟩
   have hTV:Turn (fun b=>u.ownBlock=some b\/v.ownBlock=some b) V W5:=t5
   obtain⟨⟨ufin,vfin,valsfin,hFIN⟩,hKV⟩:=HI.out.push HB.out hBP hPD HO.out (by omega) HXW.out hxc HXK.out h32 (x:=(pl,xw)) (W:=W5) (u':=.slice ao1 (n+1) c1) (v':=.slice ao2 (n+1) c2) (by rw [HN.out];exact hUF) (by rw [HN.out,HXN.out];exact hVF) hTV hbu hbv
   have HFIN:=Lib.hid hFIN;have HKV:=Lib.hid hKV
   have cP:=cell_of_one (hTV.heap HI.out.bu (HNP.out P (.inl rfl)))
   have fP:=free_of_one (hTV.heap HI.out.bu (HNP.out P (.inl rfl)))
   have hQ1:(W5.setCell ⟨P,0,none⟩ (.slice ao1 (n+1) c1)).heap[P+1]?=some (.cells #[v] 60 (0,0)):=(Turn.set1 _ P 0 _).heap (hTV.heap HI.out.bv (HNP.out _ (.inr rfl))) (by omega)
   have HQ1:=Lib.hid hQ1
   clear hFIN hKV hTV hUF hVF hbu hbv hQ1
   refine wpAnyE_ready (rs:=[8]) (by kernel_rfl) (by simp) ?_
   refine AllReadyE.late rfl rfl (fun K hK=>?_) AllReadyE.nil
   (try rw [if_pos (show Region.wanted _ _=true from rfl)])
   go_simp
   refine hK.out _ _ ?_
   clear hK K
   (try change wpAnyE _ _ _ _ _ _ _ _ (Act.put _ none _) _)
   (try simp only [Act.put])
   have cQ:=cell_of_one HQ1.out
   have fQ:=free_of_one HQ1.out
   refine wpAnyE_ready (rs:=[9]) (by kernel_rfl) (by simp) ?_
   refine AllReadyE.late rfl rfl (fun K hK=>?_) AllReadyE.nil
   (try rw [if_pos (show Region.wanted _ _=true from rfl)])
   go_simp
   refine hK.out _ _ ?_
   clear hK K
   (try change wpAnyE _ _ _ _ _ _ _ _ (Act.put _ none _) _)
   (try simp only [Act.put])
   refine wpAnyE_done (by kernel_rfl) ?_ _
   exact⟨HKV.out,ufin,vfin,valsfin,HFIN.out⟩
end Go.Proofs.YtfdlhlghcbeblaaGreatDoor
set_option maxRecDepth 100000
set_option maxHeartbeats 8000000
namespace Go.Proofs.YtfdlhlghcbeblaaGreatDoor
open Go.RowKit Go.Ab
attribute [local go_sem] Oper.semAt_some wide_fn wide_depth
theorem clone_snd{w:World}{v:Value}{ws:Wd}(hv:WordAt w v ws)(hn:ws.length<=1000000) :
  Calls Tryz.prog 81 #[v] w fun e w'=>∃ ao cap,e=.returned (.slice ao ws.length cap)/\w'.ownsRow w.heap.size 95 2 (.slice ao ws.length cap) ws.length (sndL ws)/\Ext w w':=by
 have hrd:=hv.1
 obtain⟨g1,g2,ao,cap,rfl,g3⟩:=hrd
 have HV:=Lib.hid hv
 obtain⟨n,hN⟩:∃ n,ws.length=n:=⟨_,rfl⟩
 rw [hN] at g2 g3 hn ⊢
 have HN:=Lib.hid hN
 clear hv hN g1
 unfold maxLen at g2
 cases ao with
 | none=>
  have hn0:n=0:=by
   apply Nat.eq_zero_of_not_pos
   intro h
   obtain⟨g,off,h1,_⟩:=g3 h
   cases h1
  subst hn0
  have hw:ws=[]:=List.eq_nil_of_length_eq_zero HN.out
  subst hw
  clear g3
  have hq:=fun(w:World)=>Lib.run_eql_slice_nil (P:=Tryz.prog) w 99 95 none 0 cap 0 0 Tryz.underlying99
  go_enter Tryz.func81,Tryz.ntmps81
  go_wp2
  go_ret
  exact⟨none,0,rfl,World.ownsRow_nil _ _ _ _,Turn.refl _ _⟩
 | some a=>
  clear g3
  have hq:=fun(w:World)=>Lib.run_eql_slice_nil (P:=Tryz.prog) w 99 95 (some a) n cap 0 0 Tryz.underlying99
  go_enter Tryz.func81,Tryz.ntmps81
  have hA:Ext w (w.alloc (.cells #[] 95)):=(Turn.refl _ w).alloc _
  have hO:=World.ownsRow_made (base:=w.heap.size) (e:=95) (size:=2) w #[] 0 (Nat.le_refl _) (by decide) rfl
  have hrd:=(HV.out.ext hA).1
  rw [HN.out] at hrd
  have HO:=Lib.hid hO;have HRD:=Lib.hid hrd;have HA:=Lib.hid hA
  clear hO hrd hA
  go_wp2_with (at_builtin;refine append_rd rfl (.tmp 5) (.tmp 6) 99 rfl w.heap.size 95 _ 2 8 Tryz.underlying99 @infoS rfl (by decide) _ 0 [] rfl HO.out _ _ _ _ rfl HRD.out (one_sndL ws) ?c3 ?c4 ?c5 ?_)
  case c3=>unfold maxLen;omega
  case c4=>omega
  case c5=>exact HA.out.size
  intro ao' c' W3 hO3 hT3 _
  have hE3:Ext w W3:=HA.out.after hT3 (fun b h1 e=>by simp [Value.ownBlock] at e;omega)
  have HO3:=Lib.hid hO3;have HE3:=Lib.hid hE3
  clear hO3 hE3 hT3
  go_wp2
  go_ret
  refine⟨ao',c',?_,?_,HE3.out⟩
  ·first | rfl | simp
  ·have:=HO3.out
   simpa using this
theorem OneW.own{w:World}{base:Nat}{e:TypeId}{ao:Option Addr}{c:Nat}{u:Wd}(h:w.ownsRow base e 2 (.slice ao u.length c) u.length (sndL u)) (hok:WdOk u):OneW w (.slice ao u.length c) u:=⟨ao,c,rfl,own_word h hok,(own_len h).1⟩
theorem OneW.nil(w:World):OneW w (.slice none 0 0) []:=⟨none,0,rfl,⟨⟨rfl,by simp [maxLen],none,0,rfl,fun h=>by simp at h⟩,by simp [WdOk]⟩,Nat.le_refl _⟩
end Go.Proofs.YtfdlhlghcbeblaaGreatDoor
