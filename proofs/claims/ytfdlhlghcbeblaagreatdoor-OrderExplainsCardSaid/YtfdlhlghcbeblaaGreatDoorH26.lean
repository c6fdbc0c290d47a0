/- Equal of words: ablautref02.Equal, slices.Equal, word.Equal (printed by genwdeq.py). law.Apply, law.Changes (printed by genlapply.py). law.Settle (printed by genlsettle.py). ablautref08.right (printed by genrefrun.py). PLAIN: where the reference stands in ModeAll. -/
import Derived.Test.YtfdlhlghcbeblaaGreatDoorH14
import Derived.Test.YtfdlhlghcbeblaaGreatDoorH25
import Derived.Test.YtfdlhlghcbeblaaGreatDoorH15
import Derived.Test.YtfdlhlghcbeblaaGreatDoorH16
import Derived.Test.YtfdlhlghcbeblaaGreatDoorH18
import Derived.Test.YtfdlhlghcbeblaaGreatDoorH20
import Derived.Test.YtfdlhlghcbeblaaGreatDoorH24
import Derived.Test.YtfdlhlghcbeblaaGreatDoorH11
import Derived.Deep.QuietTactic
import Derived.BigQuiet
set_option maxRecDepth 100000
set_option maxHeartbeats 4000000
namespace Go.Proofs.YtfdlhlghcbeblaaGreatDoor
open Go.RowKit Go.Ab
attribute [local go_sem] Oper.semAt_some wide_fn wide_depth
theorem sleqW{w:World}{u v:Value}{us vs:Wd}(hu:WordAt w u us)(hv:WordAt w v vs) :
  Calls Tryz.prog 124 #[u,v] w fun e w'=>e=.returned (.bool (decide (us=vs)))/\Ext w w':=by
 obtain⟨ao,ac,rfl,hm⟩:=hu.slice
 obtain⟨bo,bc,rfl,hm2⟩:=hv.slice
 unfold maxLen at hm hm2
 obtain⟨N,hN⟩:∃ n,us.length=n:=⟨_,rfl⟩
 obtain⟨M,hM⟩:∃ n,vs.length=n:=⟨_,rfl⟩
 rw [hN] at hu hm ⊢
 rw [hM] at hv hm2 ⊢
 have HU:=Lib.hid hu;have HV:=Lib.hid hv;have HN:=Lib.hid hN;have HM:=Lib.hid hM
 clear hu hv hN hM
 go_enter Tryz.func124,Tryz.ntmps124
 by_cases hNM:N=M
 case neg=>
  have h0:((N:Int) ==(M:Int))=false:=by simp;omega
  have h9:¬ (N:Int)=(M:Int):=by omega
  have hne:¬ us=vs:=by intro h;rw [h,HM.out] at HN;exact hNM HN.out.symm
  have HNE:=Lib.hid (decide_eq_false hne)
  clear hne
  go_wp2
  go_ret
  exact⟨by rw [HNE.out];rfl,Turn.refl _ _⟩
 subst hNM
 go_wp2
 refine wp_loop (fun a W=>∃(k:Nat),k<=N/\a.defers=[]/\(a.tmps.size=26/\a.tmps.getD 0 undef=.slice ao N ac/\a.tmps.getD 1 undef=.slice bo N bc/\a.tmps.getD 12 undef=.int .i64 N/\a.tmps.getD 13 undef=.int .i64 k)/\us.take k=vs.take k/\Ext w W)
  (fun a _=>N - (intOf (a.tmps.getD 13 undef)).toNat) ?_ ?_
 ·exact⟨0,by omega,rfl,⟨rfl,rfl,rfl,rfl,rfl⟩,by simp,Turn.refl _ _⟩
 rintro⟨t,_⟩ W ⟨k,hk,hds,⟨hsz,f0,f1,f12,f13⟩,hall,hE⟩
 subst hds
 obtain⟨u',hu⟩:=frame_fun hsz
 obtain⟨u,rfl⟩:∃ x,x=u':=⟨_,rfl⟩
 have hu':t=#[u 0,u 1,u 2,u 3,u 4,u 5,u 6,u 7,u 8,u 9,u 10,u 11,u 12,u 13,u 14,u 15,u 16,u 17,u 18,u 19,u 20,u 21,u 22,u 23,u 24,u 25]:=hu
 clear hu
 subst hu'
 change u 0=_ at f0
 change u 1=_ at f1
 change u 12=_ at f12
 change u 13=_ at f13
 rw [f0,f1,f12,f13]
 clear f0 f1 f12 f13 hsz
 have HALL:=Lib.hid hall
 clear hall
 by_cases hkN:k<N
 ·have h1:(k:Int)<(N:Int):=by omega
  have hku:k<us.length:=by rw [HN.out];exact hkN
  have hkv:k<vs.length:=by rw [HM.out];exact hkN
  obtain⟨g,off,c',hq,hg,d0,d1⟩:=(show WordAt W _ us from(HU.out.ext hE)).at hku
  simp only [Value.slice.injEq] at hq
  obtain⟨rfl,hz,rfl⟩:=hq
  clear hz
  obtain⟨g2,off2,c2,hq,hg2,e0,e1⟩:=(show WordAt W _ vs from(HV.out.ext hE)).at hkv
  simp only [Value.slice.injEq] at hq
  obtain⟨rfl,hz,rfl⟩:=hq
  clear hz
  have hgu:us.getD k (0,0)=us[k]:=by rw [List.getD_eq_getElem?_getD,List.getElem?_eq_getElem hku];rfl
  have hgv:vs.getD k (0,0)=vs[k]:=by rw [List.getD_eq_getElem?_getD,List.getElem?_eq_getElem hkv];rfl
  rw [hgu] at d0 d1
  rw [hgv] at e0 e1
  obtain⟨s,hs⟩:∃ s,us[k]=s:=⟨_,rfl⟩
  obtain⟨t,ht⟩:∃ s,vs[k]=s:=⟨_,rfl⟩
  have HS:Hid (us[k]=s):=Lib.hid hs
  have HT:Hid (vs[k]=t):=Lib.hid ht
  rw [hs] at d0 d1
  rw [ht] at e0 e1
  obtain⟨s1,s2⟩:=s
  obtain⟨t1,t2⟩:=t
  dsimp only at d0 d1 e0 e1
  clear hgu hgv hs ht
  by_cases hst:s1=t1/\s2=t2
  ·obtain⟨rfl,rfl⟩:=hst
   have hnx:us.take (k+1)=vs.take (k+1):=by
    rw [List.take_succ_eq_append_getElem hku,List.take_succ_eq_append_getElem hkv,HALL.out,HS.out,HT.out]
   have HNX:=Lib.hid hnx
   clear hnx
   go_wp2
   go_quiet (fail)
   go_wp2
   exact⟨⟨k+1,by omega,by first | rfl | trivial,⟨rfl,rfl,rfl,rfl,rfl⟩,HNX.out,hE.drewN _⟩,by simp [intOf];omega⟩
  ·have hne:¬ us=vs:=by
    intro h
    subst h
    have h3:=HS.out.symm.trans HT.out
    simp only [Prod.mk.injEq] at h3
    exact hst h3
   have HNE:=Lib.hid (decide_eq_false hne)
   have hcmp:(((s1:Int) ==(t1:Int)) && ((s2:Int) ==(t2:Int)))=false:=by
    by_cases h3:s1=t1
    ·have h4:¬ s2=t2:=fun h4=>hst ⟨h3,h4⟩
     simp;omega
    ·simp;omega
   have h5:¬ ((s1:Int)=(t1:Int)/\(s2:Int)=(t2:Int)):=by omega
   have h6:(s1:Int)=(t1:Int)->¬ (s2:Int)=(t2:Int):=by omega
   have H6:=Lib.hid h6
   clear hne hst h6
   by_cases h7:(s1:Int)=(t1:Int)
   ·have h8:=H6.out h7
    have h81:((s2:Int) ==(t2:Int))=false:=by simp;omega
    have h82:((s1:Int) ==(t1:Int))=true:=by simp;omega
    clear hcmp h5
    go_wp2
    go_quiet (fail)
    go_wp2
    go_ret
    exact⟨by rw [HNE.out];rfl,hE.drewN _⟩
   ·have h82:((s1:Int) ==(t1:Int))=false:=by simp;omega
    clear hcmp h5
    go_wp2
    go_quiet (fail)
    go_wp2
    go_ret
    exact⟨by rw [HNE.out];rfl,hE.drewN _⟩
 ·obtain rfl:k=N:=by omega
  have h1:¬ (k:Int)<(k:Int):=by omega
  have hfin:us=vs:=by have:=HALL.out;rwa [List.take_of_length_le (by rw [HN.out];exact Nat.le_refl _),List.take_of_length_le (by rw [HM.out];exact Nat.le_refl _)] at this
  have HFI:=Lib.hid (decide_eq_true hfin)
  clear hfin
  go_wp2
  go_ret
  exact⟨by rw [HFI.out];rfl,hE⟩
theorem eqW{w:World}{u v:Value}{us vs:Wd}(hu:WordAt w u us)(hv:WordAt w v vs) :
  Calls Tryz.prog 70 #[u,v] w fun e w'=>e=.returned (.bool (decide (us=vs)))/\Ext w w':=by
 have HC:=fun(D:World) (hD:Ext w D)=>sleqW (hu.ext hD) (hv.ext hD)
 obtain⟨ao,ac,rfl,hm⟩:=hu.slice
 obtain⟨bo,bc,rfl,hm2⟩:=hv.slice
 have HH:=Lib.hid HC
 clear HC hu hv
 go_enter Tryz.func70,Tryz.ntmps70
 go_wp2_with fail
 refine(HH.out _ (by first | exact Turn.refl _ _ | exact Turn.drew (Turn.refl _ _))).mono ?_
 rintro e w2 ⟨rfl,hE⟩
 clear HH
 go_wp2
 go_ret
 exact⟨rfl,by first | exact hE | exact Turn.trans (Turn.drew (Turn.refl _ _)) hE⟩
end Go.Proofs.YtfdlhlghcbeblaaGreatDoor
set_option maxRecDepth 100000
set_option maxHeartbeats 16000000
namespace Go.Proofs.YtfdlhlghcbeblaaGreatDoor
open Go.RowKit Go.Ab
attribute [local go_sem] Oper.semAt_some wide_fn wide_depth
theorem appL_nil{l:LawD}{ws:Wd}(h:trE l ws=0)(hn:(trT l ws).length=0):appL l ws=ws:=by
 unfold trT at hn
 rw [if_pos h] at hn
 unfold appL lastT
 rw [if_pos h,List.eq_nil_of_length_eq_zero hn];rfl
theorem appL_last{l:LawD}{ws:Wd}(h:trE l ws=0){k:Nat}(hn:(trT l ws).length=k+1):∀(hk:k<(trT l ws).length),(trT l ws)[k].2=appL l ws:=by
 intro hk
 have e:trT l ws=traceL l ws:=by unfold trT;rw [if_pos h]
 unfold appL lastT
 rw [if_pos h,List.getLastD_eq_getLast?,List.getLast?_eq_getElem?,List.length_map,<-e,hn,Nat.add_sub_cancel,List.getElem?_map,List.getElem?_eq_getElem hk]
 rfl
theorem appL_bad{l:LawD}{ws:Wd}(h:trE l ws≠0):appL l ws=[]:=by unfold appL;rw [if_neg h]
theorem lapply_fr{w:World}{l:LawD}{cs:List Value}{vo:Option Addr}{vc:Nat}{ws:Wd}(hl:LawAt w l cs)(hv:WordAt w (.slice vo ws.length vc) ws) (hcap:ws.length<=vc) (hT:Tab w) :
  Calls Tryz.prog 131 #[.agg cs.toArray,.slice vo ws.length vc] w fun e w'=>∃ u,e=.returned (.tuple #[u,.int .i64 (trE l ws)])/\OneW w' u (appL l ws)/\KeptIn (fun g=>w.heap.size<=g) u/\Ext w w':=by
 have htr:=fun(V:World) (hE:Ext w V)=>ltrace_fr (hl.ext hE) (hv.ext hE) hcap (hT.keep hE id)
 have hcl:=fun(V:World) (hE:Ext w V) (hn:ws.length<=32)=>clone_snd (hv.ext hE) (Nat.le_trans hn (by decide))
 have hok:=hv.2
 have hsh:trE l ws=0->ws.length<=32:=fun h0=>wE_le (lawW_zero (trE_law h0)).2
 have h1:=@appL_nil l ws
 have h2:=@appL_last l ws
 have h3:=@appL_bad l ws
 obtain⟨wn,hwn⟩:∃ n,ws.length=n:=⟨_,rfl⟩
 rw [hwn] at htr hcl hsh ⊢
 obtain⟨nm,k1,p1,m1,n1,a1,b1,o1,N1,c1,k2,p2,m2,n2,a2,b2,o2,N2,c2,io,N3,ic,oo,N4,oc,md,rfl,HLA,HPL,HPR,HIF,HOU,HNM,HN1,HN2,HN3,HN4,HMD,q0,q1,q2,q3,q4⟩:=law_gen hl
 obtain⟨E,hE⟩:∃ R,trE l ws=R:=⟨_,rfl⟩
 obtain⟨U,hU⟩:∃ R,trT l ws=R:=⟨_,rfl⟩
 obtain⟨A,hA⟩:∃ R,appL l ws=R:=⟨_,rfl⟩
 rw [hE] at htr hsh h1 h2 h3 ⊢
 rw [hU] at htr h1 h2
 rw [hA] at h1 h2 h3 ⊢
 have HTR:=Lib.hid htr;have HCL:=Lib.hid hcl;have HSH:=Lib.hid hsh;have HOK:=Lib.hid hok;have H1:=Lib.hid h1;have H2:=Lib.hid h2;have H3:=Lib.hid h3;have HWN:=Lib.hid hwn
 clear hl hv hT htr hcl hsh hok h1 h2 h3 hE hU hA hwn
 go_enter Tryz.func131,Tryz.ntmps131
 go_upto_region 1 with (fail)
 obtain⟨w1,hw1⟩:∃ D,w.alloc (.cells #[.string nm,.int .i64 k1,.int .u32 (p1:Int),.int .u32 (m1:Int),.bool n1,.int .i64 a1,.int .i64 b1,.slice o1 N1 c1,.int .i64 k2,.int .u32 (p2:Int),.int .u32 (m2:Int),.bool n2,.int .i64 a2,.int .i64 b2,.slice o2 N2 c2,.slice io N3 ic,.slice oo N4 oc,.int .i64 md] 102)=D:=⟨_,rfl⟩
 have hE1:Ext w w1:=by rw [<-hw1];exact(Turn.refl _ w).alloc _
 have hl1:w1.heap[w.heap.size]?=some (.cells #[.string nm,.int .i64 k1,.int .u32 (p1:Int),.int .u32 (m1:Int),.bool n1,.int .i64 a1,.int .i64 b1,.slice o1 N1 c1,.int .i64 k2,.int .u32 (p2:Int),.int .u32 (m2:Int),.bool n2,.int .i64 a2,.int .i64 b2,.slice o2 N2 c2,.slice io N3 ic,.slice oo N4 oc,.int .i64 md] 102 (0,0)):=by rw [<-hw1];exact new_at rfl
 rw [hw1]
 obtain⟨B,hB⟩:∃ b,w.heap.size=b:=⟨_,rfl⟩
 rw [hB] at hl1 ⊢
 have HL1:=Lib.hid hl1;have HB:=Lib.hid hB
 clear hw1 hl1 hB
 go_wp2_with (refine wpList_load_row rfl 102 (.tmp 2) rfl B rfl _ _ _ _ HL1.out Tryz.underlying102 rfl Tryz.lawInfo ?_)
 refine(HTR.out _ hE1).mono ?_
 rintro e w2 ⟨u,v,rfl,hOF,hN⟩
 have hE2:=hE1.trans hN
 have hO:=hOF.out
 obtain⟨uo,uc,xo,xc,rfl,rfl,htm⟩:=hO.slices
 have HOF:=Lib.hid hOF;have HSZ:=Lib.hid hE1.size;have HSZ2:=Lib.hid hE2.size
 clear hOF hN hE1 HL1 HTR
 by_cases h0:E=0
 case neg=>
  have h9:(E != 0)=true:=by rw [bne_iff_ne];exact h0
  have HA:=H3.out h0
  subst HA
  clear hO
  go_wp2
  go_ret2
  exact⟨_,rfl,OneW.nil _,fun g o n c e h=>(by cases e),hE2⟩
 subst h0
 have hw32:=HSH.out rfl
 obtain⟨n,hn⟩:∃ n,U.length=n:=⟨_,rfl⟩
 rw [hn] at htm ⊢
 unfold maxLen at htm
 by_cases hn0:n=0
 ·subst hn0
  have HA:=H1.out rfl hn
  have HC:=Lib.hid (HCL.out w2 hE2 hw32)
  clear hO hn H1 H2 H3 HCL
  go_wp2_with fail
  refine HC.out.mono ?_
  rintro e w3 ⟨ao,cap,rfl,hO3,hN⟩
  have hE3:=hE2.trans hN
  have hone:OneW w3 (.slice ao wn cap) A:=by
   rw [HA]
   have:=hO3
   rw [<-HWN.out] at this ⊢
   exact OneW.own this HOK.out
  have hfr:KeptIn (fun g=>w.heap.size<=g) (.slice ao wn cap):=fun g o n c e h=>by
   cases e
   rcases hO3.2 with ⟨q,_⟩ | ⟨g',c',cur,q,hb,_⟩
   ·cases q
   ·cases q;have:=HSZ2.out;omega
  have HONE:=Lib.hid hone;have HFR:=Lib.hid hfr
  clear hO3 hN HA hone hfr
  go_wp2
  go_ret2
  exact⟨_,rfl,HONE.out,HFR.out,hE3⟩
 ·obtain⟨k,rfl⟩:∃ k,n=k+1:=⟨n - 1,by omega⟩
  have hk:k<U.length:=by omega
  obtain⟨g,cap,ao,c,hq,hc,hw,hcc⟩:=hO.at hk
  have HA:=H2.out rfl hn hk
  rw [HA] at hc hw hcc
  rw [hn] at hq
  cases hq
  have hof:=HOF.out
  have hfr:=(hof.fresh hk hc).mono (T:=fun g=>w.heap.size<=g) (fun g hg=>Nat.le_trans HSZ.out hg)
  have HONE:Hid (OneW w2 (.slice ao A.length c) A):=Lib.hid ⟨ao,c,rfl,hw,hcc⟩
  obtain⟨an,han⟩:∃ n,A.length=n:=⟨_,rfl⟩
  rw [han] at hc HONE hfr
  have HFR:=Lib.hid hfr
  have hk1:((k+1:Nat):Int) - 1=(k:Int):=by omega
  have hk2:(0:Int)<((k+1:Nat):Int):=by omega
  have hk3:(k:Int)<((k+1:Nat):Int):=by omega
  clear hO hn H1 H2 H3 HCL hw hcc HA han hn0 hof hfr
  go_wp2
  go_ret2
  exact⟨_,rfl,HONE.out,HFR.out,hE2⟩
theorem lapply_any{w:World}{l:LawD}{cs:List Value}{vo:Option Addr}{vc:Nat}{ws:Wd}(hl:LawAt w l cs)(hv:WordAt w (.slice vo ws.length vc) ws) (hcap:ws.length<=vc) (hT:Tab w) :
  Calls Tryz.prog 131 #[.agg cs.toArray,.slice vo ws.length vc] w fun e w'=>∃ u,e=.returned (.tuple #[u,.int .i64 (trE l ws)])/\OneW w' u (appL l ws)/\Ext w w':=
 (lapply_fr hl hv hcap hT).mono fun _ _ ⟨u,h1,h2,_,h3⟩=>⟨u,h1,h2,h3⟩
end Go.Proofs.YtfdlhlghcbeblaaGreatDoor
namespace Go.Proofs.YtfdlhlghcbeblaaGreatDoor
open Go.RowKit Go.Ab
attribute [local go_sem] Oper.semAt_some wide_fn wide_depth
end Go.Proofs.YtfdlhlghcbeblaaGreatDoor
set_option maxRecDepth 100000
set_option maxHeartbeats 16000000
namespace Go.Proofs.YtfdlhlghcbeblaaGreatDoor
open Go.RowKit Go.Ab
attribute [local go_sem] Oper.semAt_some wide_fn wide_depth
def runE(t:List (Nat × Wd)):Int:=if longT t=true then 11 else 0
def runT(t:List (Nat × Wd)):List (Nat × Wd):=if longT t=true then [] else t
theorem Tryz.infoW2:(Tryz.prog.info? 99).map (fun i=>(i.zero,i.size,i.bytes))=some (some (.slice none 0 0),1,24):=by kernel_rfl
def lenS(v:Value):Nat:=match v with | .slice _ n _=>n | _=>0
end Go.Proofs.YtfdlhlghcbeblaaGreatDoor
namespace Go.Proofs.YtfdlhlghcbeblaaGreatDoor
open Go.RowKit Go.Ab
def AllR(l:LawD)(ws:Wd)(tr:List (Nat × Wd)) (d:Wd) (i:Nat):Prop:=
 (∃ n,ws.length+1 - i<=n/\traceL l ws=tr++allT (hitL l) (putL l) l.ifs.length ws n i d)/\(i<=ws.length->d.length+tr.length*l.ifs.length=i+tr.length*l.outs.length)/\tr.length+(ws.length+1 - i)<=ws.length+1/\i<=ws.length+1
theorem AllR.start{l:LawD}{ws:Wd}(h:l.mode=1):AllR l ws [] [] 0:=
 ⟨⟨ws.length+1,by omega,by unfold traceL;rw [if_pos h];rfl⟩,fun _=>by simp,by simp,by omega⟩
theorem AllR.miss{l:LawD}{ws:Wd}{tr:List (Nat × Wd)} {d:Wd} {i:Nat} (h:AllR l ws tr d i) (hi:i<=ws.length) (hh:hitL l ws i=false):AllR l ws tr (d++(ws.drop i).take 1) (i+1):=by
 obtain⟨⟨n,hn,ht⟩,h2,h3,h4⟩:=h
 obtain⟨n',rfl⟩:∃ n',n=n'+1:=⟨n - 1,by omega⟩
 unfold allT at ht
 rw [if_neg (by rw [hh];decide)] at ht
 refine⟨⟨n',by omega,ht⟩,fun h5=>?_,by omega,by omega⟩
 have:=h2 hi
 rw [List.length_append,List.length_take,List.length_drop];omega
def allD(l:LawD)(ws d:Wd)(i:Nat):Wd:=d++putL l ((ws.drop i).take l.ifs.length)
def allNowW(l:LawD)(ws d:Wd)(i:Nat):Wd:=allD l ws d i++ws.drop (i+l.ifs.length)
theorem AllR.hit{l:LawD}{ws:Wd}{tr:List (Nat × Wd)} {d:Wd} {i:Nat} (h:AllR l ws tr d i) (hh:hitL l ws i=true) :
  (l.ifs.length=0->AllR l ws (tr++[(i,allNowW l ws d i)]) (allD l ws d i++(ws.drop i).take 1) (i+1))/\(l.ifs.length≠0->AllR l ws (tr++[(i,allNowW l ws d i)]) (allD l ws d i) (i+l.ifs.length)) /\
  (∃ rest,traceL l ws=tr++(i,allNowW l ws d i)::rest)/\d.length+tr.length*l.ifs.length=i+tr.length*l.outs.length/\i+l.ifs.length<=ws.length:=by
 have hi:=hit_le hh
 obtain⟨⟨n,hn,ht⟩,h2,h3,h4⟩:=h
 obtain⟨n',rfl⟩:∃ n',n=n'+1:=⟨n - 1,by omega⟩
 have hd:=h2 (by omega)
 unfold allT at ht
 rw [if_pos hh] at ht
 refine⟨fun hk=>?_,fun hk=>?_,⟨_,ht⟩,hd,hi⟩
 ·rw [if_pos hk] at ht
  refine⟨⟨n',by omega,by rw [ht];simp [allNowW,allD]⟩,fun h5=>?_,by rw [List.length_append,List.length_singleton];omega,by omega⟩
  unfold allD
  rw [List.length_append,List.length_append,putL_length,List.length_append,List.length_singleton,List.length_take,List.length_drop,Nat.add_mul,Nat.add_mul,hk]
  rw [hk] at hd
  omega
 ·rw [if_neg hk] at ht
  refine⟨⟨n',by omega,by rw [ht];simp [allNowW,allD]⟩,fun h5=>?_,by rw [List.length_append,List.length_singleton];omega,by omega⟩
  unfold allD
  rw [List.length_append,putL_length,List.length_append,List.length_singleton,Nat.add_mul,Nat.add_mul]
  omega
theorem AllR.done{l:LawD}{ws:Wd}{tr:List (Nat × Wd)} {d:Wd} {i:Nat} (h:AllR l ws tr d i) (hi:ws.length<i):traceL l ws=tr:=by
 obtain⟨⟨n,hn,ht⟩,_⟩:=h
 rw [ht,allT_none,List.append_nil]
 intro j hj
 cases hh:hitL l ws j with
 | false=>rfl
 | true=>have:=hit_le hh;omega
end Go.Proofs.YtfdlhlghcbeblaaGreatDoor
