/- derive.forms: its iterator (printed by genderi.py). derive.rescue, forms, outcome. derive.outcome: the last form, or a panic. derive.attempt: the outcome, or that there is none. derive.attempt. derive.check over one word; derive.Derive. -/
import Derived.Test.YtfdlhlghcbeblaaGreatDoorH44
import Derived.Test.YtfdlhlghcbeblaaGreatDoorH11
import Derived.Test.YtfdlhlghcbeblaaGreatDoorH17
import Derived.Test.YtfdlhlghcbeblaaGreatDoorH26
import Derived.Test.YtfdlhlghcbeblaaGreatDoorH16
import Derived.Test.YtfdlhlghcbeblaaGreatDoorH25
import Derived.Test.YtfdlhlghcbeblaaGreatDoorH10
import Derived.Test.YtfdlhlghcbeblaaGreatDoorH40
import Derived.Defers
import Derived.Recover
set_option maxRecDepth 100000
set_option maxHeartbeats 16000000
namespace Go.Proofs.YtfdlhlghcbeblaaGreatDoor
open Go.RowKit Go.Ab
attribute [local go_sem] Oper.semAt_some wide_fn wide_depth
def formsG:List LawD->Wd->Nat->List (Nat × Wd)
 | [],u,i=>[(i,u)]
 | l::ls,u,i=>(i,u)::(if trE l u=0 then formsG ls (appL l u) (i+1) else [])
def failE:List PanicEntry:=[{ v:=.iface 221 (.int .i64 11),recovered:=false }]
def formsX(ls:List LawD)(ws:Wd):Option (List PanicEntry):=if (derO ls ws).isSome=true then none else some failE
def FormE(_:Nat)(x:Nat × Wd)(W:World)(ys:Array Value):Prop:=∃ v,ys=#[.int .i64 (x.1:Int),v]/\OneW W v x.2
theorem formsG_last:∀(ls:List LawD) (ws:Wd) (i:Nat) (u:Wd),derO ls ws=some u->∃ pre,formsG ls ws i=pre++[(i+ls.length,u)]
 | [],ws,i,u,h=>by cases h;exact⟨[],rfl⟩
 | l::ls,ws,i,u,h=>by
  unfold derO at h
  split at h
  ·rename_i h0
   obtain⟨pre,hp⟩:=formsG_last ls _ (i+1) u h
   refine⟨(i,ws)::pre,?_⟩
   unfold formsG
   rw [if_pos h0,hp,List.length_cons,show i+(ls.length+1)=i+1+ls.length by omega]
   rfl
  ·cases h
theorem formsG_head(ls:List LawD)(u:Wd)(i:Nat):formsG ls u i=(i,u)::(formsG ls u i).tail:=by cases ls <;> rfl
theorem one_apart{A B:World}{v:Value}{u:Wd}{D l:Nat}{so:Option Addr}{sn sc:Nat}{t:TypeId}{fr:Nat × Nat}(h:OneW A v u)(ht:Turn (fun b=>b=D\/b=l) A B) (hD:A.heap[D]?=some (.cells #[.slice so sn sc] t fr)) (hl:∃ o,A.heap[l]?=some o/\o.isCells=false):OneW B v u:=by
 obtain⟨ao,c,rfl,⟨⟨h1,h2,ao',cap,hv,h3⟩,h4⟩,h5⟩:=h
 refine⟨ao,c,rfl,⟨⟨h1,h2,ao',cap,hv,fun hn=>?_⟩,h4⟩,h5⟩
 obtain⟨g,off,ha,hg,hc⟩:=h3 hn
 have hne:¬ (g=D\/g=l):=by
  rintro(rfl | rfl)
  ·have h0:=hc 0 (by omega)
   rw [Nat.add_zero] at h0
   unfold World.cell? at h0
   simp only [hD] at h0
   cases off with
   | zero=>
    rw [List.getD_eq_getElem?_getD] at h0
    cases u with
    | nil=>simp at hn
    | cons s u=>simp [sndL] at h0
   | succ off=>simp at h0
  ·obtain⟨o,q1,q2⟩:=hl
   obtain⟨o',q3,q4⟩:=cell_cells (hc 0 (by omega))
   simp only at q3
   rw [q1] at q3;cases q3
   rw [q2] at q4;cases q4
 exact⟨g,off,ha,Nat.lt_of_lt_of_le hg ht.size,fun j hj=>ht.cell_some (hc j hj) hne⟩
theorem forms_iter{w0 w:World}{BL BW D n:Nat}{ps:LawsL}{lo:Option Addr}{lc:Nat}{vo:Option Addr}{vn vc:Nat}{ws:Wd}(hE0:Ext w0 w)(hD0:w0.heap.size<=D)(hlaws:LawsAt w0 (.slice lo n lc) ps) (hn:ps.length=n) (hok:∀ p∈ps,lawB p.1=true)
  (hw:WordAt w0 (.slice vo vn vc) ws) (hvn:ws.length=vn) (hwE:wE ws=0) (hT:Tab w0) (hbl:w.heap[BL]?=some (.cells #[.slice lo n lc] 26 (0,0))) (hbw:w.heap[BW]?=some (.cells #[.slice vo vn vc] 99 (0,0))) (hnl:BL≠D) (hnw:BW≠D) :
  IterF Tryz.prog 176 #[.pointer (some ⟨BW,0,none⟩),.pointer (some ⟨BL,0,none⟩)] (fun _ _=>False) FormE (formsG (ps.map (·.1)) ws 0) (formsX (ps.map (·.1)) ws) (fun b=>b=D) (fun A=>∃ so sn sc,A.heap[D]?=some (.cells #[.slice so sn sc] 99 (0,0))) w:=by
 intro l J Jx W ht hlw hl0 hJ hJx hC hY h0
 have hwb:=(Array.getElem?_eq_some_iff.1 hbl).1
 have hbl1:=ht.heap hbl hnl
 have hbw1:=ht.heap hbw hnw
 have hEW:Ext w0 W:=Turn.after hE0 ht (fun b hb e=>by omega)
 have hw0s:=hE0.size
 have hps:ps.length<=maxLen:=hlaws.1.2.1
 rw [hn] at hps
 unfold maxLen at hps
 have hv32:ws.length<=32:=wE_le hwE
 have hwd:=hw.2
 have hcl:=fun(V:World) (hE:Ext w0 V)=>clone_snd (hw.ext hE) (by omega)
 have hJs:∀ pre A B,J pre A->Ext A B->J pre B:=fun pre A B hj he=>hJ pre A B hj (Ext.of he)
 have hst:∀ V,Ext w0 V->∀ B,Turn (fun b=>b=D\/b=l) V B->Ext w0 B:=fun V hE B ht=>Turn.after hE ht (fun b hb h=>by rcases h with h | h <;> omega)
 obtain⟨LD,hLD⟩:∃ x,ps.map (·.1)=x:=⟨_,rfl⟩
 obtain⟨FX,hFX⟩:∃ x,formsG LD ws 0=x:=⟨_,rfl⟩
 rw [hLD,hFX] at hY ⊢
 have hgood:∀ k (hk:k<n),∃ p,ps[k]?=some p/\lawB p.1=true/\LD[k]?=some p.1/\(∀ x∈p.1.outs,OutOk x):=fun k hk=>by
  have h1:k<ps.length:=by omega
  refine⟨ps[k],List.getElem?_eq_getElem h1,hok _ (List.getElem_mem h1),by rw [<-hLD,List.getElem?_map,List.getElem?_eq_getElem h1];rfl,?_⟩
  obtain⟨_,_,_,_,_,_,_,_,_,ho⟩:=hlaws.2 _ (List.getElem_mem h1)
  exact ho.2
 have hlen:LD.length=n:=by rw [<-hLD,List.length_map,hn]
 have HLAWS:=Lib.hid (fun(V:World) (hE:Ext w0 V)=>hlaws.ext hE);have HCL:=Lib.hid hcl;have HJS:=Lib.hid hJs;have HY:=Lib.hid hY;have HC:=Lib.hid hC;have HST:=Lib.hid hst;have HG:=Lib.hid hgood;have HFX:=Lib.hid hFX;have HLEN:=Lib.hid hlen;have HWD:=Lib.hid hwd;have HWE:=Lib.hid hwE;have HJ0:=Lib.hid h0;have HTB:=Lib.hid (fun(V:World) (hE:Ext w0 V)=>hT.keep hE id);have HVN:=Lib.hid hvn;have HPN:=Lib.hid hn
 rw [hvn] at hv32
 clear hlaws hcl hJs hY hC hst hgood hFX hlen hwd hwE h0 hT hJ hJx hE0 hw hok hLD ht hbl hbw hvn hn
 show Calls _ _ #[.func (.yield l) #[] #[],.pointer (some ⟨BW,0,none⟩),.pointer (some ⟨BL,0,none⟩)] _ _
 go_enter Tryz.func176,Tryz.ntmps176
 have cW:=cell_of_one hbw1
 go_wp2_with fail
 have hcc:=HCL.out _ hEW
 rw [HVN.out] at hcc
 refine hcc.mono ?_
 rintro e w1 ⟨uo,uc,rfl,hO,hN⟩
 have hE1:Ext w0 w1:=hEW.trans hN
 have hbl2:=hN.keep hbl1
 have hu:OneW w1 (.slice uo vn uc) ws:=by have:=OneW.own (u:=ws) (by rw [HVN.out];exact hO) HWD.out;rw [HVN.out] at this;exact this
 have hj1:=HJS.out _ _ _ HJ0.out hN
 have hsp:FX=[]++(0,ws)::(formsG LD ws 0).tail:=by
  rw [<-HFX.out]
  cases LD with
  | nil=>rfl
  | cons a b=>rfl
 obtain⟨fn,tmps,assign,body,hy,hYR⟩:=HY.out [] (0,ws) _ w1 #[.int .i64 0,.slice uo vn uc] hsp hj1 ⟨_,rfl,hu⟩
 obtain⟨⟨so,sn,sc,hDc⟩,hlc⟩:=HC.out _ _ hj1
 have HSP:=Lib.hid hsp;have HYR:=Lib.hid hYR;have HU:=Lib.hid hu;have HE1:=Lib.hid hE1;have HBL:=Lib.hid hbl2;have HDC:=Lib.hid hDc;have HLC:=Lib.hid hlc
 clear hYR hu hE1 hbl2 hDc hlc hj1 hsp hO hN hcc cW hbl1 hbw1 hEW
 go_upto_region 1 with (fail)
 refine(wpIn_wide (n:=0)).1 ?_
 gi_wp2
 refine HYR.out.mono ?_
 rintro e w2 (⟨rfl,hJ2,hk2⟩ | ⟨rfl,hJ2,hk2⟩)
 case inr=>
  gi_wp2
  go_wp2
  refine bodyPost_ret (results_none rfl _ _ _) rfl ?_
  exact .inl ⟨⟨_,rfl⟩,.inr ⟨[],(0,ws),_,HSP.out,hJ2⟩⟩
 have hE2:=HST.out _ HE1.out _ hk2
 have hu2:=one_apart HU.out hk2 HDC.out HLC.out
 have hbl3:=hk2.heap HBL.out (by rintro(h | h);exact hnl h;omega)
 have HU2:=Lib.hid hu2;have HJ2:=Lib.hid hJ2;have HE2:=Lib.hid hE2
 clear hu2 hJ2 hE2 hk2 HYR HU HE1 HBL HDC HLC hy
 have cL:=cell_of_one hbl3
 gi_wp2
 go_wp2
 refine wp_loop (fun a V=>∃(k:Nat) (pre:List (Nat × Wd)) (uw:Wd) (uo:Option Addr) (un uc:Nat),a.defers=[]/\(a.tmps.size=40/\a.tmps.getD 0 undef=.func (.yield l) #[] #[]/\a.tmps.getD 4 undef=.slice uo un uc/\a.tmps.getD 15 undef=.slice lo n lc/\a.tmps.getD 16 undef=.int .i64 n/\a.tmps.getD 17 undef=.int .i64 k)/\k<=n/\FX=pre++formsG (LD.drop k) uw k/\derO (LD.take k) ws=some uw/\J (pre++[(k,uw)]) V/\OneW V (.slice uo un uc) uw/\uw.length=un/\wE uw=0/\WdOk uw/\Ext w0 V)
  (fun a _=>((n:Int) - intOf (a.tmps.getD 17 undef)).toNat) ?_ ?_
 ·exact⟨0,[],ws,uo,vn,uc,rfl,⟨rfl,rfl,rfl,rfl,rfl,rfl⟩,Nat.zero_le _,by rw [<-HFX.out];rfl,rfl,HJ2.out,HU2.out,HVN.out,HWE.out,HWD.out,HE2.out⟩
 clear HU2 HJ2 HE2 HJ0 cL hbl3
 rintro⟨t,_⟩ V ⟨k,pre,uw,uo,un,uc,hds,⟨hsz,f0,f4,f15,f16,f17⟩,hk,hfx,hdo,hj,hu,hun,hwe,hwo,hE⟩
 subst hds
 obtain⟨u',hu⟩:=frame_fun hsz
 obtain⟨u,rfl⟩:∃ x,x=u':=⟨_,rfl⟩
 have hu':t=#[u 0,u 1,u 2,u 3,u 4,u 5,u 6,u 7,u 8,u 9,u 10,u 11,u 12,u 13,u 14,u 15,u 16,u 17,u 18,u 19,u 20,u 21,u 22,u 23,u 24,u 25,u 26,u 27,u 28,u 29,u 30,u 31,u 32,u 33,u 34,u 35,u 36,u 37,u 38,u 39]:=hu
 clear hu
 subst hu'
 change u 0=_ at f0
 change u 4=_ at f4
 change u 15=_ at f15
 change u 16=_ at f16
 change u 17=_ at f17
 rw [f0,f4,f15,f16,f17]
 clear f0 f4 f15 f16 f17 hsz
 have HFX2:=Lib.hid hfx;have HDO:=Lib.hid hdo;have HJV:=Lib.hid hj;have HU:=Lib.hid hu;have HUN:=Lib.hid hun;have HWE2:=Lib.hid hwe;have HWO:=Lib.hid hwo;have HE:=Lib.hid hE
 clear hfx hdo hj hu hun hwe hwo hE
 by_cases hkn:k<n
 case neg=>
  obtain rfl:k=n:=by omega
  have h1:¬ ((k:Int)<(k:Int)):=by omega
  have hx:FX=pre++[(k,uw)]:=by
   have:=HFX2.out
   rw [List.drop_eq_nil_of_le (by rw [HLEN.out];exact Nat.le_refl _)] at this
   exact this
  have hf:formsX LD ws=none:=by
   have:=HDO.out
   rw [derO_all (by rw [HLEN.out];exact Nat.le_refl _)] at this
   unfold formsX;rw [this];rfl
  have HX:=Lib.hid hx;have HF:=Lib.hid hf
  clear hx hf
  go_wp2
  go_end0
  exact .inl ⟨⟨_,rfl⟩,.inl ⟨HF.out,by rw [HX.out];exact HJV.out⟩⟩
 have h1:(k:Int)<(n:Int):=by omega
 have h0:(0:Int)<=(k:Int):=by omega
 obtain⟨p,hpk,hpb,hpl,hpo⟩:=HG.out k hkn
 have hlV:=HLAWS.out V HE.out
 have hk2:k<ps.length:=by rw [HPN.out];exact hkn
 obtain⟨g,off,c9,hq,hg,hrg,hla,h18⟩:=hlV.at hk2
 have hpe:ps[k]=p:=by rw [List.getElem?_eq_getElem hk2] at hpk;exact Option.some.inj hpk
 rw [hpe] at hrg hla h18
 simp only [Value.slice.injEq] at hq
 obtain⟨rfl,hq2,rfl⟩:=hq
 obtain⟨pl,pc⟩:=p
 dsimp only at hrg hla h18 hpb hpl hpo
 obtain⟨nm,k1,p1,m1,n1,a1,b1,o1,N1,c1,k2,p2,m2,n2,a2,b2,o2,N2,c2,io,N3,ic,oo,N4,oc,md,hcs,HLA,HPL,HPR,HIF,HOU,HNM,HN1,HN2,HN3,HN4,HMD,q0,q1,q2,q3,q4⟩:=law_gen hla
 subst hcs
 have hwk:IntKind.i64.wrap ((k:Int)+1)=(k:Int)+1:=IntWalk.i64_in _ (by omega)
 have HRG:=Lib.hid hrg;have HPO:=Lib.hid hpo;have HPL2:=Lib.hid hpl;have HPB:=Lib.hid hpb
 clear hq2 hpe hpk hlV hla h18 hk2 hrg hpo hpl hpb HPL HPR HIF HOU HNM HN1 HN2 HN3 HN4 HMD
 obtain⟨V1,hV1⟩:∃ D,V.alloc (.cells #[.string nm,.int .i64 k1,.int .u32 (p1:Int),.int .u32 (m1:Int),.bool n1,.int .i64 a1,.int .i64 b1,.slice o1 N1 c1,.int .i64 k2,.int .u32 (p2:Int),.int .u32 (m2:Int),.bool n2,.int .i64 a2,.int .i64 b2,.slice o2 N2 c2,.slice io N3 ic,.slice oo N4 oc,.int .i64 md] 102)=D:=⟨_,rfl⟩
 have hN1:Ext V V1:=by rw [<-hV1];exact(Turn.refl _ V).alloc _
 have hx1:V1.heap[V.heap.size]?=some (.cells #[.string nm,.int .i64 k1,.int .u32 (p1:Int),.int .u32 (m1:Int),.bool n1,.int .i64 a1,.int .i64 b1,.slice o1 N1 c1,.int .i64 k2,.int .u32 (p2:Int),.int .u32 (m2:Int),.bool n2,.int .i64 a2,.int .i64 b2,.slice o2 N2 c2,.slice io N3 ic,.slice oo N4 oc,.int .i64 md] 102 (0,0)):=by rw [<-hV1];exact new_at rfl
 obtain⟨X,hX⟩:∃ x,V.heap.size=x:=⟨_,rfl⟩
 rw [hX] at hx1
 have HX1:=Lib.hid hx1;have HV1:=Lib.hid hV1
 clear hx1 hV1
 go_upto_region 5 with (refine wpList_load_at (by rfl) 102 (.tmp 20) rfl g (off+k*18) (by first | rfl | simp) _ _ HRG.out Tryz.underlying102 rfl (by kernel_rfl) ?_)
 rw [HV1.out]
 have HX0:=Lib.hid hX
 clear hX
 obtain⟨ao,cc,hq,hwv,hcp⟩:=HU.out
 simp only [Value.slice.injEq] at hq
 obtain⟨rfl,hq2,rfl⟩:=hq
 have hc:=lapply_any (HLA.out.ext hN1) (hwv.ext hN1) hcp (HTB.out V1 (HE.out.trans hN1))
 rw [HUN.out] at hc
 have hcs:=trE_good HPB.out HWE2.out
 have hap:=appL_wE HPO.out HWO.out
 have hkl:k<LD.length:=by rw [HLEN.out];exact hkn
 have hgk:LD[k]=pl:=by have:=HPL2.out;rw [List.getElem?_eq_getElem hkl] at this;exact Option.some.inj this
 have hdt:=derO_take hkl ws
 rw [HDO.out,Option.bind_some,hgk] at hdt
 have hfs:=HFX2.out
 rw [List.drop_eq_getElem_cons hkl,hgk] at hfs
 have hall:trE pl uw≠0->derO LD ws=none:=fun h=>derO_stop hkl HDO.out (by rw [hgk];exact h)
 unfold formsG at hfs
 obtain⟨E,hqE⟩:∃ x,trE pl uw=x:=⟨_,rfl⟩
 rw [hqE] at hc hcs hap hdt hfs hall
 obtain⟨R,hqR⟩:∃ x,appL pl uw=x:=⟨_,rfl⟩
 rw [hqR] at hc hap hdt hfs
 have HCA:=Lib.hid hc;have HCS:=Lib.hid hcs;have HAP:=Lib.hid hap;have HDT:=Lib.hid hdt;have HFS:=Lib.hid hfs;have HALL:=Lib.hid hall
 clear hq2 hc hcs hap hdt hfs hall hgk hkl hqE hqR hwv hcp HU HFX2 HDO HPL2 HPO HPB HWE2 HWO HLA HRG HV1
 go_wp2_with (refine wpList_load_row rfl 102 (.tmp 6) rfl X rfl _ _ _ _ HX1.out Tryz.underlying102 rfl Tryz.lawInfo ?_)
 refine HCA.out.mono ?_
 rintro e V2 ⟨ru,rfl,⟨ro,rc,rfl,hrw,hrc⟩,hN2⟩
 have hE2:Ext w0 V2:=HE.out.trans (hN1.trans hN2)
 have hj2:=HJS.out _ _ _ HJV.out (hN1.trans hN2)
 obtain⟨rn,hrn⟩:∃ n,R.length=n:=⟨_,rfl⟩
 rw [hrn] at hrw hrc ⊢
 have hru:OneW V2 (.slice ro rn rc) R:=⟨ro,rc,by rw [hrn],by rw [hrn];exact hrw,by rw [hrn];exact hrc⟩
 have HRU:=Lib.hid hru;have HJ2:=Lib.hid hj2;have HE2:=Lib.hid hE2;have HRN:=Lib.hid hrn
 clear hru hj2 hE2 hrn hrw hrc hN1 hN2 HCA HX1 HJV HE
 by_cases h0E:E=0
 case neg=>
  obtain rfl:E=11:=HCS.out.resolve_left h0E
  have hx:=HFS.out
  rw [if_neg (by decide)] at hx
  have hf:formsX LD ws=some failE:=by unfold formsX;rw [HALL.out (by decide)];rfl
  have HX:=Lib.hid hx;have HF:=Lib.hid hf
  clear hx hf HFS HALL HDT HAP HCS
  go_wp2
  refine⟨rfl,.inr ⟨failE,HF.out,rfl,?_⟩⟩
  rw [HX.out];exact HJ2.out
 subst h0E
 have hx:=HFS.out
 rw [if_pos rfl,formsG_head] at hx
 have hd1:=HDT.out
 rw [if_pos rfl] at hd1
 obtain⟨hw1,hw2⟩:=HAP.out rfl
 have HD1:=Lib.hid hd1;have HW1:=Lib.hid hw1;have HW2:=Lib.hid hw2
 have hx2:FX=(pre++[(k,uw)])++(k+1,R)::(formsG (LD.drop (k+1)) R (k+1)).tail:=by rw [hx,List.append_assoc];rfl
 have hx3:FX=(pre++[(k,uw)])++formsG (LD.drop (k+1)) R (k+1):=by rw [hx2,<-formsG_head]
 have HX2:=Lib.hid hx2;have HX3:=Lib.hid hx3
 clear hx hd1 hw1 hw2 hx2 hx3 HFS HALL HDT HAP HCS
 obtain⟨fn,tmps,assign,body,hy,hYR⟩:=HY.out (pre++[(k,uw)]) (k+1,R) _ V2 #[.int .i64 ((k:Int)+1),.slice ro rn rc] HX2.out HJ2.out ⟨_,rfl,HRU.out⟩
 obtain⟨⟨so,sn,sc,hDc⟩,hlc⟩:=HC.out _ _ HJ2.out
 have HYR:=Lib.hid hYR;have HDC:=Lib.hid hDc;have HLC:=Lib.hid hlc
 clear hYR hDc hlc
 go_upto_region 8 with (fail)
 refine(wpIn_wide (n:=0)).1 ?_
 gi_wp2
 refine HYR.out.mono ?_
 rintro e V3 (⟨rfl,hJ3,hk3⟩ | ⟨rfl,hJ3,hk3⟩)
 case inr=>
  gi_wp2
  go_wp2
  refine bodyPost_ret (results_none rfl _ _ _) rfl ?_
  exact .inl ⟨⟨_,rfl⟩,.inr ⟨pre++[(k,uw)],(k+1,R),_,HX2.out,hJ3⟩⟩
 have hE3:=HST.out _ HE2.out _ hk3
 have hu3:=one_apart HRU.out hk3 HDC.out HLC.out
 have HU3:=Lib.hid hu3;have HJ3:=Lib.hid hJ3;have HE3:=Lib.hid hE3
 clear hu3 hJ3 hE3 hk3 hy HYR HRU HJ2 HE2
 gi_wp2
 go_wp2
 exact⟨⟨k+1,pre++[(k,uw)],R,ro,rn,rc,by first | rfl | trivial,⟨rfl,rfl,rfl,rfl,rfl,rfl⟩,by omega,HX3.out,HD1.out,HJ3.out,HU3.out,HRN.out,HW1.out,HW2.out,HE3.out⟩,by first | (simp [intOf];done) | (simp [intOf];omega)⟩
end Go.Proofs.YtfdlhlghcbeblaaGreatDoor
set_option maxRecDepth 100000
namespace Go.Proofs.YtfdlhlghcbeblaaGreatDoor
open Go.RowKit Go.Ab
attribute [local go_sem] Oper.semAt_some wide_fn wide_depth
theorem rescue_bad(p:Addr)(older:List PanicEntry)(w:World)(x:Int)(hc:w.cell? p=some (.int .i64 x)) (hz:w.frozen? p=false) :
  CallsD Tryz.prog 80 #[.pointer (some p)] (.panicking ({ v:=.iface 221 (.int .i64 11),recovered:=false }::older)) w fun e u' w'=>
   e=.returned (.tuple #[])/\u'=.panicking ({ v:=.iface 221 (.int .i64 11),recovered:=true }::older)/\w'=w.setCell p (.int .i64 11):=by
 refine callsD_of_wpS Tryz.func80 rfl fun c₀ cs hu=>?_
 apply wpS_seq
 apply wpS_region
 simp [wpOpsS,go_sem,recoverD,hu,Tryz.ntmps80,Exit.thenS]
 refine wpS_of_wp ?_
 have hta:∀(W:World),(Instr.typeAssert (.iface 221 (.int .i64 11)) 20 221 true).run Tryz.prog W=.ok (.tuple #[.int .i64 11,.bool true]) W:=fun W=>by
  simp [Instr.typeAssert,run_underlying Tryz.underlying221,go_sem,Result.andThen]
 go_wp2
 simp [bodyPostS,results,Tryz.results80]
theorem rescue_idle(p:Addr)(w:World) :
  CallsD Tryz.prog 80 #[.pointer (some p)] .returning w fun e u' w'=>e=.returned (.tuple #[])/\u'=.returning/\w'=w:=by
 refine callsD_of_wpS Tryz.func80 rfl fun c₀ cs hu=>?_
 apply wpS_seq
 apply wpS_region
 simp [wpOpsS,go_sem,recoverD,hu,Tryz.ntmps80,Exit.thenS]
 refine wpS_of_wp ?_
 go_wp2
 cases c₀
 simp_all [bodyPostS,results,Tryz.results80]
end Go.Proofs.YtfdlhlghcbeblaaGreatDoor
set_option maxRecDepth 100000
set_option maxHeartbeats 16000000
namespace Go.Proofs.YtfdlhlghcbeblaaGreatDoor
open Go.RowKit Go.Ab
attribute [local go_sem] Oper.semAt_some wide_fn wide_depth
theorem forms_any(lo:Option Addr)(n lc:Nat)(vo:Option Addr)(vn vc:Nat)(w:World):Calls Tryz.prog 132 #[.slice lo n lc,.slice vo vn vc] w fun e w'=>
  e=.returned (.func (.func 176) #[] #[.pointer (some ⟨w.heap.size+1,0,none⟩),.pointer (some ⟨w.heap.size,0,none⟩)])/\w'=(w.alloc (.cells #[.slice lo n lc] 26)).alloc (.cells #[.slice vo vn vc] 99):=by
 have hmf:∀(fn:Fn) (first cap:Array Value) (w:World),(Instr.makeFunc fn first cap).run Tryz.prog w=.ok (.func fn first cap) w:=fun _ _ _ _=>rfl
 go_enter Tryz.func132,Tryz.ntmps132
 go_wp2
 go_ret
 exact⟨by simp,rfl⟩
theorem results_cell_slice{fn:Func}{p:Tmp}{ty:TypeId}(h:fn.results=#[.cell p ty]){tmps:Array Value}{w:World}{g:Nat}{ao:Option Addr}{n c:Nat}{t:TypeId}(hp:tmps.getD p undef=.pointer (some ⟨g,0,none⟩)) (hu:(Tryz.prog.underlying ty).map (fun d=>match d with | .slice _=>true | _=>false)=some true) (hg:w.heap[g]?=some (.cells #[.slice ao n c] t (0,0))) :
  (results fn tmps).run Tryz.prog w=.ok (.slice ao n c) w:=by
 have hc:=cell_of_one hg
 have hp':tmps[p]?.getD undef=.pointer (some ⟨g,0,none⟩):=by simpa using hp
 cases hd:Tryz.prog.underlying ty with
 | none=>simp [hd] at hu
 | some d=>
  cases d with
  | slice e=>simp [results,h,hp',asAddr,loadVar,isAgg,run_underlying hd,go_sem,hc]
  | _=>simp [hd] at hu
theorem one_apart1{A B:World}{v:Value}{u:Wd}{D:Nat}{so:Option Addr}{sn sc:Nat}{t:TypeId}{fr:Nat × Nat}(h:OneW A v u)(ht:Turn (fun b=>b=D) A B) (hD:A.heap[D]?=some (.cells #[.slice so sn sc] t fr)):OneW B v u:=by
 obtain⟨ao,c,rfl,⟨⟨h1,h2,ao',cap,hv,h3⟩,h4⟩,h5⟩:=h
 refine⟨ao,c,rfl,⟨⟨h1,h2,ao',cap,hv,fun hn=>?_⟩,h4⟩,h5⟩
 obtain⟨g,off,ha,hg,hc⟩:=h3 hn
 have hne:¬ g=D:=by
  rintro rfl
  have h0:=hc 0 (by omega)
  rw [Nat.add_zero] at h0
  unfold World.cell? at h0
  simp only [hD] at h0
  cases off with
  | zero=>
   rw [List.getD_eq_getElem?_getD] at h0
   cases u with
   | nil=>simp at hn
   | cons s u=>simp [sndL] at h0
  | succ off=>simp at h0
 exact⟨g,off,ha,Nat.lt_of_lt_of_le hg ht.size,fun j hj=>ht.cell_some (hc j hj) hne⟩
theorem one_nocells{A B:World}{r:Nat}{v:Value}{u:Wd}(h:OneW A v u)(ht:Turn (fun b=>b=r) A B) (hr:∃ o,A.heap[r]?=some o/\o.isCells=false):OneW B v u:=by
 obtain⟨ao,c,rfl,h1,h2⟩:=h
 exact⟨ao,c,rfl,⟨Rd.nocells ht hr h1.1,h1.2⟩,h2⟩
theorem outcome_any{w:World}{ps:LawsL}{lo:Option Addr}{n lc:Nat}{vo:Option Addr}{vn vc:Nat}{ws:Wd}(hlaws:LawsAt w (.slice lo n lc) ps) (hn:ps.length=n) (hok:∀ p∈ps,lawB p.1=true) (hw:WordAt w (.slice vo vn vc) ws) (hvn:ws.length=vn) (hwE:wE ws=0) (hT:Tab w) :
  Calls Tryz.prog 82 #[.slice lo n lc,.slice vo vn vc] w fun e w'=>(∃ u v,derO (ps.map (·.1)) ws=some u/\e=.returned v/\OneW w' v u/\Ext w w')\/(derO (ps.map (·.1)) ws=none/\e=.panicked failE/\Ext w w'):=by
 have hit:=fun(w2:World) (hE:Ext w w2) (BL BW D:Nat) (hD:w.heap.size<=D)=>forms_iter (w0:=w) (w:=w2) (BL:=BL) (BW:=BW) (D:=D) hE hD hlaws hn hok hw hvn hwE hT
 have HIT:=Lib.hid hit
 clear hit hlaws hn hok hw hvn hwE hT
 obtain⟨LD,hLD⟩:∃ x,ps.map (·.1)=x:=⟨_,rfl⟩
 rw [hLD] at HIT ⊢
 have hfl:=formsG_last LD ws 0
 obtain⟨FX,hFX⟩:∃ x,formsG LD ws 0=x:=⟨_,rfl⟩
 rw [hFX] at HIT hfl
 obtain⟨DO,hDO⟩:∃ x,derO LD ws=x:=⟨_,rfl⟩
 have hfin:formsX LD ws=if DO.isSome=true then none else some failE:=by unfold formsX;rw [hDO]
 rw [hfin] at HIT
 rw [hDO] at hfl ⊢
 have HFL:=Lib.hid hfl
 clear hLD hFX hDO hfin hfl
 refine calls_of_wp_marks Tryz.func82 rfl ?_
 simp only [Tryz.ntmps82,List.size_toArray,List.length_cons,List.length_nil,Nat.reduceAdd,Nat.reduceSub,Array.replicate_succ,Array.replicate_zero,List.push_toArray,List.append_toArray,List.nil_append,List.cons_append]
 go_upto_region 1 with (fail)
 obtain⟨w1,hw1⟩:∃ V,w.alloc (.cells #[.slice none 0 0] 99)=V:=⟨_,rfl⟩
 have hE1:Ext w w1:=by rw [<-hw1];exact(Turn.refl _ w).alloc _
 have hd1:w1.heap[w.heap.size]?=some (.cells #[.slice none 0 0] 99 (0,0)):=by rw [<-hw1];exact new_at rfl
 have hs1:w1.heap.size=w.heap.size+1:=by rw [<-hw1];simp
 rw [hw1]
 obtain⟨D,hD⟩:∃ b,w.heap.size=b:=⟨_,rfl⟩
 rw [hD] at hd1 hs1 ⊢
 have HD:=Lib.hid hD
 clear hw1 hD
 go_wp2_with fail
 refine(forms_any lo n lc vo vn vc w1).mono ?_
 rintro e w2 ⟨rfl,hw2⟩
 rw [hs1]
 have hE12:Ext w1 w2:=by rw [hw2];exact((Turn.refl _ w1).alloc _).alloc _
 have hbl:w2.heap[D+1]?=some (.cells #[.slice lo n lc] 26 (0,0)):=by rw [hw2];exact new_keep (new_at hs1.symm)
 have hbw:w2.heap[D+1+1]?=some (.cells #[.slice vo vn vc] 99 (0,0)):=by rw [hw2];exact new_at (by simp [hs1])
 have hd2:=hE12.keep hd1
 have hs2:w2.heap.size=D+3:=by rw [hw2];simp [hs1]
 have hE2:=hE1.trans hE12
 have hit2:=HIT.out w2 hE2 (D+1) (D+1+1) D (by have:=HD.out;omega) hbl hbw (by omega) (by omega)
 have HI2:=Lib.hid hit2;have HD2:=Lib.hid hd2;have HE2:=Lib.hid hE2
 clear hw2 hE12 hbl hbw hd2 hE2 hit2 HIT hE1 hd1 hs1
 go_wp2_with fail
 refine wp_rangeF (xs:=FX) rfl (enters_of Tryz.func176 (by kernel_rfl) rfl) HI2.out (fun b h=>by omega) (fun _ x A ys h=>by obtain⟨v,rfl,_⟩:=h;rfl) ?hEs
  (fun pre W=>∃ so sn sc,W.heap[D]?=some (.cells #[.slice so sn sc] 99 (0,0))/\Ext w W/\(∀ p2 x,pre=p2++[x]->OneW W (.slice so sn sc) x.2))
  (fun _ _ _=>False) ?hC ?hI ?hIx ?h0 (fun ys t=>(t.setIfInBounds 8 (ys.getD 0 undef)).setIfInBounds 9 (ys.getD 1 undef)) ?assign ?body ?pan ?done ?stop
 case hEs=>
  rintro _ x A B ys ⟨v,rfl,hv⟩ ht hr
  exact⟨v,rfl,one_nocells hv ht hr⟩
 case hC=>
  rintro pre A ⟨so,sn,sc,h,_⟩
  exact⟨so,sn,sc,h⟩
 case hI=>
  rintro pre A B ⟨so,sn,sc,h1,h2,h3⟩ ht hr
  have ht':Turn (fun b=>b=w2.heap.size+1) A B:=ht.mono fun b _ h=>h.elim (fun h=>h.2.elim) id
  exact⟨so,sn,sc,ht'.heap h1 (by omega),Turn.after h2 ht' (fun b hb h=>by have:=HD.out;omega),fun p2 x hx=>one_nocells (h3 p2 x hx) ht' hr⟩
 case hIx=>exact fun _ _ _ _ h=>h.elim
 case h0=>
  intro W hW _
  exact⟨none,0,0,hW.keep HD2.out,HE2.out.trans hW,fun p2 x hx=>by have:=congrArg List.length hx;simp at this⟩
 case assign=>
  rintro _ pre x rest ys W Kn hx ⟨so,sn,sc,h1,h2,h3⟩ ⟨v,rfl,hv⟩ hK
  obtain⟨ao,c,rfl,hv2⟩:=hv
  have cD:=cell_of_one h1
  have fD:=free_of_one h1
  have hset:Turn (fun b=>b=D) W (W.setCell ⟨D,0,none⟩ (.slice ao x.2.length c)):=Turn.set1 W D 0 _
  have hheap:(W.setCell ⟨D,0,none⟩ (.slice ao x.2.length c)).heap[D]?=some (.cells #[.slice ao x.2.length c] 99 (0,0)):=by
   simp only [World.setCell,Array.getElem?_modify,h1];simp
  have hone:OneW (W.setCell ⟨D,0,none⟩ (.slice ao x.2.length c)) (.slice ao x.2.length c) x.2:=one_apart1 ⟨ao,c,rfl,hv2⟩ hset h1
  have hk:=hK _ hset ⟨ao,_,c,hheap,Turn.after h2 hset (fun b hb h=>by have:=HD.out;omega),fun p2 y hy=>by
   obtain⟨_,rfl⟩:=List.append_inj' hy rfl |>.imp id (fun h=>(List.cons.inj h).1)
   exact hone⟩
  have HK:=Lib.hid hk
  clear hk hK hset hheap hone h2 h3 hv2 hx
  gi_wp2
  exact HK.out
 case body=>
  rintro pre x rest ys W hx hsz ht hi
  refine wpIn_block ?_
  gi_wp2
  exact⟨Turn.refl _ _,hi⟩
 case pan=>
  rintro ch W hf ⟨so,sn,sc,h1,h2,h3⟩ hd hsz
  have hm:Marks D ({ target:=.collected w2.heap.size,args:=#[] }::[]) W:=Marks.cons (base:=D) trivial (by omega) hd (fun e he=>by cases he)
  cases DO with
  | some u=>simp at hf
  | none=>
   obtain rfl:failE=ch:=by simpa using hf
   refine bodyPostM_panic hm (fun w' ht' hs=>.inr ⟨rfl,rfl,?_⟩)
   exact Turn.after h2 ht' (fun b h1 h2=>by have:=h2.1;have:=HD.out;omega)
 case done=>
  rintro hf W ⟨so,sn,sc,h1,h2,h3⟩ hd hsz
  cases DO with
  | none=>simp at hf
  | some u=>
   obtain⟨p2,hp2⟩:=HFL.out u rfl
   have hone:=h3 p2 _ hp2
   have cD:=cell_of_one h1
   have fD:=free_of_one h1
   have hset:Turn (fun b=>b=D) W (W.setCell ⟨D,0,none⟩ (.slice so sn sc)):=Turn.set1 W D 0 _
   have hheap:(W.setCell ⟨D,0,none⟩ (.slice so sn sc)).heap[D]?=some (.cells #[.slice so sn sc] 99 (0,0)):=by
    simp only [World.setCell,Array.getElem?_modify,h1];simp
   have hone2:=one_apart1 hone hset h1
   have hext:=Turn.after h2 hset (fun b hb h=>by have:=HD.out;omega)
   have hm:Marks D ({ target:=.collected w2.heap.size,args:=#[] }::[]) (W.setCell ⟨D,0,none⟩ (.slice so sn sc)):=Marks.cons (base:=D) trivial (by omega) (hset.heap hd (by omega)) (fun e he=>by cases he)
   rw [hs2] at hm
   have HHE:=Lib.hid hheap;have HON:=Lib.hid hone2;have HEX:=Lib.hid hext;have HM:=Lib.hid hm
   clear hheap hone hone2 hext hm hset h1 h2 h3 hp2 hf hd HFL HI2
   go_wp2
   refine leavesM (v:=.slice so sn sc) _ _ HM.out fun w' ht' hs=>⟨results_cell_slice rfl rfl (by kernel_rfl) (ht'.heap HHE.out (Shut.not HHE.out rfl)),⟨_,rfl,?_,?_⟩⟩
   ·obtain⟨ao,c,hq,hw1,hw2⟩:=HON.out
    exact⟨ao,c,hq,⟨Rd.shut ht' hw1.1,hw1.2⟩,hw2⟩
   ·exact Turn.after HEX.out ht' (fun b h1 h2=>by have:=h2.1;have:=HD.out;omega)
 case stop=>exact fun _ _ _ _ _ _ h=>h.elim
end Go.Proofs.YtfdlhlghcbeblaaGreatDoor
set_option maxRecDepth 100000
set_option maxHeartbeats 16000000
namespace Go.Proofs.YtfdlhlghcbeblaaGreatDoor
open Go.RowKit Go.Ab
attribute [local go_sem] Oper.semAt_some wide_fn wide_depth
theorem attf_any{w:World}{DO:Option Wd}{E BL BW BO:Nat}{lo:Option Addr}{n lc:Nat}{vo:Option Addr}{vn vc:Nat}{so:Option Addr}{sn sc:Nat}(hE:w.heap[E]?=some (.cells #[.int .i64 0] 40 (0,0))) (hL:w.heap[BL]?=some (.cells #[.slice lo n lc] 26 (0,0))) (hW:w.heap[BW]?=some (.cells #[.slice vo vn vc] 99 (0,0))) (hO:w.heap[BO]?=some (.cells #[.slice so sn sc] 99 (0,0))) (hne:E≠BO)
  (hc:Calls Tryz.prog 82 #[.slice lo n lc,.slice vo vn vc] w fun e w'=>(∃ u v,DO=some u/\e=.returned v/\OneW w' v u/\Ext w w')\/(DO=none/\e=.panicked failE/\Ext w w')) :
  Calls Tryz.prog 153 #[.pointer (some ⟨E,0,none⟩),.pointer (some ⟨BL,0,none⟩),.pointer (some ⟨BW,0,none⟩),.pointer (some ⟨BO,0,none⟩)] w fun e w'=>e=.returned (.tuple #[])/\Turn (fun b=>b=E\/b=BO) w w' /\
   ∃ so' sn' sc',w'.heap[BO]?=some (.cells #[.slice so' sn' sc'] 99 (0,0))/\((∃ u,DO=some u/\OneW w' (.slice so' sn' sc') u/\w'.heap[E]?=some (.cells #[.int .i64 0] 40 (0,0)))\/(DO=none/\w'.heap[E]?=some (.cells #[.int .i64 11] 40 (0,0)))):=by
 have cL:=cell_of_one hL
 have cW:=cell_of_one hW
 have HEE:=Lib.hid hE;have HOO:=Lib.hid hO;have HC:=Lib.hid hc
 clear hE hL hW hO hc
 go_enter_defers Tryz.func153,Tryz.ntmps153
 go_wp2_with fail
 refine HC.out.mono ?_
 rintro e w2 (⟨u,v,rfl,rfl,hone,hN⟩ | ⟨rfl,rfl,hN⟩)
 ·obtain⟨ao,c,rfl,hw1,hw2⟩:=hone
  have hO2:=hN.keep HOO.out
  have hE2:=hN.keep HEE.out
  have cO:=cell_of_one hO2
  have fO:=free_of_one hO2
  have hset:Turn (fun b=>b=BO) w2 (w2.setCell ⟨BO,0,none⟩ (.slice ao u.length c)):=Turn.set1 w2 BO 0 _
  have hheap:(w2.setCell ⟨BO,0,none⟩ (.slice ao u.length c)).heap[BO]?=some (.cells #[.slice ao u.length c] 99 (0,0)):=by
   simp only [World.setCell,Array.getElem?_modify,hO2];simp
  have hone2:=one_apart1 ⟨ao,c,rfl,hw1,hw2⟩ hset hO2
  have hE3:=hset.heap hE2 hne
  have hT:Turn (fun b=>b=E\/b=BO) w (w2.setCell ⟨BO,0,none⟩ (.slice ao u.length c)):=(Ext.of hN).trans (hset.mono fun b _ h=>.inr h)
  have HHE:=Lib.hid hheap;have HON:=Lib.hid hone2;have HE3:=Lib.hid hE3;have HT:=Lib.hid hT
  clear hheap hone2 hE3 hT hset hO2 hE2 hw1 hw2 hN HC cL cW HEE HOO
  go_wp2
  refine leaves_cons (f:=80) (args:=#[.pointer (some ⟨E,0,none⟩)]) (by simp) (by simp [go_sem]) ?_
  refine(rescue_idle _ _).mono ?_
  rintro e u' w'' ⟨rfl,rfl,rfl⟩
  refine⟨.tuple #[],results_none rfl _ _ _,rfl,HT.out,ao,_,c,HHE.out,.inl ⟨u,rfl,HON.out,HE3.out⟩⟩
 ·have hO2:=hN.keep HOO.out
  have hE2:=hN.keep HEE.out
  have cE:=cell_of_one hE2
  have fE:=free_of_one hE2
  have hset:Turn (fun b=>b=E) w2 (w2.setCell ⟨E,0,none⟩ (.int .i64 11)):=Turn.set1 w2 E 0 _
  have hheap:(w2.setCell ⟨E,0,none⟩ (.int .i64 11)).heap[E]?=some (.cells #[.int .i64 11] 40 (0,0)):=by
   simp only [World.setCell,Array.getElem?_modify,hE2];simp
  have hO3:=hset.heap hO2 (fun h=>hne h.symm)
  have hT:Turn (fun b=>b=E\/b=BO) w (w2.setCell ⟨E,0,none⟩ (.int .i64 11)):=(Ext.of hN).trans (hset.mono fun b _ h=>.inl h)
  have HHE:=Lib.hid hheap;have HO3:=Lib.hid hO3;have HT:=Lib.hid hT
  clear hheap hO3 hT hset hO2 hE2 hN HC cL cW HEE HOO
  go_wp2
  refine leaves_cons (f:=80) (args:=#[.pointer (some ⟨E,0,none⟩)]) (by simp) (by simp [go_sem]) ?_
  refine(rescue_bad _ [] _ 0 cE fE).mono ?_
  rintro e u' w'' ⟨rfl,rfl,rfl⟩
  simp [Leaves,settle,results,Tryz.results153,go_sem]
  exact⟨HT.out,⟨so,sn,sc,HO3.out⟩,HHE.out⟩
end Go.Proofs.YtfdlhlghcbeblaaGreatDoor
set_option maxRecDepth 100000
set_option maxHeartbeats 16000000
namespace Go.Proofs.YtfdlhlghcbeblaaGreatDoor
open Go.RowKit Go.Ab
attribute [local go_sem] Oper.semAt_some wide_fn wide_depth
theorem results_att{fn:Func}{p q:Tmp}{ty:TypeId}(h:fn.results=#[.cell p ty,.tmp q]){tmps:Array Value}{w:World}{g:Nat}{ao:Option Addr}{n c:Nat}{t:TypeId}{x:Value}(hp:tmps.getD p undef=.pointer (some ⟨g,0,none⟩)) (hq:tmps.getD q undef=x) (hu:(Tryz.prog.underlying ty).map (fun d=>match d with | .slice _=>true | _=>false)=some true) (hg:w.heap[g]?=some (.cells #[.slice ao n c] t (0,0))) :
  (results fn tmps).run Tryz.prog w=.ok (.tuple #[.slice ao n c,x]) w:=by
 have hc:=cell_of_one hg
 have hp':tmps[p]?.getD undef=.pointer (some ⟨g,0,none⟩):=by simpa using hp
 have hq':tmps[q]?.getD undef=x:=by simpa using hq
 cases hd:Tryz.prog.underlying ty with
 | none=>simp [hd] at hu
 | some d=>
  cases d with
  | slice e=>simp [results,h,hp',hq',asAddr,loadVar,isAgg,run_underlying hd,go_sem,hc]
  | _=>simp [hd] at hu
theorem attempt_any{w:World}{ps:LawsL}{lo:Option Addr}{n lc:Nat}{vo:Option Addr}{vn vc:Nat}{ws:Wd}(hlaws:LawsAt w (.slice lo n lc) ps) (hn:ps.length=n) (hok:∀ p∈ps,lawB p.1=true) (hw:WordAt w (.slice vo vn vc) ws) (hvn:ws.length=vn) (hwE:wE ws=0) (hT:Tab w) :
  Calls Tryz.prog 110 #[.slice lo n lc,.slice vo vn vc] w fun e w'=>∃ ao an c,e=.returned (.tuple #[.slice ao an c,.bool (derO (ps.map (·.1)) ws).isSome])/\(∀ u,derO (ps.map (·.1)) ws=some u->OneW w' (.slice ao an c) u)/\Ext w w':=by
 have hou:=fun(V:World) (hE:Ext w V)=>outcome_any (hlaws.ext hE) hn hok (hw.ext hE) hvn hwE (hT.keep hE id)
 have HOU:=Lib.hid hou
 clear hou hlaws hn hok hw hvn hwE hT
 obtain⟨DO,hDO⟩:∃ x,derO (ps.map (·.1)) ws=x:=⟨_,rfl⟩
 rw [hDO] at HOU ⊢
 clear hDO
 have hmf:∀(fn:Fn) (first cap:Array Value) (w:World),(Instr.makeFunc fn first cap).run Tryz.prog w=.ok (.func fn first cap) w:=fun _ _ _ _=>rfl
 go_enter Tryz.func110,Tryz.ntmps110
 go_upto_region 2 with (fail)
 obtain⟨w4,hw4⟩:∃ V,(((w.alloc (.cells #[.slice lo n lc] 26)).alloc (.cells #[.slice vo vn vc] 99)).alloc (.cells #[.slice none 0 0] 99)).alloc (.cells #[.int .i64 0] 40)=V:=⟨_,rfl⟩
 have hE4:Ext w w4:=by rw [<-hw4];exact((((Turn.refl _ w).alloc _).alloc _).alloc _).alloc _
 have h0:w4.heap[w.heap.size]?=some (.cells #[.slice lo n lc] 26 (0,0)):=by rw [<-hw4];exact new_keep (new_keep (new_keep (new_at rfl)))
 have h1:w4.heap[w.heap.size+1]?=some (.cells #[.slice vo vn vc] 99 (0,0)):=by rw [<-hw4];exact new_keep (new_keep (new_at (by simp)))
 have h2:w4.heap[w.heap.size+1+1]?=some (.cells #[.slice none 0 0] 99 (0,0)):=by rw [<-hw4];exact new_keep (new_at (by simp))
 have h3:w4.heap[w.heap.size+1+1+1]?=some (.cells #[.int .i64 0] 40 (0,0)):=by rw [<-hw4];exact new_at (by simp)
 rw [hw4]
 obtain⟨B,hB⟩:∃ b,w.heap.size=b:=⟨_,rfl⟩
 rw [hB] at h0 h1 h2 h3 ⊢
 have HB:=Lib.hid hB
 have H0:=Lib.hid h0;have H1:=Lib.hid h1;have H2:=Lib.hid h2;have H3:=Lib.hid h3;have HE4:=Lib.hid hE4
 clear hw4 hB h0 h1 h2 h3 hE4
 go_wp2_with fail
 refine(attf_any H3.out H0.out H1.out H2.out (by omega) (HOU.out w4 HE4.out)).mono ?_
 rintro e w5 ⟨rfl,hT5,so,sn,sc,hO5,hcase⟩
 have hE5:Ext w w5:=Turn.after HE4.out hT5 (fun b hb h=>by have:=HB.out;rcases h with h | h <;> omega)
 have HE5:=Lib.hid hE5;have HO5:=Lib.hid hO5;have HCA:=Lib.hid hcase
 clear hT5 hE5 hO5 hcase HOU H0 H1 H2 H3 HE4
 rcases HCA.out with ⟨u,hdo,hone,he⟩ | ⟨hdo,he⟩
 ·subst hdo
  have HONE:=Lib.hid hone
  clear hone HCA
  have HEE:=Lib.hid he
  go_upto_region 3 with (fail)
  obtain⟨V0,hV⟩:∃ D,w5.drew=D:=⟨_,rfl⟩
  have e0:Ext w5 V0:=by rw [<-hV];exact(Turn.refl _ w5).drew
  have hS0:V0.heap[B+1+1]?=some (.cells #[.slice so sn sc] 99 (0,0))/\V0.heap[B+1+1+1]?=some (.cells #[.int .i64 0] 40 (0,0)):=⟨e0.keep HO5.out,e0.keep HEE.out⟩
  refine wp_region_late (S:=fun D=>D.heap[B+1+1]?=some (.cells #[.slice so sn sc] 99 (0,0))/\D.heap[B+1+1+1]?=some (.cells #[.int .i64 0] 40 (0,0))) [] (by kernel_rfl) (by rw [hV];exact hS0) ?_
  intro _
  rw [hV]
  clear hV
  refine tkE (i:=0) (d:=9) (v:=?_) rfl (Or.inl ⟨by rfl,?_⟩) hS0 ?_
  rotate_left
  ·intro w hSw;(try dsimp only at hSw);have c1:=cell_of_one hSw.1;have c2:=cell_of_one hSw.2;go_simp;try with_reducible rfl
  try simp only [Act.put,pq]
  refine tkE (i:=1) (d:=10) (v:=?_) rfl (Or.inl ⟨by rfl,?_⟩) hS0 ?_
  rotate_left
  ·intro w hSw;(try dsimp only at hSw);have c1:=cell_of_one hSw.1;have c2:=cell_of_one hSw.2;go_simp;try with_reducible rfl
  try simp only [Act.put,pq]
  refine tkE (i:=2) (d:=11) (v:=?_) rfl (Or.inl ⟨by rfl,?_⟩) hS0 ?_
  rotate_left
  ·intro w hSw;(try dsimp only at hSw);have c1:=cell_of_one hSw.1;have c2:=cell_of_one hSw.2;go_simp;try with_reducible rfl
  try simp only [Act.put,pq]
  have c1:=cell_of_one hS0.1
  have f1:=free_of_one hS0.1
  have hset:Turn (fun b=>b=B+1+1) V0 (V0.setCell ⟨B+1+1,0,none⟩ (.slice so sn sc)):=Turn.set1 V0 (B+1+1) 0 _
  have hS1:(V0.setCell ⟨B+1+1,0,none⟩ (.slice so sn sc)).heap[B+1+1]?=some (.cells #[.slice so sn sc] 99 (0,0))/\(V0.setCell ⟨B+1+1,0,none⟩ (.slice so sn sc)).heap[B+1+1+1]?=some (.cells #[.int .i64 0] 40 (0,0)):=⟨by simp only [World.setCell,Array.getElem?_modify,hS0.1];simp,hset.heap hS0.2 (by omega)⟩
  have HS1:=Lib.hid hS1;have HSET:=Lib.hid hset;have HE0:=Lib.hid e0;have HS0:=Lib.hid hS0
  clear hS1 hset e0 hS0
  refine wpAnyE_ready (rs:=[3]) (by kernel_rfl) (by simp) ?_
  refine AllReadyE.cons rfl (fun K hK=>?_) AllReadyE.nil
  (try rw [if_pos (show Region.wanted _ _=true from rfl)])
  go_simp
  refine hK.out _ _ HS1.out (fun _=>?_)
  clear hK K
  (try simp only [Act.put,pq])
  refine tkE (i:=4) (d:=5) (v:=?_) rfl (Or.inl ⟨by rfl,?_⟩) HS1.out ?_
  rotate_left
  ·intro w hSw;(try dsimp only at hSw);have c1:=cell_of_one hSw.1;have c2:=cell_of_one hSw.2;go_simp;try with_reducible rfl
  try simp only [Act.put,pq]
  refine wpAnyE_done (by kernel_rfl) ?_ _
  go_wp2
  have hone2:=one_apart1 ((HONE.out).ext HE0.out) HSET.out HS0.out.1
  refine bodyPost_ret (results_att rfl rfl rfl (by kernel_rfl) HS1.out.1) rfl ⟨so,sn,sc,rfl,fun u2 h2=>?_,?_⟩
  ·cases h2;exact hone2
  ·exact Turn.after (HE5.out.trans HE0.out) HSET.out (fun b hb h=>by have:=HB.out;omega)
 ·subst hdo
  clear HCA
  have HEE:=Lib.hid he
  go_upto_region 3 with (fail)
  obtain⟨V0,hV⟩:∃ D,w5.drew=D:=⟨_,rfl⟩
  have e0:Ext w5 V0:=by rw [<-hV];exact(Turn.refl _ w5).drew
  have hS0:V0.heap[B+1+1]?=some (.cells #[.slice so sn sc] 99 (0,0))/\V0.heap[B+1+1+1]?=some (.cells #[.int .i64 11] 40 (0,0)):=⟨e0.keep HO5.out,e0.keep HEE.out⟩
  refine wp_region_late (S:=fun D=>D.heap[B+1+1]?=some (.cells #[.slice so sn sc] 99 (0,0))/\D.heap[B+1+1+1]?=some (.cells #[.int .i64 11] 40 (0,0))) [] (by kernel_rfl) (by rw [hV];exact hS0) ?_
  intro _
  rw [hV]
  clear hV
  refine tkE (i:=0) (d:=9) (v:=?_) rfl (Or.inl ⟨by rfl,?_⟩) hS0 ?_
  rotate_left
  ·intro w hSw;(try dsimp only at hSw);have c1:=cell_of_one hSw.1;have c2:=cell_of_one hSw.2;go_simp;try with_reducible rfl
  try simp only [Act.put,pq]
  refine tkE (i:=1) (d:=10) (v:=?_) rfl (Or.inl ⟨by rfl,?_⟩) hS0 ?_
  rotate_left
  ·intro w hSw;(try dsimp only at hSw);have c1:=cell_of_one hSw.1;have c2:=cell_of_one hSw.2;go_simp;try with_reducible rfl
  try simp only [Act.put,pq]
  refine tkE (i:=2) (d:=11) (v:=?_) rfl (Or.inl ⟨by rfl,?_⟩) hS0 ?_
  rotate_left
  ·intro w hSw;(try dsimp only at hSw);have c1:=cell_of_one hSw.1;have c2:=cell_of_one hSw.2;go_simp;try with_reducible rfl
  try simp only [Act.put,pq]
  have c1:=cell_of_one hS0.1
  have f1:=free_of_one hS0.1
  have hset:Turn (fun b=>b=B+1+1) V0 (V0.setCell ⟨B+1+1,0,none⟩ (.slice so sn sc)):=Turn.set1 V0 (B+1+1) 0 _
  have hS1:(V0.setCell ⟨B+1+1,0,none⟩ (.slice so sn sc)).heap[B+1+1]?=some (.cells #[.slice so sn sc] 99 (0,0))/\(V0.setCell ⟨B+1+1,0,none⟩ (.slice so sn sc)).heap[B+1+1+1]?=some (.cells #[.int .i64 11] 40 (0,0)):=⟨by simp only [World.setCell,Array.getElem?_modify,hS0.1];simp,hset.heap hS0.2 (by omega)⟩
  have HS1:=Lib.hid hS1;have HSET:=Lib.hid hset;have HE0:=Lib.hid e0;have HS0:=Lib.hid hS0
  clear hS1 hset e0 hS0
  refine wpAnyE_ready (rs:=[3]) (by kernel_rfl) (by simp) ?_
  refine AllReadyE.cons rfl (fun K hK=>?_) AllReadyE.nil
  (try rw [if_pos (show Region.wanted _ _=true from rfl)])
  go_simp
  refine hK.out _ _ HS1.out (fun _=>?_)
  clear hK K
  (try simp only [Act.put,pq])
  refine tkE (i:=4) (d:=5) (v:=?_) rfl (Or.inl ⟨by rfl,?_⟩) HS1.out ?_
  rotate_left
  ·intro w hSw;(try dsimp only at hSw);have c1:=cell_of_one hSw.1;have c2:=cell_of_one hSw.2;go_simp;try with_reducible rfl
  try simp only [Act.put,pq]
  refine wpAnyE_done (by kernel_rfl) ?_ _
  go_wp2
  refine bodyPost_ret (results_att rfl rfl rfl (by kernel_rfl) HS1.out.1) rfl ⟨so,sn,sc,rfl,fun u2 h2=>(by cases h2),?_⟩
  exact Turn.after (HE5.out.trans HE0.out) HSET.out (fun b hb h=>by have:=HB.out;omega)
end Go.Proofs.YtfdlhlghcbeblaaGreatDoor
set_option maxRecDepth 100000
set_option maxHeartbeats 8000000
namespace Go.Proofs.YtfdlhlghcbeblaaGreatDoor
open Go.RowKit Go.Ab
attribute [local go_sem] Oper.semAt_some wide_fn wide_depth
theorem dcheck_one{w:World}{ps:LawsL}{lo:Option Addr}{n lc:Nat}{vo:Option Addr}{vn vc:Nat}{ws:Wd}{g:Nat}(hl:LawsAt w (.slice lo n lc) ps) (hn:ps.length=n) (hw:WordAt w (.slice vo vn vc) ws) (hg:w.heap[g]?=some (.cells #[.slice vo vn vc] 99 (0,0))) (hT:Tab w) :
  Calls Tryz.prog 79 #[.slice lo n lc,.slice (some ⟨g,0,none⟩) 1 1] w fun e w'=>e=.returned (.int .i64 (lwsE (ps.map (·.1)) ws))/\Ext w w':=by
 have hck:=fun(V:World) (hE:Ext w V)=>dCheck_any (hl.ext hE) hn (hT.keep hE id)
 have hwk:=fun(V:World) (hE:Ext w V)=>wcheck_any (hw.ext hE)
 unfold lwsE
 obtain⟨LE,hLE⟩:∃ x,lawsE (ps.map (·.1))=x:=⟨_,rfl⟩
 obtain⟨WE,hWE⟩:∃ x,wE ws=x:=⟨_,rfl⟩
 simp only [hLE] at hck
 simp only [hWE] at hwk
 rw [hLE,hWE]
 obtain⟨RE,hRE⟩:∃ x,(if LE=0 then WE else LE)=x:=⟨_,rfl⟩
 have hr1:LE≠0->RE=LE:=fun h=>by rw [<-hRE,if_neg h]
 have hr2:LE=0->RE=WE:=fun h=>by rw [<-hRE,if_pos h]
 rw [hRE]
 have HR1:=Lib.hid hr1;have HR2:=Lib.hid hr2
 clear hRE hr1 hr2
 have HCK:=Lib.hid hck;have HWK:=Lib.hid hwk;have HG:=Lib.hid hg
 clear hck hwk hLE hWE hl hn hw hg hT
 go_enter Tryz.func79,Tryz.ntmps79
 go_wp2_with fail
 refine(HCK.out _ (Turn.refl _ _)).mono ?_
 rintro e w2 ⟨rfl,hE2⟩
 by_cases h0:LE=0
 case neg=>
  have h9:(LE != 0)=true:=by rw [bne_iff_ne];exact h0
  have hre:LE=RE:=(HR1.out h0).symm
  subst hre
  clear HCK HWK HG
  go_wp2
  go_ret
  exact⟨rfl,hE2⟩
 subst h0
 have hre:WE=RE:=(HR2.out (by first | trivial | rfl)).symm
 subst hre
 have HE2:=Lib.hid hE2
 clear hE2 HCK
 go_wp2
 refine wp_loop (fun a W=>∃(k:Nat),k<=1/\a.defers=[]/\(a.tmps.size=29/\a.tmps.getD 17 undef=.slice (some ⟨g,0,none⟩) 1 1/\a.tmps.getD 18 undef=.int .i64 1/\a.tmps.getD 19 undef=.int .i64 k)/\(k=1->WE=0)/\Ext w W)
  (fun a _=>(1 - intOf (a.tmps.getD 19 undef)).toNat) ?_ ?_
 ·exact⟨0,by omega,rfl,⟨rfl,rfl,rfl,rfl⟩,fun h=>by omega,HE2.out⟩
 clear HE2
 rintro⟨t,_⟩ W ⟨k,hk,hds,⟨hsz,f17,f18,f19⟩,hall,hE⟩
 subst hds
 obtain⟨u',hu⟩:=frame_fun hsz
 obtain⟨u,rfl⟩:∃ x,x=u':=⟨_,rfl⟩
 have hu':t=#[u 0,u 1,u 2,u 3,u 4,u 5,u 6,u 7,u 8,u 9,u 10,u 11,u 12,u 13,u 14,u 15,u 16,u 17,u 18,u 19,u 20,u 21,u 22,u 23,u 24,u 25,u 26,u 27,u 28]:=hu
 clear hu
 subst hu'
 change u 17=_ at f17
 change u 18=_ at f18
 change u 19=_ at f19
 rw [f17,f18,f19]
 clear f17 f18 f19 hsz
 by_cases hk0:k=0
 case neg=>
  obtain rfl:k=1:=by omega
  have hw0:=hall rfl
  subst hw0
  clear hall HWK HG hk0
  go_wp2
  go_ret
  exact⟨rfl,hE⟩
 subst hk0
 clear hall
 have hgW:=hE.keep HG.out
 have cG:=cell_of_one hgW
 have HE:=Lib.hid hE
 clear hE hgW
 go_wp2_with fail
 refine(HWK.out _ HE.out).mono ?_
 rintro e W2 ⟨rfl,hN⟩
 have HE2:=Lib.hid (HE.out.trans hN)
 clear hN HE cG HWK HG
 by_cases h1:WE=0
 case neg=>
  have h9:(WE != 0)=true:=by rw [bne_iff_ne];exact h1
  go_wp2
  go_ret
  exact⟨rfl,HE2.out⟩
 subst h1
 go_wp2
 exact⟨⟨1,by omega,by first | rfl | trivial,⟨rfl,rfl,rfl,rfl⟩,fun _=>by first | trivial | rfl,HE2.out⟩,by simp [intOf]⟩
theorem oneW_nil(W:World):OneW W (.slice none 0 0) []:=⟨none,0,rfl,⟨⟨rfl,by simp [maxLen],none,0,rfl,fun h=>by simp at h⟩,by simp [WdOk]⟩,Nat.le_refl _⟩
theorem derive_any{w:World}{ps:LawsL}{lo:Option Addr}{n lc:Nat}{vo:Option Addr}{vn vc:Nat}{ws:Wd}(hl:LawsAt w (.slice lo n lc) ps) (hn:ps.length=n) (hw:WordAt w (.slice vo vn vc) ws) (hvn:ws.length=vn) (hT:Tab w) :
  Calls Tryz.prog 61 #[.slice lo n lc,.slice vo vn vc] w fun e w'=>∃ v,e=.returned (.tuple #[v,.int .i64 (derE (ps.map (·.1)) ws)])/\OneW w' v (derW (ps.map (·.1)) ws)/\Ext w w':=by
 have hck:=fun(V:World) (hE:Ext w V) (g:Nat) (hg:V.heap[g]?=some (.cells #[.slice vo vn vc] 99 (0,0)))=>dcheck_one (hl.ext hE) hn (hw.ext hE) hg (hT.keep hE id)
 have hat:=fun(V:World) (hE:Ext w V) (hok:∀ p∈ps,lawB p.1=true) (hwE:wE ws=0)=>attempt_any (hl.ext hE) hn hok (hw.ext hE) hvn hwE (hT.keep hE id)
 have hz:lwsE (ps.map (·.1)) ws=0->(∀ p∈ps,lawB p.1=true)/\wE ws=0:=fun h=>by
  unfold lwsE at h
  split at h
  ·rename_i h0
   unfold lawsE at h0
   split at h0
   ·cases h0
   ·split at h0
    ·rename_i h1
     rw [List.all_map,List.all_eq_true] at h1
     exact⟨h1,h⟩
    ·cases h0
  ·contradiction
 have hbad:=@derE_bad (ps.map (·.1)) ws
 have hnone:=@derE_none (ps.map (·.1)) ws
 have hsome:=fun v=>@derE_some (ps.map (·.1)) ws v
 obtain⟨E0,hq⟩:∃ x,lwsE (ps.map (·.1)) ws=x:=⟨_,rfl⟩
 simp only [hq] at hck hz hbad hnone hsome
 clear hq
 obtain⟨DO,hq⟩:∃ x,derO (ps.map (·.1)) ws=x:=⟨_,rfl⟩
 simp only [hq] at hat hnone hsome
 clear hq
 obtain⟨DE,hq⟩:∃ x,derE (ps.map (·.1)) ws=x:=⟨_,rfl⟩
 simp only [hq] at hbad hnone hsome ⊢
 clear hq
 obtain⟨DW,hq⟩:∃ x,derW (ps.map (·.1)) ws=x:=⟨_,rfl⟩
 simp only [hq] at hbad hnone hsome ⊢
 clear hq
 have HCK:=Lib.hid hck;have HAT:=Lib.hid hat;have HZ:=Lib.hid hz;have HBAD:=Lib.hid hbad;have HNONE:=Lib.hid hnone;have HSOME:=Lib.hid hsome
 clear hck hat hz hbad hnone hsome hl hn hw hvn hT
 go_enter Tryz.func61,Tryz.ntmps61
 go_wp2_with fail
 obtain⟨w1,hw1⟩:∃ V,w.alloc (.cells #[.slice vo vn vc] 99)=V:=⟨_,rfl⟩
 have hE1:Ext w w1:=by rw [<-hw1];exact(Turn.refl _ w).alloc _
 have hg1:w1.heap[w.heap.size]?=some (.cells #[.slice vo vn vc] 99 (0,0)):=by rw [<-hw1];exact new_at rfl
 rw [hw1]
 refine(HCK.out w1 hE1 w.heap.size hg1).mono ?_
 rintro e w2 ⟨rfl,hE2⟩
 have HE2:=Lib.hid (hE1.trans hE2)
 clear hw1 hg1 hE1 hE2 HCK
 by_cases h0:E0=0
 case neg=>
  have h9:(E0 != 0)=true:=by rw [bne_iff_ne];exact h0
  obtain⟨rfl,rfl⟩:=HBAD.out h0
  clear HAT HZ HBAD HNONE HSOME
  go_wp2
  go_ret2
  exact⟨_,rfl,oneW_nil _,HE2.out⟩
 subst h0
 obtain⟨z1,z2⟩:=HZ.out (by first | trivial | rfl)
 have hat:=HAT.out w2 HE2.out z1 z2
 have HA:=Lib.hid hat
 clear hat z1 z2 HAT HZ HBAD
 go_wp2_with fail
 refine HA.out.mono ?_
 rintro e w3 ⟨ao,an,c,rfl,hone,hN⟩
 have HE3:=Lib.hid (HE2.out.trans hN);have HON:=Lib.hid hone
 clear hN hone HA HE2
 cases DO with
 | none=>
  obtain⟨rfl,rfl⟩:=HNONE.out (by first | trivial | rfl) rfl
  clear HNONE HSOME HON
  go_wp2
  go_ret2
  exact⟨_,rfl,oneW_nil _,HE3.out⟩
 | some u=>
  obtain⟨rfl,rfl⟩:=HSOME.out u (by first | trivial | rfl) rfl
  have hu:=HON.out _ rfl
  have HU:=Lib.hid hu
  clear HNONE HSOME HON hu
  go_wp2
  go_ret2
  exact⟨_,rfl,HU.out,HE3.out⟩
end Go.Proofs.YtfdlhlghcbeblaaGreatDoor
