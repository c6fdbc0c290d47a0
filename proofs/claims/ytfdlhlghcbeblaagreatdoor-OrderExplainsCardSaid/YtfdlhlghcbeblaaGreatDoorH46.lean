/- ablautlaw14.by. -/
import Derived.Test.YtfdlhlghcbeblaaGreatDoorH35
import Derived.Test.YtfdlhlghcbeblaaGreatDoorH45
import Derived.Test.YtfdlhlghcbeblaaGreatDoorH40
set_option maxRecDepth 100000
set_option maxHeartbeats 16000000
namespace Go.Proofs.YtfdlhlghcbeblaaGreatDoor
open Go.RowKit Go.Ab
attribute [local go_sem] Oper.semAt_some wide_fn wide_depth
def byTo(B:List Bool)(k:Nat):Int:=if B.findIdx (fun b=>!b)<k then(B.findIdx (fun b=>!b):Nat) else -1
theorem byTo_zero(B:List Bool):byTo B 0=-1:=by simp [byTo]
theorem byTo_true{B:List Bool}{k:Nat}(hk:k<B.length)(h:B[k]=true):byTo B (k+1)=byTo B k:=by
 unfold byTo
 have:B.findIdx (fun b=>!b)≠k:=fun e=>by
  have h1:B.findIdx (fun b=>!b)<B.length:=by omega
  have h2:=List.findIdx_getElem (p:=fun b=>!b) (w:=h1)
  simp only [e,h] at h2
  cases h2
 by_cases h1:B.findIdx (fun b=>!b)<k
 ·rw [if_pos h1,if_pos (by omega)]
 ·rw [if_neg h1,if_neg (by omega)]
theorem byTo_false{B:List Bool}{k:Nat}(hk:k<B.length)(h:B[k]=false):byTo B (k+1)=if byTo B k<0 then(k:Int) else byTo B k:=by
 unfold byTo
 by_cases h1:B.findIdx (fun b=>!b)<k
 ·rw [if_pos h1,if_pos (by omega),if_neg (by omega)]
 ·have h2:B.findIdx (fun b=>!b)<=k:=by
   apply Nat.le_of_not_lt
   intro h3
   have:=List.not_of_lt_findIdx h3
   simp [h] at this
  rw [if_neg h1,if_pos (by omega),if_pos (by decide)]
  omega
theorem byTo_all{ps:LawsL}{qs:PairsL}{ol:List Nat}:byTo (explsR ps ol qs) qs.length=byI ps ol qs:=by
 have hl:(explsR ps ol qs).length=qs.length:=by unfold explsR;rw [List.length_map]
 have hle:(explsR ps ol qs).findIdx (fun b=>!b)<=(explsR ps ol qs).length:=List.findIdx_le_length
 unfold byTo byI firstR
 by_cases h:(explsR ps ol qs).findIdx (fun b=>!b)=qs.length
 ·rw [if_neg (by omega),if_pos h]
 ·rw [if_pos (by omega),if_neg h]
theorem byTo_lt(B:List Bool)(k:Nat):-1<=byTo B k/\byTo B k<k:=by
 unfold byTo
 split <;> omega
theorem oby_any{w:World}{ps:LawsL}{qs:PairsL}{lo:Option Addr}{n lc:Nat}{xo:Option Addr}{on xc:Nat}{ol:List Nat}{po:Option Addr}{m pc:Nat}(hl:LawsAt w (.slice lo n lc) ps) (hn:ps.length=n) (ho:Rd w (.slice xo on xc) on 1 (natV ol)) (hon:ol.length=on) (hx:∀ x∈ol,x<n) (hsm:on<=1000) (hp:PairsAt w (.slice po m pc) qs) (hm:qs.length=m) (hT:Tab w) :
  Calls Tryz.prog 51 #[.slice lo n lc,.slice xo on xc,.slice po m pc] w fun e w'=>e=.returned (.tuple #[.int .i64 (cntR ps qs ol:Nat),.int .i64 (byI ps ol qs)])/\Ext w w':=by
 have hlen:=putL_len (ps:=ps) (ol:=ol) fun x h=>by rw [hn];exact hx x h
 have hmm:m<=maxLen:=by rw [<-hm];exact hp.1.2.1
 unfold maxLen at hmm
 have hder:=fun(V:World) (ao:Option Addr) (c:Nat) (hE:Ext w V) (hO:Rd V (.slice ao on c) on 18 ((putL' ps ol).flatMap (·.2))) (D:World) (hD:Ext V D) (vo:Option Addr) (vc:Nat) (u:Wd) (hf:WordAt D (.slice vo u.length vc) u)=>derive_any (w:=D) (ps:=putL' ps ol) (lo:=ao) (n:=on) (lc:=c) ⟨by rw [hlen,hon];exact hO.ext hD,fun p hp=>(hl.2 p (putL_mem hp)).ext (hE.trans hD)⟩ (by rw [hlen,hon]) hf rfl (hT.keep (hE.trans hD) id)
 obtain⟨B,hB⟩:∃ B,explsR ps ol qs=B:=⟨_,rfl⟩
 have hBl:B.length=m:=by rw [<-hB];unfold explsR;rw [List.length_map,hm]
 have hBk:∀ k (hk:k<qs.length),∃ h:k<B.length,B[k]=(decide (derE ((putL' ps ol).map (·.1)) qs[k].1.1=0) && decide (derW ((putL' ps ol).map (·.1)) qs[k].1.1=qs[k].1.2)):=fun k hk=>by subst hB;exact⟨by unfold explsR;rw [List.length_map];exact hk,by unfold explsR explR;rw [List.getElem_map]⟩
 have hcc:cntR ps qs ol=B.countP id:=by unfold cntR;rw [hB]
 have hbi:byI ps ol qs=byTo B m:=by rw [<-byTo_all,hB,hm]
 rw [hcc,hbi]
 obtain⟨PL,hPL⟩:∃ l,(putL' ps ol).map (·.1)=l:=⟨_,rfl⟩
 simp only [hPL] at hder hBk
 have hb0:=byTo_zero B
 have hb1:=fun k (hk:k<B.length) (h:B[k]=true)=>byTo_true hk h
 have hb2:=fun k (hk:k<B.length) (h:B[k]=false)=>byTo_false hk h
 have hc1:=fun k (hk:k<B.length)=>cntTo_succ hk
 have hbl:=byTo_lt B
 have HD:=Lib.hid hder;have HL:=Lib.hid hl;have HN:=Lib.hid hn;have HO:=Lib.hid ho;have HON:=Lib.hid hon;have HX:=Lib.hid hx;have HP:=Lib.hid hp;have HM:=Lib.hid hm;have HBLN:=Lib.hid hBl;have HBK:=Lib.hid hBk;have HB0:=Lib.hid hb0;have HB1:=Lib.hid hb1;have HB2:=Lib.hid hb2;have HC1:=Lib.hid hc1;have HBLT:=Lib.hid hbl
 clear hder hl hn ho hon hx hp hm hBl hBk hb0 hb1 hb2 hc1 hbl hcc hbi hB hPL hT hlen
 go_enter Tryz.func51,Tryz.ntmps51
 obtain⟨X,hX⟩:∃ b,w.heap.size=b:=⟨_,rfl⟩
 have HX0:=Lib.hid hX
 clear hX
 go_wp2
 refine wp_loop (fun a W=>∃(k:Nat) (ao:Option Addr) (c:Nat),k<=on/\a.defers=[]/\(a.tmps.size=65/\a.tmps.getD 0 undef=.slice lo n lc/\a.tmps.getD 1 undef=.slice xo on xc/\a.tmps.getD 2 undef=.slice po m pc/\a.tmps.getD 8 undef=.slice ao k c/\a.tmps.getD 9 undef=.int .i64 k)/\W.ownsRow X 102 18 (.slice ao k c) k ((putL' ps (ol.take k)).flatMap (·.2))/\Ext w W)
  (fun a _=>((on:Int) - intOf (a.tmps.getD 9 undef)).toNat) ?_ ?_
 ·exact⟨0,_,_,by omega,rfl,⟨rfl,rfl,rfl,rfl,rfl,rfl⟩,World.ownsRow_nil _ _ _ _,Turn.refl _ _⟩
 rintro⟨t,_⟩ W ⟨k,ao,c,hk,hds,⟨hsz,f0,f1,f2,f8,f9⟩,hO,hE⟩
 subst hds
 obtain⟨u',hu⟩:=frame_fun hsz
 obtain⟨u,rfl⟩:∃ x,x=u':=⟨_,rfl⟩
 have hu':t=#[u 0,u 1,u 2,u 3,u 4,u 5,u 6,u 7,u 8,u 9,u 10,u 11,u 12,u 13,u 14,u 15,u 16,u 17,u 18,u 19,u 20,u 21,u 22,u 23,u 24,u 25,u 26,u 27,u 28,u 29,u 30,u 31,u 32,u 33,u 34,u 35,u 36,u 37,u 38,u 39,u 40,u 41,u 42,u 43,u 44,u 45,u 46,u 47,u 48,u 49,u 50,u 51,u 52,u 53,u 54,u 55,u 56,u 57,u 58,u 59,u 60,u 61,u 62,u 63,u 64]:=hu
 clear hu
 subst hu'
 change u 0=_ at f0
 change u 1=_ at f1
 change u 2=_ at f2
 change u 8=_ at f8
 change u 9=_ at f9
 rw [f0,f1,f2,f8,f9]
 clear f0 f1 f2 f8 f9 hsz
 have HR:=Lib.hid hO;have HE:=Lib.hid hE
 clear hO hE
 by_cases hkN:k<on
 case pos=>
  have h1:(k:Int)<(on:Int):=by omega
  have h0:(0:Int)<=(k:Int):=by omega
  have hkl:k<ol.length:=by rw [HON.out];exact hkN
  obtain⟨go',offo,co,hoq,hgo,hco⟩:=rd_at_1 (HO.out.ext HE.out) hkN
  simp only [Value.slice.injEq] at hoq
  obtain⟨rfl,hoq2,rfl⟩:=hoq
  have hnv:(natV ol).getD k undef=.int .i64 (ol[k]:Int):=by unfold natV;rw [List.getD_eq_getElem?_getD,List.getElem?_map,List.getElem?_eq_getElem hkl];rfl
  rw [hnv] at hco
  have hxn:ol[k]<n:=HX.out _ (List.getElem_mem hkl)
  have hxp:ol[k]<ps.length:=by rw [HN.out];exact hxn
  have hsu:=putL_succ hkl hxp
  obtain⟨g,off,c9,hq,hg,hrg,hla,h18⟩:=(HL.out.ext HE.out).at hxp
  simp only [Value.slice.injEq] at hq
  obtain⟨rfl,hq2,rfl⟩:=hq
  obtain⟨x,hxe⟩:∃ x,ol[k]=x:=⟨_,rfl⟩
  simp only [hxe] at hco hxn hsu hrg hla h18
  obtain⟨p,hpe⟩:∃ p,ps[x]'(by rw [<-hxe];exact hxp)=p:=⟨_,rfl⟩
  rw [hpe] at hsu hrg hla h18
  obtain⟨pl,pcs⟩:=p
  dsimp only at hsu hrg hla h18
  obtain⟨nm,k1,p1,m1,n1,a1,b1,o1,N1,c1,k2,p2,m2,n2,a2,b2,o2,N2,c2,io,N3,ic,oo,N4,oc,md,rfl,HLA,HPL,HPR,HIF,HOU,HNM,HN1,HN2,HN3,HN4,HMD,q0,q1,q2,q3,q4⟩:=law_gen hla
  have hsf:(putL' ps (ol.take (k+1))).flatMap (·.2)=(putL' ps (ol.take k)).flatMap (·.2)++[.string nm,.int .i64 k1,.int .u32 (p1:Int),.int .u32 (m1:Int),.bool n1,.int .i64 a1,.int .i64 b1,.slice o1 N1 c1,.int .i64 k2,.int .u32 (p2:Int),.int .u32 (m2:Int),.bool n2,.int .i64 a2,.int .i64 b2,.slice o2 N2 c2,.slice io N3 ic,.slice oo N4 oc,.int .i64 md]:=by rw [hsu,List.flatMap_append];simp
  have HSF:=Lib.hid hsf;have HRG:=Lib.hid hrg;have HCO:=Lib.hid hco
  have hx0:(0:Int)<=(x:Int):=by omega
  have hx1:(x:Int)<(n:Int):=by omega
  have hwB:=HE.out.size
  clear hsu hsf hrg hla h18 hpe hxe hxp hnv hoq2 hq2 hg hgo HPL HPR HIF HOU HLA HNM HN1 HN2 HN3 HN4 HMD
  have hO2:=own_ext HR.out ((Turn.refl _ W).alloc (.cells #[.string nm,.int .i64 k1,.int .u32 (p1:Int),.int .u32 (m1:Int),.bool n1,.int .i64 a1,.int .i64 b1,.slice o1 N1 c1,.int .i64 k2,.int .u32 (p2:Int),.int .u32 (m2:Int),.bool n2,.int .i64 a2,.int .i64 b2,.slice o2 N2 c2,.slice io N3 ic,.slice oo N4 oc,.int .i64 md] 102))
  have HO2:=Lib.hid hO2
  have hco:=HCO.out
  have hXB:X<=W.heap.size:=by have:=HE.out.size;have:=HX0.out;omega
  clear hO2
  go_wp2_with (first | (at_builtin;refine append_row rfl (.tmp 21) (.tmp 29) 26 rfl X 102 _ 18 200 Tryz.underlying26 infoLawG rfl (by decide) _ _ _ rfl HO2.out ⟨W.heap.size,0,none⟩ 1 1 [.string nm,.int .i64 k1,.int .u32 (p1:Int),.int .u32 (m1:Int),.bool n1,.int .i64 a1,.int .i64 b1,.slice o1 N1 c1,.int .i64 k2,.int .u32 (p2:Int),.int .u32 (m2:Int),.bool n2,.int .i64 a2,.int .i64 b2,.slice o2 N2 c2,.slice io N3 ic,.slice oo N4 oc,.int .i64 md] rfl rfl (new_cells' rfl) ?c2 ?c3 ?c4 ?c5 ?_) | (refine wpList_load_at (by rfl) 102 (.tmp 27) rfl g (off+x*18) (by first | rfl | simp) _ _ HRG.out Tryz.underlying102 rfl (by kernel_rfl) ?_))
  case c2=>first | (repeat (first | rfl | refine⟨rfl,?_⟩)) | (intro y hy;simp only [List.mem_cons,List.not_mem_nil,or_false] at hy;rcases hy with rfl | rfl | rfl | rfl | rfl | rfl | rfl | rfl | rfl | rfl | rfl | rfl | rfl | rfl | rfl | rfl | rfl | rfl <;> rfl)
  case c3=>unfold maxLen;omega
  case c4=>omega
  case c5=>first | omega | (simp;omega)
  intro ao5 c5 w5 hO5 hT5 _
  have hT6:Turn (fun b'=>(Value.slice ao k c).ownBlock=some b') W w5:=Turn.trans (Turn.alloc (Turn.refl _ W) _) hT5
  have hE5:=HE.out.after hT6 (fun b' h1 e=>by have:=(HR.out.lt _ e).1;have:=HX0.out;omega)
  rw [<-HSF.out] at hO5
  have HO5:=Lib.hid hO5;have HE5:=Lib.hid hE5
  clear hO5 hE5 hT5 hT6 HO2 HR HE HRG HCO hco HSF
  go_wp2
  exact⟨⟨k+1,_,_,by omega,by first | rfl | trivial,⟨rfl,rfl,rfl,rfl,rfl,rfl⟩,HO5.out,HE5.out⟩,by first | (simp [intOf];done) | (simp [intOf];omega)⟩
 obtain rfl:k=on:=by omega
 have h1:¬ (k:Int)<(k:Int):=by omega
 have hrd:=Rd.of_own HR.out
 rw [List.take_of_length_le (by rw [HON.out];exact Nat.le_refl _)] at hrd
 have HDD:=Lib.hid (HD.out W ao c HE.out hrd)
 clear hrd HD HL HN HO HON HX HR
 go_wp2
 refine wp_loop (fun a V=>∃(j:Nat),j<=m/\a.defers=[]/\(a.tmps.size=65/\a.tmps.getD 2 undef=.slice po m pc/\a.tmps.getD 8 undef=.slice ao k c/\a.tmps.getD 10 undef=.int .i64 ((B.take j).countP id:Nat)/\a.tmps.getD 11 undef=.int .i64 (byTo B j)/\a.tmps.getD 12 undef=.int .i64 j)/\Ext W V)
  (fun a _=>((m:Int) - intOf (a.tmps.getD 12 undef)).toNat) ?_ ?_
 ·exact⟨0,by omega,rfl,⟨rfl,rfl,rfl,by simp,by rw [HB0.out];rfl,rfl⟩,Turn.refl _ _⟩
 rintro⟨t,_⟩ V ⟨j,hj,hds,⟨hsz,f2,f8,f10,f11,f12⟩,hEV⟩
 subst hds
 obtain⟨u',hu⟩:=frame_fun hsz
 obtain⟨u,rfl⟩:∃ x,x=u':=⟨_,rfl⟩
 have hu':t=#[u 0,u 1,u 2,u 3,u 4,u 5,u 6,u 7,u 8,u 9,u 10,u 11,u 12,u 13,u 14,u 15,u 16,u 17,u 18,u 19,u 20,u 21,u 22,u 23,u 24,u 25,u 26,u 27,u 28,u 29,u 30,u 31,u 32,u 33,u 34,u 35,u 36,u 37,u 38,u 39,u 40,u 41,u 42,u 43,u 44,u 45,u 46,u 47,u 48,u 49,u 50,u 51,u 52,u 53,u 54,u 55,u 56,u 57,u 58,u 59,u 60,u 61,u 62,u 63,u 64]:=hu
 clear hu
 subst hu'
 change u 2=_ at f2
 change u 8=_ at f8
 change u 10=_ at f10
 change u 11=_ at f11
 change u 12=_ at f12
 rw [f2,f8,f10,f11,f12]
 clear f2 f8 f10 f11 f12 hsz
 have HEV:=Lib.hid hEV
 clear hEV
 have hcle:(B.take j).countP id<=j:=Nat.le_trans List.countP_le_length (by rw [List.length_take];omega)
 have hbl:=HBLT.out j
 by_cases hjm:j<m
 case neg=>
  obtain rfl:j=m:=by omega
  have h2:¬ (j:Int)<(j:Int):=by omega
  rw [List.take_of_length_le (by rw [HBLN.out];exact Nat.le_refl _)] at hcle ⊢
  obtain⟨C0,hC0⟩:∃ c,B.countP id=c:=⟨_,rfl⟩
  obtain⟨D0,hD0⟩:∃ c,byTo B j=c:=⟨_,rfl⟩
  rw [hC0,hD0]
  have HC9:=Lib.hid hC0;have HD9:=Lib.hid hD0
  clear HDD HP HM HBLN HBK HB0 HB1 HB2 HC1 HBLT hbl hC0 hD0 hcle
  go_wp2
  go_ret2
  exact⟨by rw [HC9.out,HD9.out];rfl,HE.out.trans HEV.out⟩
 have h2:(j:Int)<(m:Int):=by omega
 have hj0:(0:Int)<=(j:Int):=by omega
 have hjq:j<qs.length:=by rw [HM.out];exact hjm
 obtain⟨hjB,hBe⟩:=HBK.out j hjq
 have hsu:=HC1.out j hjB
 have hb1:=HB1.out j hjB
 have hb2:=HB2.out j hjB
 obtain⟨g,off,c',hq,hrg,⟨u,v,hcs,hu,hv⟩,zz2⟩:=StrAt.at (pairs_ext HP.out (HE.out.trans HEV.out)) hjq
 replace hq:=hq (by decide)
 obtain⟨hq,hg⟩:=hq
 simp only [Value.slice.injEq] at hq
 obtain⟨rfl,hz,rfl⟩:=hq
 rw [hcs] at hrg
 obtain⟨fo,fc,rfl,huw,zz3⟩:=hu
 obtain⟨qo,qc,rfl,hvw,zz4⟩:=hv
 have d0:=hrg 0 _ rfl
 have d1:=hrg 1 _ rfl
 rw [Nat.add_zero] at d0
 have hc:=HDD.out V HEV.out fo fc _ huw
 have heq:=fun(D:World) (hD:Ext V D) (ro:Option Addr) (rc:Nat) (r:Wd) (h:WordAt D (.slice ro r.length rc) r)=>eqW h (hvw.ext hD)
 obtain⟨RE,hRE⟩:∃ x,derE PL qs[j].1.1=x:=⟨_,rfl⟩
 obtain⟨RW,hRW⟩:∃ x,derW PL qs[j].1.1=x:=⟨_,rfl⟩
 obtain⟨Q2,hQ2⟩:∃ x,qs[j].1.2=x:=⟨_,rfl⟩
 rw [hRE,hRW] at hc hBe
 simp only [hQ2] at heq
 rw [hQ2] at hBe d1
 obtain⟨fl,hfl⟩:∃ x,qs[j].1.1.length=x:=⟨_,rfl⟩
 obtain⟨tl,htl⟩:∃ x,Q2.length=x:=⟨_,rfl⟩
 rw [hfl] at hc d0
 simp only [htl] at heq
 rw [htl] at d1
 obtain⟨C0,hC0⟩:∃ c,(B.take j).countP id=c:=⟨_,rfl⟩
 obtain⟨D0,hD0⟩:∃ c,byTo B j=c:=⟨_,rfl⟩
 rw [hC0] at hsu hcle ⊢
 rw [hD0] at hb1 hb2 hbl ⊢
 have HSU:=Lib.hid hsu;have HC:=Lib.hid hc;have HEQ:=Lib.hid heq;have HBE:=Lib.hid hBe;have HB3:=Lib.hid hb1;have HB4:=Lib.hid hb2;have HD1:=Lib.hid d1
 clear hsu hc heq hBe hb1 hb2 hrg hfl htl hz hcs huw hvw zz2 zz3 zz4 hg hC0 hD0 hRE hRW hQ2 HBK HB0 HB1 HB2 HC1 HBLT HDD HBLN d1
 go_wp2_with fail
 refine HC.out.mono ?_
 rintro e V2 ⟨_,rfl,⟨ro,rc,rfl,hrw,_⟩,hE2⟩
 have HE2:=Lib.hid hE2
 have hqq:=HEQ.out V2 hE2 ro rc RW hrw
 have d1:=hE2.cell_some HD1.out id
 obtain⟨rl,hrl⟩:∃ x,RW.length=x:=⟨_,rfl⟩
 rw [hrl] at hqq ⊢
 have HQQ:=Lib.hid hqq
 clear hqq hE2 hrw HC HEQ hrl HD1 d0
 have hfin:∀(b:Bool) (V4:World),B[j]=b->Ext V V4->((B.take (j+1)).countP id=C0+if b=true then 1 else 0)/\byTo B (j+1)=(if b=true then D0 else if D0<0 then(j:Int) else D0)/\Ext W V4:=fun b V4 hb hV=>by
  refine⟨by rw [HSU.out,hb],?_,HEV.out.trans hV⟩
  cases b with
  | true=>rw [HB3.out hb,if_pos rfl]
  | false=>rw [HB4.out hb,if_neg Bool.false_ne_true]
 have HFIN:=Lib.hid hfin
 clear hfin HSU HB3 HB4
 by_cases h0:RE=0
 ·subst h0
  have hbe:=HBE.out
  rw [decide_eq_true rfl,Bool.true_and] at hbe
  obtain⟨b,hb⟩:∃ b,decide (RW=Q2)=b:=⟨_,rfl⟩
  have hqq:=HQQ.out
  rw [hb] at hbe hqq
  have HBE2:=Lib.hid hbe;have HQ2:=Lib.hid hqq
  clear hbe hqq hb HBE HQQ
  go_wp2_with fail
  refine HQ2.out.mono ?_
  rintro e V4 ⟨rfl,hE4⟩
  obtain⟨r1,r2,r3⟩:=HFIN.out b V4 HBE2.out (HE2.out.trans hE4)
  have R1:=Lib.hid r1;have R2:=Lib.hid r2;have R3:=Lib.hid r3
  clear r1 r2 r3 hE4 HFIN HQ2 HBE2 d1
  cases b with
  | true=>
   have r1:=R1.out;have r2:=R2.out
   rw [if_pos rfl] at r1 r2
   have R4:=Lib.hid r1;have R5:=Lib.hid r2
   clear r1 r2 R1 R2
   go_wp2
   exact⟨⟨j+1,by omega,by first | rfl | trivial,⟨rfl,rfl,rfl,by rw [R4.out];rfl,by rw [R5.out];rfl,rfl⟩,R3.out⟩,by first | (simp [intOf];done) | (simp [intOf];omega)⟩
  | false=>
   have r1:=R1.out;have r2:=R2.out
   rw [if_neg Bool.false_ne_true] at r1 r2
   rw [Nat.add_zero] at r1
   have R4:=Lib.hid r1;have R5:=Lib.hid r2
   clear r1 r2 R1 R2
   by_cases hD:D0<0
   ·have r2:=R5.out
    rw [if_pos hD] at r2
    have R6:=Lib.hid r2
    clear r2 R5
    go_wp2
    exact⟨⟨j+1,by omega,by first | rfl | trivial,⟨rfl,rfl,rfl,by rw [R4.out];rfl,by rw [R6.out];rfl,rfl⟩,R3.out⟩,by first | (simp [intOf];done) | (simp [intOf];omega)⟩
   ·have r2:=R5.out
    rw [if_neg hD] at r2
    have R6:=Lib.hid r2
    clear r2 R5
    go_wp2
    exact⟨⟨j+1,by omega,by first | rfl | trivial,⟨rfl,rfl,rfl,by rw [R4.out];rfl,by rw [R6.out];rfl,rfl⟩,R3.out⟩,by first | (simp [intOf];done) | (simp [intOf];omega)⟩
 ·have h8:(RE == 0)=false:=by rw [beq_eq_false_iff_ne];exact h0
  have hbe:=HBE.out
  rw [decide_eq_false h0,Bool.false_and] at hbe
  obtain⟨r1,r2,r3⟩:=HFIN.out false V2 hbe HE2.out
  rw [if_neg Bool.false_ne_true] at r1 r2
  rw [Nat.add_zero] at r1
  have R4:=Lib.hid r1;have R5:=Lib.hid r2;have R3:=Lib.hid r3
  clear r1 r2 r3 hbe HFIN HQQ HBE d1 h0
  by_cases hD:D0<0
  ·have r2:=R5.out
   rw [if_pos hD] at r2
   have R6:=Lib.hid r2
   clear r2 R5
   go_wp2
   exact⟨⟨j+1,by omega,by first | rfl | trivial,⟨rfl,rfl,rfl,by rw [R4.out];rfl,by rw [R6.out];rfl,rfl⟩,R3.out⟩,by first | (simp [intOf];done) | (simp [intOf];omega)⟩
  ·have r2:=R5.out
   rw [if_neg hD] at r2
   have R6:=Lib.hid r2
   clear r2 R5
   go_wp2
   exact⟨⟨j+1,by omega,by first | rfl | trivial,⟨rfl,rfl,rfl,by rw [R4.out];rfl,by rw [R6.out];rfl,rfl⟩,R3.out⟩,by first | (simp [intOf];done) | (simp [intOf];omega)⟩
end Go.Proofs.YtfdlhlghcbeblaaGreatDoor
