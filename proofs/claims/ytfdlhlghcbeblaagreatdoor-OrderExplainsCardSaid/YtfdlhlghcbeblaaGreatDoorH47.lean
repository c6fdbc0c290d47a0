/- ablautlaw14.OrderExplains (printed by genexplo.py). What the laws' arguments read as: slices of integers, slices of pairs of integers, a pair. No program is named. -/
import Derived.Test.YtfdlhlghcbeblaaGreatDoorH41
import Derived.Test.YtfdlhlghcbeblaaGreatDoorH43
import Derived.Test.YtfdlhlghcbeblaaGreatDoorH44
import Derived.Test.YtfdlhlghcbeblaaGreatDoorH46
import Derived.Test.YtfdlhlghcbeblaaGreatDoorH36
import Derived.Test.YtfdlhlghcbeblaaGreatDoorH42
import Derived.Test.YtfdlhlghcbeblaaGreatDoorH10
import Derived.Test.YtfdlhlghcbeblaaGreatDoorH02
import Derived.OpenShut
import Derived.Deep.Slices
import Derived.ProofKit
set_option maxRecDepth 100000
set_option maxHeartbeats 16000000
namespace Go.Proofs.YtfdlhlghcbeblaaGreatDoor
open Go.RowKit Go.Ab
attribute [local go_sem] Oper.semAt_some wide_fn wide_depth
theorem cntR_le(ps:LawsL)(qs:PairsL)(x:List Nat):cntR ps qs x<=qs.length:=by
 unfold cntR
 refine Nat.le_trans List.countP_le_length ?_
 unfold explsR;rw [List.length_map];exact Nat.le_refl _
theorem byI_le(ps:LawsL)(qs:PairsL)(x:List Nat):-1<=byI ps x qs/\byI ps x qs<=qs.length:=by
 have hl:(explsR ps x qs).length=qs.length:=by unfold explsR;rw [List.length_map]
 have hle:firstR ps x qs<=qs.length:=by unfold firstR;rw [<-hl];exact List.findIdx_le_length
 unfold byI
 split <;> omega
theorem bestN_le(LD:List LawD)(qs:PairsL):-1<=bestN LD qs/\bestN LD qs<=qs.length:=by
 have h:=bestS_low LD qs (permsF LD.length (List.range LD.length))
 unfold bestN
 split
 ·exact h
 ·omega
structure RoundX (LD:List LawD) (qs:PairsL) (RS:List (List Nat)) (L:List (List Nat)) (bx:List Nat) (bn:Int) (x:List Nat) (i:Nat) (c:Nat) (f:Int):Prop where
 hit:f<0->L[((RS.take i).filter (fitsA LD qs)).length]?=some x/\((RS.take (i+1)).filter (fitsA LD qs)).length=((RS.take i).filter (fitsA LD qs)).length+1
 miss:¬ f<0->((RS.take (i+1)).filter (fitsA LD qs)).length=((RS.take i).filter (fitsA LD qs)).length
 up:(bestS LD qs (RS.take i)).2<(c:Int)->(bestS LD qs (RS.take (i+1))).2=(c:Int)
 same:¬ (bestS LD qs (RS.take i)).2<(c:Int)->(bestS LD qs (RS.take (i+1))).2=(bestS LD qs (RS.take i)).2
 best:(bestS LD qs (RS.take i)).2<(c:Int)->(c:Int)=bn->bx=x
theorem roundX{ps:LawsL}{qs:PairsL}(h:ordE (ps.map (·.1)) (qs.map (·.1))=0) {i:Nat} (hi:i<(ordersR ps.length).length) :
  RoundX (ps.map (·.1)) qs (ordersR ps.length) (explL (ps.map (·.1)) qs ps.length) (bestX (ps.map (·.1)) qs) (bestN (ps.map (·.1)) qs) (ordersR ps.length)[i] i (cntR ps qs (ordersR ps.length)[i]) (byI ps (ordersR ps.length)[i] qs):=by
 have hx:(ordersR ps.length)[i]∈ordersR ps.length:=List.getElem_mem hi
 have hA:=byI_all h hx
 have hc:=cntR_X h hx
 have hbx:bestX (ps.map (·.1)) qs=(bestS (ps.map (·.1)) qs (ordersR ps.length)).1:=by unfold bestX;rw [if_pos h,List.length_map,perms_range]
 have hbn:bestN (ps.map (·.1)) qs=(bestS (ps.map (·.1)) qs (ordersR ps.length)).2:=by unfold bestN;rw [if_pos h,List.length_map,perms_range]
 rw [explL_orders,hbx,hbn,hc]
 have hs:=filt_take_succ (fitsA (ps.map (·.1)) qs) hi
 have hb:=bestS_take (LD:=ps.map (·.1)) (qs:=qs) hi
 refine⟨fun hf=>?_,fun hf=>?_,fun hl=>?_,fun hl=>?_,fun hl he=>?_⟩
 ·rw [decide_eq_true hf] at hA
  rw [if_pos hA] at hs
  exact⟨filter_at hi hA,hs⟩
 ·rw [decide_eq_false hf] at hA
  rw [if_neg (by rw [hA];decide)] at hs
  exact hs
 ·rw [hb];unfold bestStep;rw [if_pos hl]
 ·rw [hb];unfold bestStep;rw [if_neg hl]
 ·exact best_at hi hl he
theorem endX{ps:LawsL}{qs:PairsL}(h:ordE (ps.map (·.1)) (qs.map (·.1))=0) :
  (((ordersR ps.length).take (ordersR ps.length).length).filter (fitsA (ps.map (·.1)) qs)).length=(explL (ps.map (·.1)) qs ps.length).length/\(bestS (ps.map (·.1)) qs ((ordersR ps.length).take (ordersR ps.length).length)).2=bestN (ps.map (·.1)) qs/\explB (ps.map (·.1)) qs=decide (bestN (ps.map (·.1)) qs=qs.length):=by
 have hbn:bestN (ps.map (·.1)) qs=(bestS (ps.map (·.1)) qs (ordersR ps.length)).2:=by unfold bestN;rw [if_pos h,List.length_map,perms_range]
 rw [List.take_length,hbn,explL_orders]
 refine⟨rfl,rfl,?_⟩
 unfold explB
 rw [if_pos h,List.length_map,explL_orders]
 have hf:=best_full (LD:=ps.map (·.1)) (qs:=qs) (L:=ordersR ps.length)
 by_cases he:(ordersR ps.length).filter (fitsA (ps.map (·.1)) qs)=[]
 ·rw [he,decide_eq_false (fun q=>(hf.1 q) he)];rfl
 ·rw [decide_eq_true (hf.2 he)]
  cases hq:(ordersR ps.length).filter (fitsA (ps.map (·.1)) qs) with
  | nil=>exact absurd hq he
  | cons a r=>rfl
theorem headX{ps:LawsL}{qs:PairsL}(h:ordE (ps.map (·.1)) (qs.map (·.1))=0) :
  (explL (ps.map (·.1)) qs ps.length=[]->explB (ps.map (·.1)) qs=false/\explX (ps.map (·.1)) qs=[]) /\
  (∀ y r,explL (ps.map (·.1)) qs ps.length=y::r->explB (ps.map (·.1)) qs=true/\explX (ps.map (·.1)) qs=y/\bestX (ps.map (·.1)) qs=y):=by
 unfold explB explX
 rw [if_pos h,if_pos h,List.length_map]
 refine⟨fun e=>by rw [e];exact⟨rfl,rfl⟩,fun y r e=>?_⟩
 rw [e]
 refine⟨rfl,rfl,?_⟩
 unfold bestX
 rw [if_pos h,List.length_map,perms_range]
 rw [explL_orders] at e
 exact best_first e
def ExSt(Z:Nat)(lv pv al bv gv:Value)(B:Bool)(bn:Int)(P:Nat->Nat)(Q:Nat->Int)(w2:World)(a:Act)(W:World):Prop:=∃(i:Nat),i<=Z/\a.defers=[]/\(a.tmps.size=190/\a.tmps.getD 0 undef=lv/\a.tmps.getD 1 undef=pv/\a.tmps.getD 5 undef=al/\a.tmps.getD 8 undef=.bool B/\a.tmps.getD 10 undef=bv/\a.tmps.getD 11 undef=.int .i64 bn/\a.tmps.getD 13 undef=.int .i64 (P i:Nat)/\a.tmps.getD 14 undef=.int .i64 (Q i)/\a.tmps.getD 15 undef=gv/\a.tmps.getD 16 undef=.int .i64 i)/\Ext w2 W
theorem explains_law{w:World}{ps:LawsL}{qs:PairsL}{lo:Option Addr}{n lc:Nat}{po:Option Addr}{m pc:Nat}(hl:LawsAt w (.slice lo n lc) ps) (hn:ps.length=n) (hp:PairsAt w (.slice po m pc) qs) (hm:qs.length=m) (hT:Tab w) :
  Calls Tryz.prog 13 #[.slice lo n lc,.slice po m pc] w fun e w'=>e=.returned (.bool true)/\Ext w w':=by
 have hmm:m<=maxLen:=by rw [<-hm];exact hp.1.2.1
 unfold maxLen at hmm
 have hva:=ovalid_any hl hn hp hm hT
 have hwo:=fun(V:World) (hE:Ext w V)=>oworks_any V (hT.keep hE id)
 have hal:=fun(V:World) (h:n<=4)=>oall_any (w:=V) h
 have ha:=fun(V:World) (hE:Ext w V)=>all_any' (most:=1000) (hl.ext hE) hn (pairs_ext hp hE) hm (hT.keep hE id)
 have hx:=fun(V:World) (hE:Ext w V)=>explain_any (hl.ext hE) hn (pairs_ext hp hE) hm (hT.keep hE id)
 have hb:=fun(V:World) (hE:Ext w V)=>best_any (hl.ext hE) hn (pairs_ext hp hE) hm (hT.keep hE id)
 have hby:=fun(V:World) (hE:Ext w V) (ol:List Nat) (yo:Option Addr) (yc:Nat) (hy:Rd V (.slice yo n yc) n 1 (natV ol)) (hyl:ol.length=n) (hlt:∀ x∈ol,x<n) (h4:n<=4)=>oby_any (hl.ext hE) hn hy hyl hlt (by omega) (pairs_ext hp hE) hm (hT.keep hE id)
 have hfi:=fun(V:World) (hE:Ext w V) (x:List Nat) (yo:Option Addr) (yc:Nat) (hy:Rd V (.slice yo n yc) n 1 (natV x)) (hyl:x.length=n)=>fits_law (xs:=intsN x) (hl.ext hE) hn (by rw [intV_ints];exact hy) (by unfold intsN;rw [List.length_map,hyl]) (pairs_ext hp hE) hm (hT.keep hE id)
 have hgd:GoodLP (ps.map (·.1)) (qs.map (·.1))->n<=4/\ordE (ps.map (·.1)) (qs.map (·.1))=0:=fun h=>by
  obtain⟨h1,_,h3⟩:=h
  rw [List.length_map,hn] at h1
  exact⟨h1,h3⟩
 have hfv:ordE (ps.map (·.1)) (qs.map (·.1))=0->∀ x∈ordersR n,fitsI (ps.map (·.1)) (intsN x) qs=max (byI ps x qs) 0/\fitsN (ps.map (·.1)) (intsN x) qs=decide (0<=byI ps x qs)/\withE (ps.map (·.1)) (intsN x) (qs.map (·.1))=0:=fun h x hx=>by
  have h1:=fits_by h (x:=x) (by rw [hn];exact hx)
  exact⟨h1.1,h1.2,withE_orders h (by rw [List.length_map,hn];exact hx)⟩
 have hall:n<=4->ordE (ps.map (·.1)) (qs.map (·.1))=0->allL (ps.map (·.1)) qs 1000=explL (ps.map (·.1)) qs n:=fun h4 h0=>by
  have h1:=expl_four (ps.map (·.1)) qs n h4
  unfold allL
  rw [if_pos h0,List.length_map,hn]
  exact List.take_of_length_le (by omega)
 have hro:ordE (ps.map (·.1)) (qs.map (·.1))=0->∀(i:Nat) (x:List Nat),(ordersR n)[i]?=some x->RoundX (ps.map (·.1)) qs (ordersR n) (explL (ps.map (·.1)) qs n) (bestX (ps.map (·.1)) qs) (bestN (ps.map (·.1)) qs) x i (cntR ps qs x) (byI ps x qs):=fun h i x hx=>by
  subst hn
  obtain⟨hi,rfl⟩:=List.getElem?_eq_some_iff.1 hx
  exact roundX h hi
 have hen:=fun(h:ordE (ps.map (·.1)) (qs.map (·.1))=0)=>endX h
 have hhe:=fun(h:ordE (ps.map (·.1)) (qs.map (·.1))=0)=>headX h
 have hlt:=orders_lt n
 have hZb:=orders_four n
 have hclt:=fun x=>cntR_le ps qs x
 have hbyl:=fun x=>byI_le ps qs x
 have hbnl:=bestN_le (ps.map (·.1)) qs
 have hbsl:=fun l=>bestS_low (ps.map (·.1)) qs l
 rw [hn] at hen hhe
 rw [hm] at hen hbnl
 simp only [hm] at hclt hbyl hbsl
 obtain⟨RS,hRS⟩:∃ L,ordersR n=L:=⟨_,rfl⟩
 simp only [hRS] at hlt hZb hal hfv hro hen
 obtain⟨E,hEE⟩:∃ x,ordE (ps.map (·.1)) (qs.map (·.1))=x:=⟨_,rfl⟩
 simp only [hEE] at hgd hfv hall hro hen hhe ha hx hb
 obtain⟨L,hL⟩:∃ x,explL (ps.map (·.1)) qs n=x:=⟨_,rfl⟩
 simp only [hL] at hall hro hen hhe
 obtain⟨X,hX⟩:∃ x,explX (ps.map (·.1)) qs=x:=⟨_,rfl⟩
 obtain⟨B,hB⟩:∃ x,explB (ps.map (·.1)) qs=x:=⟨_,rfl⟩
 obtain⟨BX,hBX⟩:∃ x,bestX (ps.map (·.1)) qs=x:=⟨_,rfl⟩
 obtain⟨bn,hbn⟩:∃ x,bestN (ps.map (·.1)) qs=x:=⟨_,rfl⟩
 simp only [hX,hB] at hx
 simp only [hX,hB,hBX] at hhe
 simp only [hB,hbn] at hen
 simp only [hBX,hbn] at hb hro
 rw [hbn] at hbnl
 have HVA:=Lib.hid hva;have HWO:=Lib.hid hwo;have HAL:=Lib.hid hal;have HA:=Lib.hid ha;have HX:=Lib.hid hx;have HB:=Lib.hid hb;have HBY:=Lib.hid hby;have HFI:=Lib.hid hfi;have HGD:=Lib.hid hgd;have HFV:=Lib.hid hfv;have HALL:=Lib.hid hall;have HRO:=Lib.hid hro;have HEN:=Lib.hid hen;have HHE:=Lib.hid hhe;have HLT:=Lib.hid hlt;have HZB:=Lib.hid hZb;have HCLT:=Lib.hid hclt;have HBYL:=Lib.hid hbyl;have HBSL:=Lib.hid hbsl
 clear hva hwo hal ha hx hb hby hfi hgd hfv hall hro hen hhe hlt hZb hclt hbyl hbsl hl hn hp hm hT hRS hEE hL hX hB hBX hbn
 go_enter Tryz.func13,Tryz.ntmps13
 go_wp2_with fail
 refine HVA.out.mono ?_
 rintro e w1 ⟨b,rfl,hg,hE1⟩
 have HE1:=Lib.hid hE1
 have HG:=Lib.hid hg
 clear hE1 HVA hg
 cases b with
 | false=>
  clear HAL HA HX HB HBY HFI HGD HFV HALL HRO HEN HHE HLT HZB HCLT HBYL HBSL HG
  go_wp2_with fail
  refine(HWO.out w1 HE1.out).mono ?_
  rintro e w2 ⟨rfl,hN⟩
  have HE2:=Lib.hid (HE1.out.trans hN)
  clear hN
  go_wp2
  go_ret
  exact⟨rfl,HE2.out⟩
 | true=>
  obtain⟨hn4,hE0⟩:=HGD.out (HG.out (by first | trivial | rfl))
  subst hE0
  have hZ24:=HZB.out hn4
  have ha:=HA.out w1 HE1.out
  rw [HALL.out hn4 (by first | trivial | rfl)] at ha
  have hfv:=HFV.out (by first | trivial | rfl)
  have hro:=HRO.out (by first | trivial | rfl)
  obtain⟨en1,en2,en3⟩:=HEN.out (by first | trivial | rfl)
  obtain⟨he1,he2⟩:=HHE.out (by first | trivial | rfl)
  have HA2:=Lib.hid ha;have HFV2:=Lib.hid hfv;have HRO2:=Lib.hid hro;have HEN1:=Lib.hid en1;have HEN2:=Lib.hid en2;have HEN3:=Lib.hid en3;have HH1:=Lib.hid he1;have HH2:=Lib.hid he2
  clear ha hfv hro en1 en2 en3 he1 he2 HG HGD HZB HA HALL HFV HRO HEN HHE
  go_wp2_with fail
  refine HA2.out.mono ?_
  rintro e w2 ⟨ao,ac,rfl,hgr,hN⟩
  obtain⟨al,hal9⟩:∃ z,L.length=z:=⟨_,rfl⟩
  have HAL9:=Lib.hid hal9
  simp only [hal9] at hgr ⊢
  have HE2:=Lib.hid (HE1.out.trans hN)
  have RA:Hid (∀ D,Ext w2 D->GridAt D (.slice ao al ac) L):=Lib.hid (fun D hD=>GridAt.ext hgr hD)
  clear hgr hN HA2 HE1 hal9
  go_wp2_with fail
  refine(HX.out w2 HE2.out).mono ?_
  rintro e w3 ⟨xo,xc,rfl,hr,hN⟩
  have HE3:=Lib.hid (HE2.out.trans hN)
  have h23:Ext w2 w3:=hN
  have RX:Hid (∀ D,Ext w3 D->Rd D (.slice xo X.length xc) X.length 1 (natV X)):=Lib.hid (fun D hD=>hr.ext hD)
  clear hr hN HX HE2
  go_wp2_with fail
  refine(HB.out w3 HE3.out).mono ?_
  rintro e w4 ⟨bo,bc,rfl,hr,hN⟩
  have HE4:=Lib.hid (HE3.out.trans hN)
  have h34:Ext w3 w4:=hN
  have RB:Hid (∀ D,Ext w4 D->Rd D (.slice bo BX.length bc) BX.length 1 (natV BX)):=Lib.hid (fun D hD=>hr.ext hD)
  have RX4:Hid (∀ D,Ext w4 D->Rd D (.slice xo X.length xc) X.length 1 (natV X)):=Lib.hid (fun D hD=>RX.out D (h34.trans hD))
  have RA4:Hid (∀ D,Ext w4 D->GridAt D (.slice ao al ac) L):=Lib.hid (fun D hD=>RA.out D (h23.trans (h34.trans hD)))
  clear hr hN HB HE3 RX RA h23 h34
  by_cases hLe:L=[]
  ·obtain⟨hB,hX⟩:=HH1.out hLe
   subst hB hX
   obtain rfl:al=0:=by rw [<-HAL9.out,hLe];rfl
   have HE5:=HE4
   have h45:Ext w4 w4:=Turn.refl _ _
   clear hLe RX4
   go_wp2_with fail
   have hal:=HAL.out w4 hn4
   refine hal.mono ?_
   rintro e w6 ⟨_,rfl,⟨ro,rc,rfl,hgr⟩,hN⟩
   have HE6:=Lib.hid (HE5.out.trans hN)
   have h46:Ext w4 w6:=h45.trans hN
   have RG:Hid (∀ D,Ext w6 D->GridAt D (.slice ro RS.length rc) RS):=Lib.hid (fun D hD=>GridAt.ext hgr hD)
   have RB6:Hid (∀ D,Ext w6 D->Rd D (.slice bo BX.length bc) BX.length 1 (natV BX)):=Lib.hid (fun D hD=>RB.out D (h46.trans hD))
   have RA6:Hid (∀ D,Ext w6 D->GridAt D (.slice ao 0 ac) L):=Lib.hid (fun D hD=>RA4.out D (h46.trans hD))
   clear hgr hN hal HAL HE5 h45 h46 RB RA4
   obtain⟨Z,hZ⟩:∃ z,RS.length=z:=⟨_,rfl⟩
   obtain⟨bl,hbl9⟩:∃ z,BX.length=z:=⟨_,rfl⟩
   have HZ:=Lib.hid hZ;have HBL9:=Lib.hid hbl9
   rw [hZ] at hZ24 ⊢
   simp only [hbl9]
   clear hZ hbl9
   go_wp2
   refine wp_loop (ExSt Z (.slice lo n lc) (.slice po m pc) (.slice ao 0 ac) (.slice bo bl bc) (.slice ro Z rc) false bn (fun i=>((RS.take i).filter (fitsA (ps.map (·.1)) qs)).length) (fun i=>(bestS (ps.map (·.1)) qs (RS.take i)).2) w6) (fun a _=>((Z:Int) - intOf (a.tmps.getD 16 undef)).toNat) ?_ ?_
   ·exact⟨0,by omega,rfl,⟨rfl,rfl,rfl,rfl,rfl,rfl,rfl,rfl,rfl,rfl,rfl⟩,Turn.refl _ _⟩
   rintro⟨t,_⟩ W ⟨i,hi,hds,⟨hsz,f0,f1,f5,f8,f10,f11,f13,f14,f15,f16⟩,hE⟩
   dsimp only at f13 f14
   subst hds
   obtain⟨u',hu⟩:=frame_fun hsz
   obtain⟨u,rfl⟩:∃ x,x=u':=⟨_,rfl⟩
   have hu':t=#[u 0,u 1,u 2,u 3,u 4,u 5,u 6,u 7,u 8,u 9,u 10,u 11,u 12,u 13,u 14,u 15,u 16,u 17,u 18,u 19,u 20,u 21,u 22,u 23,u 24,u 25,u 26,u 27,u 28,u 29,u 30,u 31,u 32,u 33,u 34,u 35,u 36,u 37,u 38,u 39,u 40,u 41,u 42,u 43,u 44,u 45,u 46,u 47,u 48,u 49,u 50,u 51,u 52,u 53,u 54,u 55,u 56,u 57,u 58,u 59,u 60,u 61,u 62,u 63,u 64,u 65,u 66,u 67,u 68,u 69,u 70,u 71,u 72,u 73,u 74,u 75,u 76,u 77,u 78,u 79,u 80,u 81,u 82,u 83,u 84,u 85,u 86,u 87,u 88,u 89,u 90,u 91,u 92,u 93,u 94,u 95,u 96,u 97,u 98,u 99,u 100,u 101,u 102,u 103,u 104,u 105,u 106,u 107,u 108,u 109,u 110,u 111,u 112,u 113,u 114,u 115,u 116,u 117,u 118,u 119,u 120,u 121,u 122,u 123,u 124,u 125,u 126,u 127,u 128,u 129,u 130,u 131,u 132,u 133,u 134,u 135,u 136,u 137,u 138,u 139,u 140,u 141,u 142,u 143,u 144,u 145,u 146,u 147,u 148,u 149,u 150,u 151,u 152,u 153,u 154,u 155,u 156,u 157,u 158,u 159,u 160,u 161,u 162,u 163,u 164,u 165,u 166,u 167,u 168,u 169,u 170,u 171,u 172,u 173,u 174,u 175,u 176,u 177,u 178,u 179,u 180,u 181,u 182,u 183,u 184,u 185,u 186,u 187,u 188,u 189]:=hu
   clear hu
   subst hu'
   change u 0=_ at f0
   change u 1=_ at f1
   change u 5=_ at f5
   change u 8=_ at f8
   change u 10=_ at f10
   change u 11=_ at f11
   change u 13=_ at f13
   change u 14=_ at f14
   change u 15=_ at f15
   change u 16=_ at f16
   rw [f0,f1,f5,f8,f10,f11,f13,f14,f15,f16]
   clear f0 f1 f5 f8 f10 f11 f13 f14 f15 f16 hsz
   have HEW:=Lib.hid hE
   clear hE
   by_cases hiZ:i<Z
   case neg=>
    obtain rfl:i=Z:=by omega
    have h1:¬ (i:Int)<(i:Int):=by omega
    have e1:=HEN1.out
    have e2:=HEN2.out
    have e3:=HEN3.out
    rw [HZ.out] at e1 e2
    rw [e1,HAL9.out,e2]
    have hbq:((bn:Int) ==(m:Int))=false:=by rw [e3];by_cases h:bn=(m:Int) <;> simp [h]
    clear e1 e2 e3 HEN1 HEN2 HEN3 HRO2 HFV2 HBY HFI HLT HCLT HBYL HBSL RG RB6 RA6 HH1 HH2
    go_wp2_with fail
    refine(HWO.out W (HE6.out.trans HEW.out)).mono ?_
    rintro e w7 ⟨rfl,hN⟩
    have HE7:=Lib.hid ((HE6.out.trans HEW.out).trans hN)
    clear hN
    go_wp2
    go_ret
    exact⟨rfl,HE7.out⟩
   have h1:(i:Int)<(Z:Int):=by omega
   have h0:(0:Int)<=(i:Int):=by omega
   have hiR:i<RS.length:=by rw [HZ.out];exact hiZ
   obtain⟨vs,hvr,hrs⟩:=RG.out W HEW.out
   obtain⟨eo,ec,e1,e2⟩:=hrs i hiR
   rw [HZ.out] at hvr
   obtain⟨gr,ofr,cr,hqr,_,hcr⟩:=rd_at_1 hvr hiZ
   simp only [Value.slice.injEq] at hqr
   obtain⟨rfl,z1,rfl⟩:=hqr
   rw [e1] at hcr
   have hxm:RS[i]∈RS:=List.getElem_mem hiR
   obtain⟨hxl,hxlt⟩:=HLT.out _ hxm
   have hro:=HRO2.out i _ (List.getElem?_eq_getElem hiR)
   have hfv:=HFV2.out _ hxm
   obtain⟨x,hx⟩:∃ x,RS[i]=x:=⟨_,rfl⟩
   rw [hx] at hcr e2 hxl hro hfv
   simp only [hx] at hxlt
   rw [hxl] at hcr e2
   have hby:=HBY.out W (HE6.out.trans HEW.out) x eo ec e2 hxl hxlt hn4
   have hfi:=fun(V:World) (hV:Ext W V)=>HFI.out V ((HE6.out.trans HEW.out).trans hV) x eo ec (e2.ext hV) hxl
   simp only [hfv.1,hfv.2.1,hfv.2.2] at hfi
   have hcl:=HCLT.out x
   have hbl:=HBYL.out x
   have hbs:=HBSL.out (RS.take i)
   obtain⟨c,hc⟩:∃ c,cntR ps qs x=c:=⟨_,rfl⟩
   obtain⟨f,hf⟩:∃ f,byI ps x qs=f:=⟨_,rfl⟩
   rw [hc] at hby hro hcl
   rw [hf] at hby hro hbl
   simp only [hf] at hfi
   obtain⟨ht1,ht2,ht3,ht4,ht5⟩:=hro
   obtain⟨K,hK⟩:∃ k,((RS.take i).filter (fitsA (ps.map (·.1)) qs)).length=k:=⟨_,rfl⟩
   obtain⟨K2,hK2⟩:∃ k,((RS.take (i+1)).filter (fitsA (ps.map (·.1)) qs)).length=k:=⟨_,rfl⟩
   obtain⟨mo,hmo⟩:∃ k,(bestS (ps.map (·.1)) qs (RS.take i)).2=k:=⟨_,rfl⟩
   obtain⟨mo2,hmo2⟩:∃ k,(bestS (ps.map (·.1)) qs (RS.take (i+1))).2=k:=⟨_,rfl⟩
   rw [hK,hK2] at ht1
   rw [hK,hK2] at ht2
   rw [hmo,hmo2] at ht3 ht4
   rw [hmo] at ht5 hbs
   rw [hK,hmo]
   have hkb:K<=i:=by rw [<-hK];exact Nat.le_trans (List.length_filter_le _ _) (by rw [List.length_take];omega)
   have HT1:=Lib.hid ht1;have HT2:=Lib.hid ht2;have HT3:=Lib.hid ht3;have HT4:=Lib.hid ht4;have HT5:=Lib.hid ht5;have HK2:=Lib.hid hK2;have HMO2:=Lib.hid hmo2;have HBY2:=Lib.hid hby;have HFI2:=Lib.hid hfi;have HCR:=Lib.hid hcr;have HXE:=Lib.hid e2;have HXL:=Lib.hid hxl
   clear ht1 ht2 ht3 ht4 ht5 hK hK2 hmo hmo2 hby hfi hx hxm hxlt hfv hc hf e1 e2 z1 hvr hrs hxl HBY HFI HRO2 HFV2 HLT HCLT HBYL HBSL HEN1 HEN2 HEN3 HH1 HH2
   go_wp2_with fail
   refine HBY2.out.mono ?_
   rintro e V2 ⟨rfl,hN⟩
   have hcr:=hN.cell_some HCR.out id
   have hfi:=HFI2.out V2 hN
   have HFI3:=Lib.hid hfi
   have HN2:=Lib.hid hN
   clear hN hfi HBY2 HFI2
   go_wp2_with fail
   refine HFI3.out.mono ?_
   rintro e V3 ⟨rfl,hN⟩
   have HW3:=Lib.hid (HN2.out.trans hN)
   have hcr:=(HN2.out.trans hN).cell_some HCR.out id
   have HCX:=Lib.hid hcr
   clear hN HFI3 HN2 HCR
   by_cases hf0:f<0
   case pos=>
    have g1:¬ f>=0:=by omega
    have g2:decide (0<=f)=false:=decide_eq_false (by omega)
    have g3:max f 0=0:=by omega
    obtain⟨hat,hK1⟩:=HT1.out hf0
    have hKL:K<L.length:=(List.getElem?_eq_some_iff.1 hat).1
    rw [HAL9.out] at hKL
    exact absurd hKL (Nat.not_lt_zero _)
   have g1:f>=0:=by omega
   have g2:decide (0<=f)=true:=decide_eq_true (by omega)
   have g3:max f 0=f:=by omega
   have hK1:=HT2.out (by omega)
   have HK1:=Lib.hid hK1
   clear hK1 HT1 HT2
   by_cases hmc:mo<(c:Int)
   ·have k1:(c:Int) > mo:=hmc
    have hm2:=HT3.out hmc
    have hbx:=HT5.out hmc
    have HM2:=Lib.hid hm2;have HBXX:=Lib.hid hbx
    clear hm2 hbx HT3 HT4 HT5
    by_cases hcb:(c:Int)=bn
    ·have hbx:=HBXX.out hcb
     subst hcb
     have hnb:=numbers_nat (.slice bo bl bc) (.slice eo n ec) x x V3 (by have:=RB6.out V3 (HEW.out.trans HW3.out);rw [HBL9.out,hbx] at this;have e9:=HBL9.out;rw [hbx] at e9;rw [e9];exact this) (by rw [HXL.out];exact HXE.out.ext HW3.out)
     rw [decide_eq_true rfl] at hnb
     have HNB:=Lib.hid hnb
     clear hnb hbx HBXX
     go_wp2_with fail
     refine HNB.out.mono ?_
     rintro e V5 ⟨rfl,mm,hm9⟩
     have HE9:=Lib.hid ((HEW.out.trans HW3.out).trans (show Ext V3 V5 by rw [hm9];exact(Turn.refl _ V3).drewN _))
     clear hm9 HNB hcr
     go_wp2
     exact⟨⟨i+1,by omega,by first | rfl | trivial,⟨rfl,rfl,rfl,rfl,rfl,rfl,rfl,by dsimp only;rw [HK2.out,HK1.out];rfl,by dsimp only;rw [HMO2.out,HM2.out];rfl,rfl,rfl⟩,HE9.out⟩,by first | (simp [intOf];done) | (simp [intOf];omega)⟩
    ·have k2:((c:Int) == bn)=false:=by rw [beq_eq_false_iff_ne];exact hcb
     clear HBXX
     go_wp2
     exact⟨⟨i+1,by omega,by first | rfl | trivial,⟨rfl,rfl,rfl,rfl,rfl,rfl,rfl,by dsimp only;rw [HK2.out,HK1.out];rfl,by dsimp only;rw [HMO2.out,HM2.out];rfl,rfl,rfl⟩,HEW.out.trans HW3.out⟩,by first | (simp [intOf];done) | (simp [intOf];omega)⟩
   ·have k1:¬ (c:Int) > mo:=hmc
    have hm2:=HT4.out (by omega)
    have HM2:=Lib.hid hm2
    clear hm2 HT3 HT4 HT5
    go_wp2
    exact⟨⟨i+1,by omega,by first | rfl | trivial,⟨rfl,rfl,rfl,rfl,rfl,rfl,rfl,by dsimp only;rw [HK2.out,HK1.out];rfl,by dsimp only;rw [HMO2.out,HM2.out];rfl,rfl,rfl⟩,HEW.out.trans HW3.out⟩,by first | (simp [intOf];done) | (simp [intOf];omega)⟩
  ·obtain⟨y,r,hLy⟩:∃ y r,L=y::r:=by cases L with | nil=>exact absurd rfl hLe | cons a r=>exact⟨a,r,rfl⟩
   obtain⟨hB,hX,hBX⟩:=HH2.out y r hLy
   subst hB
   have hlp:0<L.length:=by rw [hLy];simp
   have hL0:L[0]=y:=by simp [hLy]
   have hla:=HAL9.out
   have g9:(al:Int) > 0:=by omega
   have hlq:0<al:=by omega
   obtain⟨us,hur,hus⟩:=RA4.out w4 (Turn.refl _ _)
   obtain⟨lo2,lc2,q1,q2⟩:=hus 0 hlp
   rw [hla] at hur
   obtain⟨ga,ofa,ca,hqa,_,hca⟩:=rd_at_1 hur hlq
   simp only [Value.slice.injEq] at hqa
   obtain⟨rfl,z2,rfl⟩:=hqa
   rw [q1,hL0,Nat.add_zero] at hca
   rw [hL0] at q2
   have hn1:=numbers_nat (.slice xo X.length xc) (.slice lo2 y.length lc2) X y w4 (RX4.out w4 (Turn.refl _ _)) q2
   rw [decide_eq_true hX] at hn1
   have hn2:=fun(D:World) (hD:Ext w4 D)=>numbers_nat (.slice xo X.length xc) (.slice bo BX.length bc) X BX D (RX4.out D hD) (RB.out D hD)
   simp only [decide_eq_true (hX.trans hBX.symm)] at hn2
   have HN1:=Lib.hid hn1;have HN2:=Lib.hid hn2
   clear hn1 hn2 hLe hLy hX hBX hL0 q1 q2 hur hus z2 RX4
   have g7:(0:Int)<(al:Int):=by omega
   clear hla hlq hlp
   go_wp2_with fail
   refine HN1.out.mono ?_
   rintro e w7 ⟨rfl,mm,hm9⟩
   have h47:Ext w4 w7:=by rw [hm9];exact(Turn.refl _ w4).drewN _
   clear hm9 HN1 hca
   go_wp2_with fail
   refine(HN2.out w7 h47).mono ?_
   rintro e w5 ⟨rfl,mm,hm9⟩
   have h45:Ext w4 w5:=h47.trans (by rw [hm9];exact(Turn.refl _ w7).drewN _)
   have HE5:=Lib.hid (HE4.out.trans h45)
   clear hm9 HN2 h47 g9 g7
   go_wp2_with fail
   have hal:=HAL.out w5 hn4
   refine hal.mono ?_
   rintro e w6 ⟨_,rfl,⟨ro,rc,rfl,hgr⟩,hN⟩
   have HE6:=Lib.hid (HE5.out.trans hN)
   have h46:Ext w4 w6:=h45.trans hN
   have RG:Hid (∀ D,Ext w6 D->GridAt D (.slice ro RS.length rc) RS):=Lib.hid (fun D hD=>GridAt.ext hgr hD)
   have RB6:Hid (∀ D,Ext w6 D->Rd D (.slice bo BX.length bc) BX.length 1 (natV BX)):=Lib.hid (fun D hD=>RB.out D (h46.trans hD))
   have RA6:Hid (∀ D,Ext w6 D->GridAt D (.slice (some ⟨ga,ofa,none⟩) al ac) L):=Lib.hid (fun D hD=>RA4.out D (h46.trans hD))
   clear hgr hN hal HAL HE5 h45 h46 RB RA4
   obtain⟨Z,hZ⟩:∃ z,RS.length=z:=⟨_,rfl⟩
   obtain⟨bl,hbl9⟩:∃ z,BX.length=z:=⟨_,rfl⟩
   have HZ:=Lib.hid hZ;have HBL9:=Lib.hid hbl9
   rw [hZ] at hZ24 ⊢
   simp only [hbl9]
   clear hZ hbl9
   go_wp2
   refine wp_loop (ExSt Z (.slice lo n lc) (.slice po m pc) (.slice (some ⟨ga,ofa,none⟩) al ac) (.slice bo bl bc) (.slice ro Z rc) true bn (fun i=>((RS.take i).filter (fitsA (ps.map (·.1)) qs)).length) (fun i=>(bestS (ps.map (·.1)) qs (RS.take i)).2) w6) (fun a _=>((Z:Int) - intOf (a.tmps.getD 16 undef)).toNat) ?_ ?_
   ·exact⟨0,by omega,rfl,⟨rfl,rfl,rfl,rfl,rfl,rfl,rfl,rfl,rfl,rfl,rfl⟩,Turn.refl _ _⟩
   rintro⟨t,_⟩ W ⟨i,hi,hds,⟨hsz,f0,f1,f5,f8,f10,f11,f13,f14,f15,f16⟩,hE⟩
   dsimp only at f13 f14
   subst hds
   obtain⟨u',hu⟩:=frame_fun hsz
   obtain⟨u,rfl⟩:∃ x,x=u':=⟨_,rfl⟩
   have hu':t=#[u 0,u 1,u 2,u 3,u 4,u 5,u 6,u 7,u 8,u 9,u 10,u 11,u 12,u 13,u 14,u 15,u 16,u 17,u 18,u 19,u 20,u 21,u 22,u 23,u 24,u 25,u 26,u 27,u 28,u 29,u 30,u 31,u 32,u 33,u 34,u 35,u 36,u 37,u 38,u 39,u 40,u 41,u 42,u 43,u 44,u 45,u 46,u 47,u 48,u 49,u 50,u 51,u 52,u 53,u 54,u 55,u 56,u 57,u 58,u 59,u 60,u 61,u 62,u 63,u 64,u 65,u 66,u 67,u 68,u 69,u 70,u 71,u 72,u 73,u 74,u 75,u 76,u 77,u 78,u 79,u 80,u 81,u 82,u 83,u 84,u 85,u 86,u 87,u 88,u 89,u 90,u 91,u 92,u 93,u 94,u 95,u 96,u 97,u 98,u 99,u 100,u 101,u 102,u 103,u 104,u 105,u 106,u 107,u 108,u 109,u 110,u 111,u 112,u 113,u 114,u 115,u 116,u 117,u 118,u 119,u 120,u 121,u 122,u 123,u 124,u 125,u 126,u 127,u 128,u 129,u 130,u 131,u 132,u 133,u 134,u 135,u 136,u 137,u 138,u 139,u 140,u 141,u 142,u 143,u 144,u 145,u 146,u 147,u 148,u 149,u 150,u 151,u 152,u 153,u 154,u 155,u 156,u 157,u 158,u 159,u 160,u 161,u 162,u 163,u 164,u 165,u 166,u 167,u 168,u 169,u 170,u 171,u 172,u 173,u 174,u 175,u 176,u 177,u 178,u 179,u 180,u 181,u 182,u 183,u 184,u 185,u 186,u 187,u 188,u 189]:=hu
   clear hu
   subst hu'
   change u 0=_ at f0
   change u 1=_ at f1
   change u 5=_ at f5
   change u 8=_ at f8
   change u 10=_ at f10
   change u 11=_ at f11
   change u 13=_ at f13
   change u 14=_ at f14
   change u 15=_ at f15
   change u 16=_ at f16
   rw [f0,f1,f5,f8,f10,f11,f13,f14,f15,f16]
   clear f0 f1 f5 f8 f10 f11 f13 f14 f15 f16 hsz
   have HEW:=Lib.hid hE
   clear hE
   by_cases hiZ:i<Z
   case neg=>
    obtain rfl:i=Z:=by omega
    have h1:¬ (i:Int)<(i:Int):=by omega
    have e1:=HEN1.out
    have e2:=HEN2.out
    have e3:=HEN3.out
    rw [HZ.out] at e1 e2
    rw [e1,HAL9.out,e2]
    have hbq:((bn:Int) ==(m:Int))=true:=by rw [e3];by_cases h:bn=(m:Int) <;> simp [h]
    clear e1 e2 e3 HEN1 HEN2 HEN3 HRO2 HFV2 HBY HFI HLT HCLT HBYL HBSL RG RB6 RA6 HH1 HH2
    go_wp2_with fail
    refine(HWO.out W (HE6.out.trans HEW.out)).mono ?_
    rintro e w7 ⟨rfl,hN⟩
    have HE7:=Lib.hid ((HE6.out.trans HEW.out).trans hN)
    clear hN
    go_wp2
    go_ret
    exact⟨rfl,HE7.out⟩
   have h1:(i:Int)<(Z:Int):=by omega
   have h0:(0:Int)<=(i:Int):=by omega
   have hiR:i<RS.length:=by rw [HZ.out];exact hiZ
   obtain⟨vs,hvr,hrs⟩:=RG.out W HEW.out
   obtain⟨eo,ec,e1,e2⟩:=hrs i hiR
   rw [HZ.out] at hvr
   obtain⟨gr,ofr,cr,hqr,_,hcr⟩:=rd_at_1 hvr hiZ
   simp only [Value.slice.injEq] at hqr
   obtain⟨rfl,z1,rfl⟩:=hqr
   rw [e1] at hcr
   have hxm:RS[i]∈RS:=List.getElem_mem hiR
   obtain⟨hxl,hxlt⟩:=HLT.out _ hxm
   have hro:=HRO2.out i _ (List.getElem?_eq_getElem hiR)
   have hfv:=HFV2.out _ hxm
   obtain⟨x,hx⟩:∃ x,RS[i]=x:=⟨_,rfl⟩
   rw [hx] at hcr e2 hxl hro hfv
   simp only [hx] at hxlt
   rw [hxl] at hcr e2
   have hby:=HBY.out W (HE6.out.trans HEW.out) x eo ec e2 hxl hxlt hn4
   have hfi:=fun(V:World) (hV:Ext W V)=>HFI.out V ((HE6.out.trans HEW.out).trans hV) x eo ec (e2.ext hV) hxl
   simp only [hfv.1,hfv.2.1,hfv.2.2] at hfi
   have hcl:=HCLT.out x
   have hbl:=HBYL.out x
   have hbs:=HBSL.out (RS.take i)
   obtain⟨c,hc⟩:∃ c,cntR ps qs x=c:=⟨_,rfl⟩
   obtain⟨f,hf⟩:∃ f,byI ps x qs=f:=⟨_,rfl⟩
   rw [hc] at hby hro hcl
   rw [hf] at hby hro hbl
   simp only [hf] at hfi
   obtain⟨ht1,ht2,ht3,ht4,ht5⟩:=hro
   obtain⟨K,hK⟩:∃ k,((RS.take i).filter (fitsA (ps.map (·.1)) qs)).length=k:=⟨_,rfl⟩
   obtain⟨K2,hK2⟩:∃ k,((RS.take (i+1)).filter (fitsA (ps.map (·.1)) qs)).length=k:=⟨_,rfl⟩
   obtain⟨mo,hmo⟩:∃ k,(bestS (ps.map (·.1)) qs (RS.take i)).2=k:=⟨_,rfl⟩
   obtain⟨mo2,hmo2⟩:∃ k,(bestS (ps.map (·.1)) qs (RS.take (i+1))).2=k:=⟨_,rfl⟩
   rw [hK,hK2] at ht1
   rw [hK,hK2] at ht2
   rw [hmo,hmo2] at ht3 ht4
   rw [hmo] at ht5 hbs
   rw [hK,hmo]
   have hkb:K<=i:=by rw [<-hK];exact Nat.le_trans (List.length_filter_le _ _) (by rw [List.length_take];omega)
   have HT1:=Lib.hid ht1;have HT2:=Lib.hid ht2;have HT3:=Lib.hid ht3;have HT4:=Lib.hid ht4;have HT5:=Lib.hid ht5;have HK2:=Lib.hid hK2;have HMO2:=Lib.hid hmo2;have HBY2:=Lib.hid hby;have HFI2:=Lib.hid hfi;have HCR:=Lib.hid hcr;have HXE:=Lib.hid e2;have HXL:=Lib.hid hxl
   clear ht1 ht2 ht3 ht4 ht5 hK hK2 hmo hmo2 hby hfi hx hxm hxlt hfv hc hf e1 e2 z1 hvr hrs hxl HBY HFI HRO2 HFV2 HLT HCLT HBYL HBSL HEN1 HEN2 HEN3 HH1 HH2
   go_wp2_with fail
   refine HBY2.out.mono ?_
   rintro e V2 ⟨rfl,hN⟩
   have hcr:=hN.cell_some HCR.out id
   have hfi:=HFI2.out V2 hN
   have HFI3:=Lib.hid hfi
   have HN2:=Lib.hid hN
   clear hN hfi HBY2 HFI2
   go_wp2_with fail
   refine HFI3.out.mono ?_
   rintro e V3 ⟨rfl,hN⟩
   have HW3:=Lib.hid (HN2.out.trans hN)
   have hcr:=(HN2.out.trans hN).cell_some HCR.out id
   have HCX:=Lib.hid hcr
   clear hN HFI3 HN2 HCR
   by_cases hf0:f<0
   case pos=>
    have g1:¬ f>=0:=by omega
    have g2:decide (0<=f)=false:=decide_eq_false (by omega)
    have g3:max f 0=0:=by omega
    obtain⟨hat,hK1⟩:=HT1.out hf0
    have hKL:K<L.length:=(List.getElem?_eq_some_iff.1 hat).1
    have hLx:L[K]=x:=by have:=(List.getElem?_eq_some_iff.1 hat).2;exact this
    obtain⟨us,hur,hus⟩:=RA6.out V3 (HEW.out.trans HW3.out)
    obtain⟨lo2,lc2,q1,q2⟩:=hus K hKL
    rw [hLx] at q1 q2
    rw [HAL9.out] at hur hKL
    obtain⟨ga2,ofa2,ca2,hqa,_,hca⟩:=rd_at_1 hur hKL
    simp only [Value.slice.injEq] at hqa
    obtain⟨hq1,z2,hq3⟩:=hqa
    cases hq1
    subst hq3
    rw [q1,HXL.out] at hca
    rw [HXL.out] at q2
    have g4:¬ (K:Int)>=(al:Int):=by omega
    have g4a:¬ (al:Int)<=(K:Int):=by omega
    have g4b:decide ((K:Int)>=(al:Int))=false:=decide_eq_false g4
    have g4c:decide ((al:Int)<=(K:Int))=false:=decide_eq_false g4a
    have g4d:decide (al<=K)=false:=decide_eq_false (by omega)
    have g5:(K:Int)<(al:Int):=by omega
    have g6:(0:Int)<=(K:Int):=by omega
    have hnb:=fun(D:World) (hD:Ext V3 D)=>numbers_nat (.slice lo2 n lc2) (.slice eo n ec) x x D (by rw [HXL.out];exact q2.ext hD) (by rw [HXL.out];exact HXE.out.ext (HW3.out.trans hD))
    simp only [decide_eq_true] at hnb
    have HNB:=Lib.hid hnb;have HCL:=Lib.hid hca;have HK1:=Lib.hid hK1
    clear hnb hca hat hLx q1 q2 z2 hur hus hK1 HT1 HT2 hcr
    go_upto_region 18 with (fail)
    have hS0:Ext V3 V3.drew:=(Turn.refl _ V3).drew
    refine wp_region_late (S:=fun D=>Ext V3 D) [] (by kernel_rfl) hS0 ?_
    intro _
    obtain⟨U0,hU0⟩:∃ D,V3.drew=D:=⟨_,rfl⟩
    rw [hU0] at hS0 ⊢
    clear hU0
    refine tkE (i:=0) (d:=136) (v:=?_) rfl (Or.inl ⟨by rfl,?_⟩) hS0 ?_
    rotate_left
    ·intro w hSw;(try dsimp only at hSw);go_simp;try with_reducible rfl
    try simp only [Act.put,pq]
    refine tkE (i:=1) (d:=137) (v:=?_) rfl (Or.inl ⟨by rfl,?_⟩) hS0 ?_
    rotate_left
    ·intro w hSw;(try dsimp only at hSw);go_simp;try with_reducible rfl
    try simp only [Act.put,pq]
    refine tkE (i:=2) (d:=138) (v:=?_) rfl (Or.inl ⟨by rfl,?_⟩) hS0 ?_
    rotate_left
    ·intro w hSw;(try dsimp only at hSw);go_simp;try with_reducible rfl
    try simp only [Act.put,pq]
    refine tkE (i:=3) (d:=139) (v:=?_) rfl (Or.inl ⟨by rfl,?_⟩) hS0 ?_
    rotate_left
    ·intro w hSw;(try dsimp only at hSw);go_simp;try with_reducible rfl
    try simp only [Act.put,pq]
    refine tkE (i:=4) (d:=140) (v:=?_) rfl (Or.inl ⟨by rfl,?_⟩) hS0 ?_
    rotate_left
    ·intro w hSw;(try dsimp only at hSw);go_simp;try with_reducible rfl
    try simp only [Act.put,pq]
    refine tkE (i:=5) (d:=141) (v:=?_) rfl (Or.inl ⟨by rfl,?_⟩) hS0 ?_
    rotate_left
    ·intro w hSw;(try dsimp only at hSw);go_simp;try with_reducible rfl
    try simp only [Act.put,pq]
    refine tkE (i:=6) (d:=142) (v:=?_) rfl (Or.inl ⟨by rfl,?_⟩) hS0 ?_
    rotate_left
    ·intro w hSw;(try dsimp only at hSw);go_simp;try with_reducible rfl
    try simp only [Act.put,pq]
    refine tkE (i:=7) (d:=143) (v:=?_) rfl (Or.inl ⟨by rfl,?_⟩) hS0 ?_
    rotate_left
    ·intro w hSw;(try dsimp only at hSw);go_simp;try with_reducible rfl
    try simp only [Act.put,pq]
    refine tkE (i:=8) (d:=144) (v:=?_) rfl (Or.inl ⟨by rfl,?_⟩) hS0 ?_
    rotate_left
    ·intro D hD;have c1:=(show Ext V3 D from hD).cell_some HCL.out id;have c2:=(show Ext V3 D from hD).cell_some HCX.out id;go_simp;try with_reducible rfl
    try simp only [Act.put,pq]
    refine tkE (i:=9) (d:=145) (v:=?_) rfl (Or.inl ⟨by rfl,?_⟩) hS0 ?_
    rotate_left
    ·intro w hSw;(try dsimp only at hSw);go_simp;try with_reducible rfl
    try simp only [Act.put,pq]
    refine tkE (i:=10) (d:=146) (v:=?_) rfl (Or.inl ⟨by rfl,?_⟩) hS0 ?_
    rotate_left
    ·intro w hSw;(try dsimp only at hSw);go_simp;try with_reducible rfl
    try simp only [Act.put,pq]
    refine tkE (i:=11) (d:=147) (v:=?_) rfl (Or.inl ⟨by rfl,?_⟩) hS0 ?_
    rotate_left
    ·intro w hSw;(try dsimp only at hSw);go_simp;try with_reducible rfl
    try simp only [Act.put,pq]
    refine tkE (i:=12) (d:=148) (v:=?_) rfl (Or.inl ⟨by rfl,?_⟩) hS0 ?_
    rotate_left
    ·intro D hD;have c1:=(show Ext V3 D from hD).cell_some HCL.out id;have c2:=(show Ext V3 D from hD).cell_some HCX.out id;go_simp;try with_reducible rfl
    try simp only [Act.put,pq]
    refine wpAnyE_ready (rs:=[13]) (by kernel_rfl) (by simp) ?_
    refine AllReadyE.cons rfl (fun K hK=>?_) AllReadyE.nil
    (try rw [if_pos (show Region.wanted _ _=true from rfl)])
    go_simp
    refine(HNB.out U0 hS0).mono ?_
    rintro e V4 ⟨rfl,mm,hm9⟩
    have hS1:Ext V3 V4:=by rw [hm9];exact hS0.trans ((Turn.refl _ U0).drewN _)
    clear hm9
    refine hK _ _ hS1 (fun _=>?_)
    clear hK K
    try simp only [Act.put,pq]
    refine tkE (i:=14) (d:=150) (v:=?_) rfl (Or.inl ⟨by rfl,?_⟩) hS1 ?_
    rotate_left
    ·intro w hSw;(try dsimp only at hSw);go_simp;try with_reducible rfl
    try simp only [Act.put,pq]
    refine tkE (i:=15) (d:=151) (v:=?_) rfl (Or.inl ⟨by rfl,?_⟩) hS1 ?_
    rotate_left
    ·intro w hSw;(try dsimp only at hSw);go_simp;try with_reducible rfl
    try simp only [Act.put,pq]
    refine wpAnyE_done (by kernel_rfl) ?_ _
    have HS1:=Lib.hid hS1
    clear hS1 hS0 HNB HCL
    have hcr:=HS1.out.cell_some HCX.out id
    by_cases hmc:mo<(c:Int)
    ·have k1:(c:Int) > mo:=hmc
     have hm2:=HT3.out hmc
     have hbx:=HT5.out hmc
     have HM2:=Lib.hid hm2;have HBXX:=Lib.hid hbx
     clear hm2 hbx HT3 HT4 HT5
     by_cases hcb:(c:Int)=bn
     ·have hbx:=HBXX.out hcb
      subst hcb
      have hnb:=numbers_nat (.slice bo bl bc) (.slice eo n ec) x x V4 (by have:=RB6.out V4 (HEW.out.trans (HW3.out.trans HS1.out));rw [HBL9.out,hbx] at this;have e9:=HBL9.out;rw [hbx] at e9;rw [e9];exact this) (by rw [HXL.out];exact HXE.out.ext (HW3.out.trans HS1.out))
      rw [decide_eq_true rfl] at hnb
      have HNB:=Lib.hid hnb
      clear hnb hbx HBXX
      go_wp2_with fail
      refine HNB.out.mono ?_
      rintro e V5 ⟨rfl,mm,hm9⟩
      have HE9:=Lib.hid ((HEW.out.trans (HW3.out.trans HS1.out)).trans (show Ext V4 V5 by rw [hm9];exact(Turn.refl _ V4).drewN _))
      clear hm9 HNB hcr
      go_wp2
      exact⟨⟨i+1,by omega,by first | rfl | trivial,⟨rfl,rfl,rfl,rfl,rfl,rfl,rfl,by dsimp only;rw [HK2.out,HK1.out];rfl,by dsimp only;rw [HMO2.out,HM2.out];rfl,rfl,rfl⟩,HE9.out⟩,by first | (simp [intOf];done) | (simp [intOf];omega)⟩
     ·have k2:((c:Int) == bn)=false:=by rw [beq_eq_false_iff_ne];exact hcb
      clear HBXX
      go_wp2
      exact⟨⟨i+1,by omega,by first | rfl | trivial,⟨rfl,rfl,rfl,rfl,rfl,rfl,rfl,by dsimp only;rw [HK2.out,HK1.out];rfl,by dsimp only;rw [HMO2.out,HM2.out];rfl,rfl,rfl⟩,HEW.out.trans (HW3.out.trans HS1.out)⟩,by first | (simp [intOf];done) | (simp [intOf];omega)⟩
    ·have k1:¬ (c:Int) > mo:=hmc
     have hm2:=HT4.out (by omega)
     have HM2:=Lib.hid hm2
     clear hm2 HT3 HT4 HT5
     go_wp2
     exact⟨⟨i+1,by omega,by first | rfl | trivial,⟨rfl,rfl,rfl,rfl,rfl,rfl,rfl,by dsimp only;rw [HK2.out,HK1.out];rfl,by dsimp only;rw [HMO2.out,HM2.out];rfl,rfl,rfl⟩,HEW.out.trans (HW3.out.trans HS1.out)⟩,by first | (simp [intOf];done) | (simp [intOf];omega)⟩
   have g1:f>=0:=by omega
   have g2:decide (0<=f)=true:=decide_eq_true (by omega)
   have g3:max f 0=f:=by omega
   have hK1:=HT2.out (by omega)
   have HK1:=Lib.hid hK1
   clear hK1 HT1 HT2
   by_cases hmc:mo<(c:Int)
   ·have k1:(c:Int) > mo:=hmc
    have hm2:=HT3.out hmc
    have hbx:=HT5.out hmc
    have HM2:=Lib.hid hm2;have HBXX:=Lib.hid hbx
    clear hm2 hbx HT3 HT4 HT5
    by_cases hcb:(c:Int)=bn
    ·have hbx:=HBXX.out hcb
     subst hcb
     have hnb:=numbers_nat (.slice bo bl bc) (.slice eo n ec) x x V3 (by have:=RB6.out V3 (HEW.out.trans HW3.out);rw [HBL9.out,hbx] at this;have e9:=HBL9.out;rw [hbx] at e9;rw [e9];exact this) (by rw [HXL.out];exact HXE.out.ext HW3.out)
     rw [decide_eq_true rfl] at hnb
     have HNB:=Lib.hid hnb
     clear hnb hbx HBXX
     go_wp2_with fail
     refine HNB.out.mono ?_
     rintro e V5 ⟨rfl,mm,hm9⟩
     have HE9:=Lib.hid ((HEW.out.trans HW3.out).trans (show Ext V3 V5 by rw [hm9];exact(Turn.refl _ V3).drewN _))
     clear hm9 HNB hcr
     go_wp2
     exact⟨⟨i+1,by omega,by first | rfl | trivial,⟨rfl,rfl,rfl,rfl,rfl,rfl,rfl,by dsimp only;rw [HK2.out,HK1.out];rfl,by dsimp only;rw [HMO2.out,HM2.out];rfl,rfl,rfl⟩,HE9.out⟩,by first | (simp [intOf];done) | (simp [intOf];omega)⟩
    ·have k2:((c:Int) == bn)=false:=by rw [beq_eq_false_iff_ne];exact hcb
     clear HBXX
     go_wp2
     exact⟨⟨i+1,by omega,by first | rfl | trivial,⟨rfl,rfl,rfl,rfl,rfl,rfl,rfl,by dsimp only;rw [HK2.out,HK1.out];rfl,by dsimp only;rw [HMO2.out,HM2.out];rfl,rfl,rfl⟩,HEW.out.trans HW3.out⟩,by first | (simp [intOf];done) | (simp [intOf];omega)⟩
   ·have k1:¬ (c:Int) > mo:=hmc
    have hm2:=HT4.out (by omega)
    have HM2:=Lib.hid hm2
    clear hm2 HT3 HT4 HT5
    go_wp2
    exact⟨⟨i+1,by omega,by first | rfl | trivial,⟨rfl,rfl,rfl,rfl,rfl,rfl,rfl,by dsimp only;rw [HK2.out,HK1.out];rfl,by dsimp only;rw [HMO2.out,HM2.out];rfl,rfl,rfl⟩,HEW.out.trans HW3.out⟩,by first | (simp [intOf];done) | (simp [intOf];omega)⟩
end Go.Proofs.YtfdlhlghcbeblaaGreatDoor
namespace Go.Ab
open Go.RowKit Go.ChangeShapes Go.WideShapes
section
variable {H:Type} {enc:TypeId × Value->H} {P:Program} {w:World} {base b0:Nat} {held:Bool} {r:Reach} {t e q:TypeId} {k:IntKind} {v:Value} {d:DataW H} {ps:List MemPlace}
def intsK(k:IntKind)(l:List Int):List Value:=l.map (Value.int k)
def prsK(k:IntKind)(l:List (Int × Int)):List Value:=l.flatMap fun p=>[Value.int k p.1,Value.int k p.2]
theorem cell_lt{w:World}{p:Addr}{v:Value}(h:w.cell? p=some v):p.block<w.heap.size:=by
 apply Nat.lt_of_not_le;intro hle
 simp [World.cell?,Array.getElem?_eq_none hle] at h
theorem open_ints_rd(ht:P.underlying t=some (.slice e)) (he:P.underlying e=some (.int k)) (hc:P.cellsOf e=1) (hval:Value.okWide P w r b0 t v) (hd:DataW.Trod enc P w base (fun _=>true) held t v d ps) :
  ∃ l:List Int,Rd w v l.length 1 (intsK k l)/\∀ n∈l,(Lit.int k n).wf=true:=by
 obtain⟨ao,len,cap,rfl⟩:=okWide_slice ht hval
 obtain⟨fuel,hf⟩:=hd
 rcases open_ints ht he hc hf with ⟨h,_⟩ | ⟨a,len',cap',zs,h,_,hl,hm,hz,_,hcell,hw⟩
 ·simp [Value.cells] at h
  obtain⟨rfl,rfl,rfl⟩:=h
  exact⟨[],⟨rfl,by simp [maxLen],none,0,rfl,fun h=>by simp at h⟩,by simp⟩
 ·simp [Value.cells] at h
  obtain⟨rfl,rfl,rfl⟩:=h
  simp only [if_true] at hz
  have htl:(zs.take len).length=len:=by simp;omega
  refine⟨zs.take len,⟨by simp [intsK],by rw [htl];omega,some a,cap,by rw [htl],fun h0=>?_⟩,fun n hn=>hw n (List.mem_of_mem_take hn)⟩
  obtain⟨b,off,rfl,hcs⟩:=ints_at hcell (by omega)
  refine⟨b,off,rfl,cell_lt (hcs 0 (by omega)),fun j hj=>?_⟩
  rw [hcs j (by omega)]
  have hj':j<len:=by omega
  simp [intsK,List.getD_eq_getElem?_getD,hj',show j<zs.length by omega]
theorem cells_two{a:Addr}{cs:List Value}(h:w.cells? base a 2=some cs):∃ c0 c1,cs=[c0,c1]/\w.cell? a=some c0/\w.cell? (a.add 1)=some c1:=by
 obtain⟨_,hl,hx⟩:=World.cells?_some h
 match cs,hl with
 | [c0,c1],_=>
  have h0:=hx 0 (by decide)
  have h1:=hx 1 (by decide)
  exact⟨c0,c1,rfl,by simpa [Addr.add] using h0,by simpa using h1⟩
theorem trod_two{fuel:Nat}{c0 c1:Value}{x:DataW H × List MemPlace}{spare:Nat->Bool}(ht:P.underlying t=some (.array 2 q)) (hq:P.underlying q=some (.int k)) (hc:P.cellsOf q=1) (h:DataW.trod enc P w base spare held fuel t [c0,c1]=some x) :
  ∃ m n,c0=.int k m/\c1=.int k n/\(Lit.int k m).wf=true/\(Lit.int k n).wf=true:=by
 obtain⟨xs,m,rfl,rfl,_,hxs,hx⟩:=DataW.trod_array ht h
 have h0:=hx 0 (by decide)
 have h1:=hx 1 (by decide)
 rw [hc] at h0 h1
 rw [List.getElem?_eq_getElem (by omega)] at h0 h1
 obtain⟨m0,e0,_,w0⟩:=DataW.trod_int hq h0
 obtain⟨m1,e1,_,w1⟩:=DataW.trod_int hq h1
 simp at e0 e1
 exact⟨m0,m1,e0,e1,w0,w1⟩
theorem prsK_cons(k:IntKind)(p:Int × Int)(l:List (Int × Int)):prsK k (p::l)=.int k p.1::.int k p.2::prsK k l:=rfl
theorem prsK_length(k:IntKind)(l:List (Int × Int)):(prsK k l).length=l.length*2:=by
 induction l with
 | nil=>rfl
 | cons p l ih=>simp [prsK_cons,ih];omega
theorem prsK_get(k:IntKind)(l:List (Int × Int)) (i:Nat) (h:i<l.length):(prsK k l)[i*2]?=some (.int k (l[i]).1)/\(prsK k l)[i*2+1]?=some (.int k (l[i]).2):=by
 induction l generalizing i with
 | nil=>simp at h
 | cons p l ih=>
  cases i with
  | zero=>simp [prsK_cons]
  | succ i=>
   rw [prsK_cons,show (i+1)*2=i*2+1+1 by omega]
   simpa using ih i (by simpa using h)
theorem open_pairs_rd(ht:P.underlying t=some (.slice e)) (he:P.underlying e=some (.array 2 q)) (hq:P.underlying q=some (.int k)) (hce:P.cellsOf e=2) (hcq:P.cellsOf q=1) (hval:Value.okWide P w r b0 t v) (hd:DataW.Trod enc P w base (fun _=>true) held t v d ps) :
  ∃ l:List (Int × Int),Rd w v l.length 2 (prsK k l)/\∀ p∈l,(Lit.int k p.1).wf=true/\(Lit.int k p.2).wf=true:=by
 obtain⟨ao,len,cap,rfl⟩:=okWide_slice ht hval
 obtain⟨fuel,hf⟩:=hd
 rcases Deep.open_slice ht hf with ⟨h,_⟩ | ⟨a,len',cap',m,n,D,Pl,h,_,hl,hm,hmm,_,hx⟩
 ·simp [Value.cells] at h
  obtain⟨rfl,rfl,rfl⟩:=h
  exact⟨[],⟨rfl,by simp [maxLen],none,0,rfl,fun h=>by simp at h⟩,by simp⟩
 ·simp [Value.cells] at h
  obtain⟨rfl,rfl,rfl⟩:=h
  simp only [if_true] at hmm
  subst hmm
  rw [hce] at hx
  have each:∀ i,i<len->∃ p:Int × Int,w.cell? (a.add (i*2))=some (.int k p.1)/\w.cell? ((a.add (i*2)).add 1)=some (.int k p.2)/\(Lit.int k p.1).wf=true/\(Lit.int k p.2).wf=true:=by
   intro i hi
   obtain⟨cs',h1,h2⟩:=hx i (by omega)
   obtain⟨c0,c1,rfl,k0,k1⟩:=cells_two h1
   obtain⟨m,n,rfl,rfl,w0,w1⟩:=trod_two he hq hcq h2
   exact⟨(m,n),k0,k1,w0,w1⟩
  obtain⟨f,hfp⟩:=Deep.choose_lt each
  refine⟨(List.range len).map f,⟨by simp [prsK_length],by simp;omega,some a,m,by simp,fun h0=>?_⟩,fun p hp=>?_⟩
  ·simp at h0
   obtain⟨b,off,spot⟩:=a
   have hspot:spot=none:=by simpa [Addr.add] using World.cell?_spot (hfp 0 h0).1
   subst hspot
   have hlt:=cell_lt (hfp 0 h0).1
   refine⟨b,off,rfl,by simpa [Addr.add] using hlt,fun j hj=>?_⟩
   simp only [List.length_map,List.length_range] at hj
   have hi:j / 2<len:=by omega
   obtain⟨q0,q1,_,_⟩:=hfp (j / 2) hi
   have g:=prsK_get k ((List.range len).map f) (j / 2) (by simpa using hi)
   simp only [List.getElem_map,List.getElem_range] at g
   rw [<-Go.WideShapes.add_plain,List.getD_eq_getElem?_getD]
   rcases Nat.mod_two_eq_zero_or_one j with hj2 | hj2
   ·have ej:j / 2*2=j:=by omega
    rw [ej] at q0 g
    rw [q0,g.1];rfl
   ·have ej:j / 2*2+1=j:=by omega
    rw [Deep.add_add,ej] at q1
    rw [ej] at g
    rw [q1,g.2];rfl
  ·obtain⟨i,hi,rfl⟩:=List.mem_map.1 hp
   have:=hfp i (List.mem_range.1 hi)
   exact this.2.2
theorem nat_pairs{l:List (Int × Int)} (h:∀ p∈l,(Lit.int .u8 p.1).wf=true/\(Lit.int .u8 p.2).wf=true) :
  ∃ m:List (Nat × Nat),m.length=l.length/\prsK .u8 l=m.flatMap (fun p=>[Value.int .u8 p.1,Value.int .u8 p.2])/\∀ p∈m,p.1<256/\p.2<256:=by
 induction l with
 | nil=>exact⟨[],rfl,rfl,by simp⟩
 | cons p l ih=>
  obtain⟨m,h1,h2,h3⟩:=ih fun q hq=>h q (List.mem_cons_of_mem _ hq)
  have hp:=h p (List.mem_cons_self ..)
  have b1:=bounds_u8 hp.1
  have b2:=bounds_u8 hp.2
  refine⟨(p.1.toNat,p.2.toNat)::m,by simp [h1],?_,?_⟩
  ·rw [prsK_cons,h2]
   simp [Int.toNat_of_nonneg b1.1,Int.toNat_of_nonneg b2.1]
  ·intro q hq
   rcases List.mem_cons.1 hq with rfl | hq
   ·constructor <;> simp only [] <;> omega
   ·exact h3 q hq
theorem open_pair(ht:P.underlying t=some (.array 2 q)) (hq:P.underlying q=some (.int k)) (hc:P.cellsOf q=1) (hc2:P.cellsOf t=2) (hval:Value.okWide P w r b0 t v) (hd:DataW.Trod enc P w base (fun _=>true) held t v d ps) :
  ∃ m n,v=.agg #[.int k m,.int k n]/\(Lit.int k m).wf=true/\(Lit.int k n).wf=true:=by
 have:∃ cs,v=.agg cs/\cs.size=P.cellsOf t:=by
  unfold Value.okWide at hval
  rw [ht] at hval
  obtain⟨cs,h1,h2,_⟩:=hval
  exact⟨cs,h1,h2⟩
 obtain⟨cs,rfl,hs⟩:=this
 rw [hc2] at hs
 obtain⟨fuel,hf⟩:=hd
 obtain⟨c0,c1,rfl⟩:∃ c0 c1,cs=#[c0,c1]:=⟨cs[0],cs[1],by apply Array.ext;simp [hs];intro i h1 h2;match i,h2 with | 0,_=>rfl | 1,_=>rfl⟩
 simp [Value.cells] at hf
 obtain⟨m,n,rfl,rfl,w0,w1⟩:=trod_two ht hq hc hf
 exact⟨m,n,rfl,w0,w1⟩
end
end Go.Ab
