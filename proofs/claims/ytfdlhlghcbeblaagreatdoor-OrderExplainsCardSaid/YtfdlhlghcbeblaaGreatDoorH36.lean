/- order.All: its walk. order.Best. math/bits.TrailingZeros64 and chron.events: the iterator over the bits of a number. chron.Order in memory; its plain methods. -/
import Derived.Test.YtfdlhlghcbeblaaGreatDoorH35
import Derived.Test.YtfdlhlghcbeblaaGreatDoorH10
import Derived.Test.YtfdlhlghcbeblaaGreatDoorH31
import Derived.Test.YtfdlhlghcbeblaaGreatDoorH00
import Derived.WalkLawsBesides
import Derived.Handy
import Derived.Lib.Hide
import Derived.Shelf.Spec.TrailingZeros
set_option maxRecDepth 100000
set_option maxHeartbeats 16000000
namespace Go.Proofs.YtfdlhlghcbeblaaGreatDoor
open Go.RowKit Go.Ab
attribute [local go_sem] Oper.semAt_some wide_fn wide_depth
theorem res_2{fn:Func}{t u:Tmp}(h:fn.results=#[.tmp t,.tmp u]){tmps:Array Value}{P:Program}{w:World}{x y:Value}(hx:tmps.getD t undef=x)(hy:tmps.getD u undef=y):(results fn tmps).run P w=.ok (.tuple #[x,y]) w:=by
 subst hx hy
 simp [results,h,go_sem]
theorem res_3{fn:Func}{t u q:Tmp}(h:fn.results=#[.tmp t,.tmp u,.tmp q]){tmps:Array Value}{P:Program}{w:World}{x y z:Value}(hx:tmps.getD t undef=x)(hy:tmps.getD u undef=y)(hz:tmps.getD q undef=z):(results fn tmps).run P w=.ok (.tuple #[x,y,z]) w:=by
 subst hx hy hz
 simp [results,h,go_sem]
theorem explL_length(LD:List LawD)(qs:PairsL)(n:Nat):(explL LD qs n).length<=(permsF n (List.range n)).length:=List.length_filter_le _ _
theorem grid_shut{V w':World}{base base':Nat}{O:Nat->Prop}{v:Value}{vs:List Value}{L:List (List Nat)} (h3:V.ownsRow base 48 1 v L.length vs) (h5:GridV base O V vs L) (ht:Turn (Go.Ab.Shut base' V) V w'):GridAt w' v L:=
 ⟨vs,Rd.of_own (own_keep h3 ht (fun g hg e=>by obtain⟨cur,hc⟩:=own_block_ty h3 hg;exact Go.Ab.Shut.not hc rfl e)),fun i hi=>by
  obtain⟨a1,c1,q1,q2,_⟩:=h5.2 i hi
  exact⟨a1,c1,q1,Rd.of_own (own_keep q2 ht (fun g hg e=>by obtain⟨cur,hc⟩:=own_block_ty q2 hg;exact Go.Ab.Shut.not hc rfl e))⟩⟩
theorem all_cap{w:World}{ps:LawsL}{qs:PairsL}{lo:Option Addr}{n lc:Nat}{po:Option Addr}{m pc:Nat}{most:Int}(hl:LawsAt w (.slice lo n lc) ps) (hn:ps.length=n) (hp:PairsAt w (.slice po m pc) qs) (hm:qs.length=m) (hT:Tab w) :
  Calls Tryz.prog 39 #[.slice lo n lc,.slice po m pc,.int .i64 most] w fun e w'=>∃ ao c,e=.returned (.tuple #[.slice ao (allL (ps.map (·.1)) qs most).length c,.int .i64 (ordE (ps.map (·.1)) (qs.map (·.1)))])/\(GridAt w' (.slice ao (allL (ps.map (·.1)) qs most).length c) (allL (ps.map (·.1)) qs most)/\(allL (ps.map (·.1)) qs most).length<=c)/\Ext w w':=by
 have hck:=fun(V:World) (hE:Ext w V)=>ocheck_any (hl.ext hE) hn (pairs_ext hp hE) hm (hT.keep hE id)
 obtain⟨LD,hLD⟩:∃ x,ps.map (·.1)=x:=⟨_,rfl⟩
 have hLn:LD.length=n:=by rw [<-hLD,List.length_map,hn]
 have hsix:ordE LD (qs.map (·.1))=0->n<=6/\m<=1000:=fun h=>by have:=ordE_six h;rw [hLn,List.length_map,hm] at this;omega
 have hit:=fun(h:ordE LD (qs.map (·.1))=0) (V:World) (B1 B2:Nat) (hE:Ext w V) (h1:V.heap[B1]?=_) (h2:V.heap[B2]?=_)=>expl_iter hE hl hn (hsix h).1 hp hm (hsix h).2 hT h1 h2
 have hlen:ordE LD (qs.map (·.1))=0->(explL LD qs n).length<=720:=fun h=>by
  have h1:=explL_length LD qs n
  have h2:=perms_count n (hsix h).1
  omega
 rw [hLD]
 simp only [hLD] at hck hit
 obtain⟨X,hX⟩:∃ x,allL LD qs most=x:=⟨_,rfl⟩
 rw [hX]
 unfold allL at hX
 rw [hLn] at hX
 obtain⟨L,hL⟩:∃ x,explL LD qs n=x:=⟨_,rfl⟩
 obtain⟨E,hE0⟩:∃ x,ordE LD (qs.map (·.1))=x:=⟨_,rfl⟩
 rw [hL,hE0] at hX hlen
 rw [hE0] at hit ⊢
 simp only [hL] at hit
 simp only [hE0] at hck
 have HCK:=Lib.hid hck;have HIT:=Lib.hid hit;have HX:=Lib.hid hX;have HLEN:=Lib.hid hlen
 clear hck hit hX hlen hL hE0 hsix hLD hLn hl hn hp hm hT
 refine calls_of_wp_marks Tryz.func39 rfl ?_
 simp only [Tryz.ntmps39,List.size_toArray,List.length_cons,List.length_nil,Nat.reduceAdd,Nat.reduceSub,Array.replicate_succ,Array.replicate_zero,List.push_toArray,List.append_toArray,List.nil_append,List.cons_append]
 go_upto_region 1 with (fail)
 obtain⟨N,hN⟩:∃ N,w.heap.size=N:=⟨_,rfl⟩
 obtain⟨w1,hw1⟩:∃ D,w.alloc (.cells #[.int .i64 most] 3)=D:=⟨_,rfl⟩
 have hE1:Ext w w1:=by rw [<-hw1];exact(Turn.refl _ w).alloc _
 have h10:w1.heap[N]?=some (.cells #[.int .i64 most] 3 (0,0)):=by rw [<-hw1];exact new_at hN.symm
 rw [hN,hw1]
 have HE1:=Lib.hid hE1;have H10:=Lib.hid h10;have HN:=Lib.hid hN
 clear hE1 h10 hw1 hN
 go_wp2_with fail
 refine(HCK.out _ HE1.out).mono ?_
 rintro e w2 ⟨rfl,hN2⟩
 have H20:=Lib.hid (hN2.keep H10.out);have HE2:=Lib.hid (HE1.out.trans hN2)
 clear hN2 HE1 H10 HCK
 by_cases hE0:E=0
 case neg=>
  have hne:(E != 0)=true:=by simpa using hE0
  have hx:=HX.out
  rw [if_neg hE0] at hx
  subst hx
  go_wp2
  refine leavesM (v:=.tuple #[.slice none 0 0,.int .i64 E]) (base:=N) _ _ trivial fun w' ht' hs=>⟨res_2 rfl rfl rfl,none,0,rfl,⟨grid_nil _,Nat.le_refl _⟩,Turn.after HE2.out ht' (fun b hb h=>by have:=h.1;have:=HN.out;omega)⟩
 subst hE0
 have hx:=HX.out
 rw [if_pos (by first | trivial | rfl)] at hx
 have HX2:=Lib.hid hx;have HLN:=Lib.hid (HLEN.out (by first | trivial | rfl))
 clear hx HX HLEN
 go_upto_region 5 with (fail)
 obtain⟨w3,hw3⟩:∃ D,w2.alloc (.cells #[.slice none 0 0] 27)=D:=⟨_,rfl⟩
 have hN3:Ext w2 w3:=by rw [<-hw3];exact(Turn.refl _ w2).alloc _
 have h31:w3.heap[w2.heap.size]?=some (.cells #[.slice none 0 0] 27 (0,0)):=by rw [<-hw3];exact new_at rfl
 have hNX:N<w2.heap.size:=(Array.getElem?_eq_some_iff.1 H20.out).1
 obtain⟨BX,hBX⟩:∃ B,w2.heap.size=B:=⟨_,rfl⟩
 rw [hw3,hBX]
 rw [hBX] at h31 hNX
 have H30:=Lib.hid (hN3.keep H20.out);have H31:=Lib.hid h31;have HE3:=Lib.hid (HE2.out.trans hN3)
 clear hw3 hBX hN3 h31 H20 HE2
 have c0:=cell_of_one H30.out
 by_cases hmost:most<1
 ·have hx2:=HX2.out
  rw [show most.toNat=0 by omega,List.take_zero] at hx2
  subst hx2
  go_wp2
  refine leavesM (v:=.tuple #[.slice none 0 0,.int .i64 0]) (base:=N) _ _ trivial fun w' ht' hs=>⟨res_2 rfl rfl rfl,none,0,rfl,⟨grid_nil _,Nat.le_refl _⟩,Turn.after HE3.out ht' (fun b hb h=>by have:=h.1;have:=HN.out;omega)⟩
 go_upto_region 7 with (fail)
 clear c0
 go_wp2_with fail
 refine(explaining_any _ _ _ _ _ _ _).mono ?_
 rintro e w4 ⟨rfl,hb1,hb2,hE4,hs4⟩
 obtain⟨Y,hY⟩:∃ Y,w3.heap.size=Y:=⟨_,rfl⟩
 rw [hY] at hb1 hb2 hs4 ⊢
 have hit:=HIT.out (by first | trivial | rfl) w4 Y (Y+1) (HE3.out.trans hE4) hb1 hb2
 have hXY:BX<Y:=by rw [<-hY];exact(Array.getElem?_eq_some_iff.1 H31.out).1
 have HE4:=Lib.hid (HE3.out.trans hE4);have HS4:=Lib.hid hs4;have HITT:=Lib.hid hit
 have H40:=Lib.hid (hE4.keep H30.out);have H41:=Lib.hid (hE4.keep H31.out)
 clear hE4 hs4 hit hb1 hb2 hY HIT H30 H31 HE3
 go_wp2
 refine wp_rangeO (xs:=L) (K:=fun b=>b<w.heap.size\/b=Y\/b=Y+1) rfl (fun args w=>by simp [go_sem]) HITT.out (fun b h=>by have:=HS4.out;have:=HN.out;rcases h with h | h | h <;> omega) (fun _ _ x A ys h=>by obtain⟨_,_,rfl,_⟩:=h;rfl) ?hEs
  (fun O pre V=>(pre.length:Int)<most/\AllSt BX N (w4.heap.size+2) most w O pre V) (fun c O pre V=>c=.exit 0/\(pre.length:Int)=most/\AllSt BX N (w4.heap.size+2) most w O pre V) ?hI ?hIx ?h0 (fun ys t=>(t.setIfInBounds 22 (ys.getD 0 undef)).setIfInBounds 10 (ys.getD 0 undef)) ?assign ?body ?done ?stop
 case hEs=>
  rintro n' O x A B ys ⟨vo,vc,rfl,h1,h2⟩ ht ⟨o,q1,q2⟩
  refine⟨vo,vc,rfl,own_keep h1 ht (fun g hg e=>?_),h2⟩
  subst e
  obtain⟨cur,hc⟩:=own_block_ty h1 hg
  rw [q1] at hc;cases hc;cases q2
 case hI=>
  rintro O O' pre A B ⟨hlt,h⟩ hO ht hO'
  exact⟨hlt,h.step (D:=w4.heap.size) (by rw [HS4.out];have:=HN.out;omega) (by rw [HS4.out];omega) rfl hO (ht.mono fun b _ h=>h.imp (fun h=>h.1) id) hO'⟩
 case hIx=>
  rintro c O O' pre A B ⟨rfl,hlt,h⟩ hO ht hO'
  exact⟨rfl,hlt,h.step (D:=w4.heap.size) (by rw [HS4.out];have:=HN.out;omega) (by rw [HS4.out];omega) rfl hO (ht.mono fun b _ h=>h.imp (fun h=>h.1) id) hO'⟩
 case h0=>
  intro V hV hs
  exact⟨by simp;omega,none,0,[],hV.keep H41.out,hV.keep H40.out,World.ownsRow_nil _ _ _ _,(fun g hg=>by cases hg),⟨rfl,fun i hi=>by cases hi⟩,Turn.trans HE4.out hV⟩
 case assign=>
  rintro _ _ x ys V Kn ⟨vo,vc,rfl,_⟩ hK
  gi_wp2
  exact hK
 case done=>
  rintro O V ⟨hlt,ao,c,vs,h1,h2,h3,h4,h5,hE⟩ hO ht hD
  have hx:=HX2.out
  rw [List.take_of_length_le (by omega)] at hx
  subst hx
  have hgr:GridAt V (.slice ao L.length c) L:=⟨vs,Rd.of_own h3,fun i hi=>by obtain⟨a1,c1,q1,q2,_⟩:=h5.2 i hi;exact⟨a1,c1,q1,Rd.of_own q2⟩⟩
  have H3:=Lib.hid h3;have H5:=Lib.hid h5;have HEV:=Lib.hid hE;have HD:=Lib.hid hD
  have c1:=cell_of_one h1
  obtain⟨ln,hln⟩:∃ k,L.length=k:=⟨_,rfl⟩
  have HLL:=Lib.hid hln
  rw [hln] at c1
  clear h1 h2 h3 h4 h5 hE hD hO ht hgr hln HX2
  go_wp2
  have hz:=HS4.out
  refine leavesM (v:=.tuple #[.slice ao ln c,.int .i64 0]) (base:=N) _ _ (Marks.cons (base:=N) trivial (by omega) HD.out (fun e he=>by cases he)) fun w' ht' hs=>⟨res_2 rfl rfl rfl,ao,c,by rw [HLL.out],⟨grid_shut H3.out H5.out ht',by have:=(own_len H3.out).1;first | exact this | (rw [HLL.out];exact this)⟩,Turn.after HEV.out ht' (fun b hb h=>by have:=h.1;have:=HN.out;omega)⟩
 case stop=>
  rintro c O pre x rest V hx ⟨rfl,hlt,ao,c,vs,h1,h2,h3,h4,h5,hE⟩ hD
  have hx2:=HX2.out
  have hpl:(pre++[x]).length=most.toNat:=by omega
  rw [hx,show pre++x::rest=(pre++[x])++rest by simp,<-hpl,List.take_left] at hx2
  obtain⟨P,hP⟩:∃ P,pre++[x]=P:=⟨_,rfl⟩
  rw [hP] at hx2 hlt h1 h3 h4 h5
  subst hx2
  have H3:=Lib.hid h3;have H5:=Lib.hid h5;have HEV:=Lib.hid hE;have HD:=Lib.hid hD
  have c1:=cell_of_one h1
  obtain⟨ln,hln⟩:∃ k,P.length=k:=⟨_,rfl⟩
  have HLL:=Lib.hid hln
  rw [hln] at c1
  clear h1 h2 h3 h4 h5 hE hD hln hx hpl hP hlt HX2
  refine wp_exit ?_
  go_wp2
  have hz:=HS4.out
  refine leavesM (v:=.tuple #[.slice ao ln c,.int .i64 0]) (base:=N) _ _ (Marks.cons (base:=N) trivial (by omega) HD.out (fun e he=>by cases he)) fun w' ht' hs=>⟨res_2 rfl rfl rfl,ao,c,by rw [HLL.out],⟨grid_shut H3.out H5.out ht',by have:=(own_len H3.out).1;first | exact this | (rw [HLL.out];exact this)⟩,Turn.after HEV.out ht' (fun b hb h=>by have:=h.1;have:=HN.out;omega)⟩
 case body=>
  rintro O pre x rest ys V hx hsz hO ht ⟨hlt,ao,c,vs,h1,h2,h3,h4,h5,hE⟩ ⟨vo,vc,rfl,hr,hg⟩
  simp only [pq]
  have hpl:pre.length<720:=by
   have h1:=congrArg List.length hx
   have h2:=HLN.out
   simp at h1
   omega
  have HX3:=Lib.hid hx;have HO:=Lib.hid hO;have H1:=Lib.hid h1;have H2:=Lib.hid h2;have H4:=Lib.hid h4;have H5:=Lib.hid h5;have HEV:=Lib.hid hE;have HR:=Lib.hid hr;have HG:=Lib.hid hg;have H3:=Lib.hid h3
  have c1:=cell_of_one h1;have f1:=free_of_one h1;have c2:=cell_of_one h2
  clear hx hO h1 h2 h4 h5 hE hr hg ht
  refine wpIn_block ?_
  refine wpIn_seq ?_
  refine wpIn_region_plain (by kernel_rfl) ?hLO ?_
  case hLO=>rintro⟨_,_,h⟩;exact h
  have hz:Y+2<=w4.heap.size:=Nat.le_of_eq HS4.out.symm
  obtain⟨xn,hxn⟩:∃ k,x.length=k:=⟨_,rfl⟩
  have HXN:=Lib.hid hxn
  rw [hxn]
  clear hxn
  go_wp2_with (at_builtin;refine append_row rfl (.tmp 23) (.tmp 25) 27 rfl (w4.heap.size+2) 48 _ 1 24 Tryz.underlying27 @infoSI rfl (by decide) _ _ _ rfl (own_ext h3 ((Turn.refl _ V).alloc _)) ⟨V.heap.size,0,none⟩ 1 1 [.slice vo xn vc] rfl rfl (new_cells' rfl) ?c2 ?c3 ?c4 ?c5 ?_)
  case c2=>first | rfl | (intro u hu;simp at hu;rcases hu with rfl;rfl)
  case c3=>unfold maxLen;omega
  case c4=>omega
  case c5=>simp;omega
  intro ao' c' w5 hO5 hT5 hB5
  have hT6:Turn (fun b=>(Value.slice ao pre.length c).ownBlock=some b) V w5:=Turn.trans (Turn.alloc (Turn.refl _ V) _) hT5
  have hb6:(Value.slice ao' (pre.length+1) c').ownBlock=(Value.slice ao pre.length c).ownBlock\/∃ g,V.heap.size<=g/\(Value.slice ao' (pre.length+1) c').ownBlock=some g:=hB5.imp id fun e=>⟨_,by simp,e⟩
  have hpush:=AllSt.push (BX:=BX) (BM:=N) (by have:=HN.out;omega) (by omega) (by omega) (by omega) (by have:=HN.out;omega) H1.out H2.out H3.out H4.out H5.out HEV.out (fun b hb=>(HO.out b hb).2) (own_base HR.out (Nat.le_refl _)) HG.out (by rw [HXN.out];exact hO5) hT6 hb6
  obtain⟨w6,hw6⟩:∃ D,w5.setCell ⟨BX,0,none⟩ (.slice ao' (pre.length+1) c')=D:=⟨_,rfl⟩
  rw [hw6] at hpush
  obtain⟨hst,htt⟩:=hpush
  have hw5:=hT6.heap H1.out (fun e=>by have:=(H3.out.lt _ e).1;omega)
  have c5:=cell_of_one hw5;have f5:=free_of_one hw5
  have hlen:(pre++[x]).length=pre.length+1:=by simp
  have hfin:Turn (fun b=>¬ ((b<w.heap.size\/b=Y\/b=Y+1)\/O b\/b=w4.heap.size\/b=w4.heap.size+1)) V w6:=htt.mono fun b _ h hn=>by
   have:=HN.out
   rcases h with h | ⟨h,hno⟩
   ·rcases hn with (h5 | h5 | h5) | h5 | h5 | h5
    ·omega
    ·omega
    ·omega
    ·have:=(HO.out b h5).1;omega
    ·omega
    ·omega
   ·rcases hn with (h5 | h5 | h5) | h5 | h5 | h5
    ·omega
    ·omega
    ·omega
    ·exact hno h5
    ·omega
    ·omega
  have hst':=hst
  obtain⟨ao6,c6,vs6,g1,g2,_⟩:=hst'
  rw [hlen] at g1
  have HST:=Lib.hid hst;have HFIN:=Lib.hid hfin;have HW6:=Lib.hid hw6;have G1:=Lib.hid g1;have G2:=Lib.hid g2;have HLEN2:=Lib.hid hlen
  clear hst htt hfin hw6 g1 g2 hT6 hb6 hT5 hB5 hO5 hw5 h3 c1 f1 hlen H1 H2 H3 H4 H5 HEV HR HG HX3 HO
  go_wp2
  rw [HW6.out]
  have c1:=cell_of_one G1.out;have c2:=cell_of_one G2.out
  by_cases hlast:((pre.length:Int)+1)=most
  ·gi_wp2
   exact⟨HFIN.out,rfl,by rw [HLEN2.out];simpa using hlast,HST.out⟩
  ·gi_wp2
   exact⟨HFIN.out,by rw [HLEN2.out];simp;omega,HST.out⟩
theorem all_any'{w:World}{ps:LawsL}{qs:PairsL}{lo:Option Addr}{n lc:Nat}{po:Option Addr}{m pc:Nat}{most:Int}(hl:LawsAt w (.slice lo n lc) ps) (hn:ps.length=n) (hp:PairsAt w (.slice po m pc) qs) (hm:qs.length=m) (hT:Tab w) :
  Calls Tryz.prog 39 #[.slice lo n lc,.slice po m pc,.int .i64 most] w fun e w'=>∃ ao c,e=.returned (.tuple #[.slice ao (allL (ps.map (·.1)) qs most).length c,.int .i64 (ordE (ps.map (·.1)) (qs.map (·.1)))])/\GridAt w' (.slice ao (allL (ps.map (·.1)) qs most).length c) (allL (ps.map (·.1)) qs most)/\Ext w w':=
 (all_cap hl hn hp hm hT).mono fun _ _ ⟨ao,c,h1,h2,h3⟩=>⟨ao,c,h1,h2.1,h3⟩
end Go.Proofs.YtfdlhlghcbeblaaGreatDoor
set_option maxRecDepth 100000
set_option maxHeartbeats 16000000
namespace Go.Proofs.YtfdlhlghcbeblaaGreatDoor
open Go.RowKit Go.Ab
attribute [local go_sem] Oper.semAt_some wide_fn wide_depth
def cntB(l:List Bool):Nat:=l.countP id
def cntX(LD:List LawD)(qs:PairsL)(x:List Nat):Nat:=cntB (fitL LD x qs)
def bestStep(LD:List LawD)(qs:PairsL)(s:List Nat × Int)(x:List Nat):List Nat × Int:=if s.2<(cntX LD qs x:Int) then(x,(cntX LD qs x:Int)) else s
def bestS(LD:List LawD)(qs:PairsL)(l:List (List Nat)):List Nat × Int:=l.foldl (bestStep LD qs) ([],-1)
theorem bestS_snoc(LD:List LawD)(qs:PairsL)(l:List (List Nat)) (x:List Nat):bestS LD qs (l++[x])=bestStep LD qs (bestS LD qs l) x:=by
 unfold bestS;rw [List.foldl_append];rfl
def bestX(LD:List LawD)(qs:PairsL):List Nat:=if ordE LD (qs.map (·.1))=0 then(bestS LD qs (permsF LD.length (List.range LD.length))).1 else []
def bestN(LD:List LawD)(qs:PairsL):Int:=if ordE LD (qs.map (·.1))=0 then(bestS LD qs (permsF LD.length (List.range LD.length))).2 else 0
theorem cntB_snoc{l:List Bool}{k:Nat}(hk:k<l.length):cntB (l.take (k+1))=cntB (l.take k)+if l[k]=true then 1 else 0:=by
 unfold cntB
 rw [List.take_succ_eq_append_getElem hk,List.countP_append]
 cases l[k] <;> simp
theorem cntB_le(l:List Bool):cntB l<=l.length:=List.countP_le_length
theorem bestS_low(LD:List LawD)(qs:PairsL)(l:List (List Nat)):-1<=(bestS LD qs l).2/\(bestS LD qs l).2<=qs.length:=by
 have key:∀(l:List (List Nat)) (s:List Nat × Int),-1<=s.2/\s.2<=qs.length->-1<=(l.foldl (bestStep LD qs) s).2/\(l.foldl (bestStep LD qs) s).2<=qs.length:=by
  intro l
  induction l with
  | nil=>intro s h;exact h
  | cons x l ih=>
   intro s h
   refine ih _ ?_
   unfold bestStep
   split
   ·have:=cntB_le (fitL LD x qs)
    unfold fitL at this
    rw [List.length_map] at this
    show -1<=((cntX LD qs x:Nat):Int)/\((cntX LD qs x:Nat):Int)<=qs.length
    unfold cntX fitL
    omega
   ·exact h
 exact key l ([],-1) ⟨Int.le_refl _,by show (-1:Int)<=_;omega⟩
def BestSt(BB BM BP base:Nat)(LD:List LawD)(qs:PairsL)(pv:Value)(w:World)(O:Nat->Prop)(pre:List (List Nat)) (V:World):Prop:=
 ∃ ao c,V.heap[BB]?=some (.cells #[.slice ao (bestS LD qs pre).1.length c] 48 (0,0))/\V.heap[BM]?=some (.cells #[.int .i64 (bestS LD qs pre).2] 3 (0,0))/\V.heap[BP]?=some (.cells #[pv] 61 (0,0)) /\
  V.ownsRow base 3 1 (.slice ao (bestS LD qs pre).1.length c) (bestS LD qs pre).1.length (natV (bestS LD qs pre).1)/\(∀ g,(Value.slice ao (bestS LD qs pre).1.length c).ownBlock=some g->¬ O g)/\Ext w V
theorem BestSt.step{BB BM BP base D:Nat}{LD:List LawD}{qs:PairsL}{pv:Value}{w A B:World}{O O':Nat->Prop}{pre:List (List Nat)} (h:BestSt BB BM BP base LD qs pv w O pre A) (hw:w.heap.size<=D) (hX:BB<D/\BM<D/\BP<D) (hb:base=D+2) (hO:∀ b,O b->D+2<=b/\b<A.heap.size) (ht:Turn (fun b=>O b\/b=D+1) A B)
  (hO':∀ b,O' b->(O b\/A.heap.size<=b)/\b<B.heap.size):BestSt BB BM BP base LD qs pv w O' pre B:=by
 subst hb
 obtain⟨ao,c,h1,h2,h3,h4,h5,h6⟩:=h
 have ht2:Turn (fun b=>D+1<=b) A B:=ht.mono fun b _ h=>h.elim (fun h=>by have:=(hO b h).1;omega) (fun h=>by omega)
 refine⟨ao,c,ht2.heap h1 (by omega),ht2.heap h2 (by omega),ht2.heap h3 (by omega),own_keep h4 ht (fun g hg h=>?_),fun g hg h=>?_,h6.after ht2 fun b hb h=>by omega⟩
 ·have:=(h4.lt g hg).1
  rcases h with h | h
  ·exact h5 g hg h
  ·omega
 ·rcases(hO' g h).1 with h | h
  ·exact h5 g hg h
  ·have:=(h4.lt g hg).2;omega
theorem best_any{w:World}{ps:LawsL}{qs:PairsL}{lo:Option Addr}{n lc:Nat}{po:Option Addr}{m pc:Nat}(hl:LawsAt w (.slice lo n lc) ps) (hn:ps.length=n) (hp:PairsAt w (.slice po m pc) qs) (hm:qs.length=m) (hT:Tab w) :
  Calls Tryz.prog 43 #[.slice lo n lc,.slice po m pc] w fun e w'=>∃ ao c,e=.returned (.tuple #[.slice ao (bestX (ps.map (·.1)) qs).length c,.int .i64 (bestN (ps.map (·.1)) qs),.int .i64 (ordE (ps.map (·.1)) (qs.map (·.1)))])/\Rd w' (.slice ao (bestX (ps.map (·.1)) qs).length c) (bestX (ps.map (·.1)) qs).length 1 (natV (bestX (ps.map (·.1)) qs))/\Ext w w':=by
 have hck:=fun(V:World) (hE:Ext w V)=>ocheck_any (hl.ext hE) hn (pairs_ext hp hE) hm (hT.keep hE id)
 obtain⟨LD,hLD⟩:∃ x,ps.map (·.1)=x:=⟨_,rfl⟩
 have hLn:LD.length=n:=by rw [<-hLD,List.length_map,hn]
 have hsix:ordE LD (qs.map (·.1))=0->n<=6/\m<=1000:=fun h=>by have:=ordE_six h;rw [hLn,List.length_map,hm] at this;omega
 have hit:=fun(h:ordE LD (qs.map (·.1))=0) (V:World) (B1 B2:Nat) (hE:Ext w V) (h1:V.heap[B1]?=_) (h2:V.heap[B2]?=_)=>orders_iter hE hl hn (hsix h).1 hp hm (hsix h).2 hT h1 h2
 have hex:=fun(h:ordE LD (qs.map (·.1))=0) (V:World) (hE:Ext w V) (so:Option Addr) (sc:Nat) (os:List (Option Wd × List Value)) (h1:StatesAt V (.slice so m sc) os) (h2:os.length=m)=>explained_any h1 h2 (pairs_ext hp hE) hm (hsix h).2
 have hxl:ordE LD (qs.map (·.1))=0->∀ x∈permsF n (List.range n),x.length<=6:=fun h x hx=>by rw [perms_range] at hx;rw [(orders_lt n x hx).1];exact(hsix h).1
 rw [hLD]
 simp only [hLD] at hck hit
 obtain⟨X,hX⟩:∃ x,bestX LD qs=x:=⟨_,rfl⟩
 obtain⟨BN,hBN⟩:∃ x,bestN LD qs=x:=⟨_,rfl⟩
 rw [hX,hBN]
 unfold bestX at hX
 unfold bestN at hBN
 rw [hLn] at hX hBN
 obtain⟨L,hL⟩:∃ x,permsF n (List.range n)=x:=⟨_,rfl⟩
 obtain⟨E,hE0⟩:∃ x,ordE LD (qs.map (·.1))=x:=⟨_,rfl⟩
 rw [hL,hE0] at hX hBN hxl
 have hsz:=fun(h:E=0)=>(hsix (by rw [hE0];exact h)).2
 rw [hE0] at hit hex ⊢
 simp only [hL] at hit
 simp only [hE0] at hck
 have HCK:=Lib.hid hck;have HIT:=Lib.hid hit;have HEX:=Lib.hid hex;have HX:=Lib.hid hX;have HBN:=Lib.hid hBN;have HXL:=Lib.hid hxl;have HM:=Lib.hid hm;have HSZ:=Lib.hid hsz
 clear hck hit hex hX hBN hxl hL hE0 hsix hLD hLn hl hn hp hm hT hsz
 refine calls_of_wp_marks Tryz.func43 rfl ?_
 simp only [Tryz.ntmps43,List.size_toArray,List.length_cons,List.length_nil,Nat.reduceAdd,Nat.reduceSub,Array.replicate_succ,Array.replicate_zero,List.push_toArray,List.append_toArray,List.nil_append,List.cons_append]
 go_upto_region 1 with (fail)
 obtain⟨N,hN⟩:∃ N,w.heap.size=N:=⟨_,rfl⟩
 obtain⟨w1,hw1⟩:∃ D,w.alloc (.cells #[.slice po m pc] 61)=D:=⟨_,rfl⟩
 have hE1:Ext w w1:=by rw [<-hw1];exact(Turn.refl _ w).alloc _
 have h10:w1.heap[N]?=some (.cells #[.slice po m pc] 61 (0,0)):=by rw [<-hw1];exact new_at hN.symm
 rw [hN,hw1]
 have HE1:=Lib.hid hE1;have H10:=Lib.hid h10;have HN:=Lib.hid hN
 have c0:=cell_of_one h10
 clear hE1 h10 hw1 hN
 go_wp2_with fail
 refine(HCK.out _ HE1.out).mono ?_
 rintro e w2 ⟨rfl,hN2⟩
 have H20:=Lib.hid (hN2.keep H10.out);have HE2:=Lib.hid (HE1.out.trans hN2)
 clear hN2 HE1 H10 HCK c0
 by_cases hE0:E=0
 case neg=>
  have hne:(E != 0)=true:=by simpa using hE0
  have hx:=HX.out
  have hb:=HBN.out
  rw [if_neg hE0] at hx hb
  subst hx hb
  go_wp2
  refine leavesM (v:=.tuple #[.slice none 0 0,.int .i64 0,.int .i64 E]) (base:=N) _ _ trivial fun w' ht' hs=>⟨res_3 rfl rfl rfl rfl,none,0,rfl,Rd.of_own (e:=3) (World.ownsRow_nil _ 0 _ _),Turn.after HE2.out ht' (fun b hb h=>by have:=h.1;have:=HN.out;omega)⟩
 subst hE0
 have hx:=HX.out
 have hb:=HBN.out
 rw [if_pos (by first | trivial | rfl)] at hx hb
 have HX2:=Lib.hid hx;have HB2:=Lib.hid hb;have HXL2:=Lib.hid (HXL.out (by first | trivial | rfl));have HEX2:=Lib.hid (HEX.out (by first | trivial | rfl))
 have hmb:=HSZ.out (by first | trivial | rfl)
 clear hx hb HX HBN HXL HEX HSZ
 go_upto_region 6 with (fail)
 obtain⟨w3,hw3⟩:∃ D,(w2.alloc (.cells #[.slice none 0 0] 48)).alloc (.cells #[.int .i64 (-1)] 3)=D:=⟨_,rfl⟩
 have hN3:Ext w2 w3:=by rw [<-hw3];exact((Turn.refl _ w2).alloc _).alloc _
 obtain⟨BB,hBB⟩:∃ B,w2.heap.size=B:=⟨_,rfl⟩
 have h31:w3.heap[BB]?=some (.cells #[.slice none 0 0] 48 (0,0)):=by rw [<-hw3];exact new_keep (new_at hBB.symm)
 have h32:w3.heap[BB+1]?=some (.cells #[.int .i64 (-1)] 3 (0,0)):=by rw [<-hw3];exact new_at (by simp;omega)
 have hNX:N<BB:=by rw [<-hBB];exact(Array.getElem?_eq_some_iff.1 H20.out).1
 rw [hBB,hw3]
 have h30:=hN3.keep H20.out
 have H30:=Lib.hid h30;have H31:=Lib.hid h31;have H32:=Lib.hid h32;have HE3:=Lib.hid (HE2.out.trans hN3)
 have c0:=cell_of_one h30
 clear hw3 hBB hN3 h31 h32 h30 H20 HE2
 go_wp2_with fail
 refine(orders_any _ _ _ _ _ _ _).mono ?_
 rintro e w4 ⟨rfl,hb1,hb2,hE4,hs4⟩
 obtain⟨Y,hY⟩:∃ Y,w3.heap.size=Y:=⟨_,rfl⟩
 rw [hY] at hb1 hb2 hs4 ⊢
 have hit:=HIT.out (by first | trivial | rfl) w4 Y (Y+1) (HE3.out.trans hE4) hb1 hb2
 have hXY:BB+1<Y:=by rw [<-hY];exact(Array.getElem?_eq_some_iff.1 H32.out).1
 have HE4:=Lib.hid (HE3.out.trans hE4);have HS4:=Lib.hid hs4;have HITT:=Lib.hid hit
 have H40:=Lib.hid (hE4.keep H30.out);have H41:=Lib.hid (hE4.keep H31.out);have H42:=Lib.hid (hE4.keep H32.out)
 clear hE4 hs4 hit hb1 hb2 hY HIT H30 H31 H32 HE3 c0
 go_wp2
 refine wp_rangeO (xs:=L) (K:=fun b=>b<w.heap.size\/b=Y\/b=Y+1) rfl (fun args w=>by simp [go_sem]) HITT.out (fun b h=>by have:=HS4.out;have:=HN.out;rcases h with h | h | h <;> omega) (fun _ _ x A ys h=>by obtain⟨_,_,_,_,rfl,_⟩:=h;rfl) ?hEs
  (BestSt BB (BB+1) N (w4.heap.size+2) LD qs (.slice po m pc) w) (fun c O pre V=>False) ?hI ?hIx ?h0 (fun ys t=>(((t.setIfInBounds 24 (ys.getD 0 undef)).setIfInBounds 25 (ys.getD 1 undef)).setIfInBounds 10 (ys.getD 0 undef)).setIfInBounds 11 (ys.getD 1 undef)) ?assign ?body ?done ?stop
 case hEs=>exact fun _ _ _ _ _ _ h ht hr=>ordE_apart h ht hr
 case hI=>
  rintro O O' pre A B h hO ht hO'
  exact h.step (D:=w4.heap.size) (by rw [HS4.out];have:=HN.out;omega) (by rw [HS4.out];omega) rfl hO (ht.mono fun b _ h=>h.imp (fun h=>h.1) id) hO'
 case hIx=>exact fun _ _ _ _ _ _ h _ _ _=>h
 case h0=>
  intro V hV hs
  exact⟨none,0,hV.keep H41.out,hV.keep H42.out,hV.keep H40.out,World.ownsRow_nil _ _ _ _,(fun g hg=>by cases hg),Turn.trans HE4.out hV⟩
 case assign=>
  rintro _ _ x ys V Kn ⟨vo,vc,so,sc,rfl,_⟩ hK
  gi_wp2
  exact hK
 case stop=>exact fun _ _ _ _ _ _ _ h=>h.elim
 case done=>
  rintro O V ⟨ao,c,h1,h2,h3,h4,h5,hE⟩ hO ht hD
  have hx:=HX2.out
  have hb:=HB2.out
  rw [hx] at h1 h4 h5
  rw [hb] at h2
  have H4:=Lib.hid h4;have HEV:=Lib.hid hE;have HD:=Lib.hid hD
  have c1:=cell_of_one h1;have c2:=cell_of_one h2
  obtain⟨ln,hln⟩:∃ k,X.length=k:=⟨_,rfl⟩
  have HLL:=Lib.hid hln
  rw [hln] at c1
  clear h1 h2 h3 h4 h5 hE hD hO ht hln hx hb
  go_wp2
  go_quiet (fail)
  go_wp2
  have hz:=HS4.out
  have hnq:Ext V (V.drewN nq):=(Turn.refl _ V).drewN nq
  refine leavesM (v:=.tuple #[.slice ao ln c,.int .i64 BN,.int .i64 0]) (base:=N) _ _ (Marks.cons (base:=N) trivial (by omega) (hnq.keep HD.out) (fun e he=>by cases he)) fun w' ht' hs=>⟨res_3 rfl rfl rfl rfl,ao,c,by rw [HLL.out],Rd.of_own (own_keep (own_ext H4.out hnq) ht' (fun g hg e=>by obtain⟨cur,hc⟩:=own_block_ty (own_ext H4.out hnq) hg;exact Go.Ab.Shut.not hc rfl e)),Turn.after (HEV.out.trans hnq) ht' (fun b hb h=>by have:=h.1;have:=HN.out;omega)⟩
 case body=>
  rintro O pre x rest ys V hx hsz hO ht ⟨ao,c,h1,h2,h3,h4,h5,hE⟩ ⟨vo,vc,so,sc,rfl,hr,os,hos,hol,hmap⟩
  simp only [pq]
  have hc:=HEX2.out V hE so sc os hos hol
  rw [expl_fit HM.out (by rw [hmap,List.map_map];rfl)] at hc
  have hst:=bestS_snoc LD qs pre x
  unfold bestStep cntX at hst
  obtain⟨bs,hbs⟩:∃ z,fitL LD x qs=z:=⟨_,rfl⟩
  rw [hbs] at hc hst
  have hbl:bs.length=m:=by rw [<-hbs];unfold fitL;rw [List.length_map,HM.out]
  have hlow:=bestS_low LD qs pre
  rw [HM.out] at hlow
  have hxm:x∈L:=by rw [hx];simp
  have hx6:=HXL2.out x hxm
  have hbs0:∀ q,bestS LD qs pre=q->q=((bestS LD qs pre).1,(bestS LD qs pre).2):=fun q h=>by rw [<-h]
  obtain⟨⟨bx,bm⟩,hb0⟩:∃ q,bestS LD qs pre=q:=⟨_,rfl⟩
  rw [hb0] at h1 h2 h4 h5 hlow hst
  dsimp only at h1 h2 h4 h5 hlow hst
  have cP:=cell_of_one h3;have cM:=cell_of_one h2
  obtain⟨xn,hxn⟩:∃ k,x.length=k:=⟨_,rfl⟩
  have HXN:=Lib.hid hxn
  rw [hxn] at hx6 ⊢
  have HO:=Lib.hid hO;have H1:=Lib.hid h1;have H2:=Lib.hid h2;have H3:=Lib.hid h3;have H4:=Lib.hid h4;have H5:=Lib.hid h5;have HEV:=Lib.hid hE;have HR:=Lib.hid hr;have HC:=Lib.hid hc;have HBL:=Lib.hid hbl;have HST:=Lib.hid hst;have HB0:=Lib.hid hb0
  have hz:Y+2<=w4.heap.size:=Nat.le_of_eq HS4.out.symm
  clear hx hO h1 h2 h3 h4 h5 hE hr hc hbl hst hb0 hbs0 hos hol hmap ht hbs hxm hxn
  refine wpIn_block ?_
  gi_wp2
  refine callsIn_wide.2 (HC.out.mono ?_)
  rintro e V1 ⟨bo,bc,rfl,hO1,hE1⟩
  have HR1:=Lib.hid (Rd.of_own hO1);have HE1:=Lib.hid hE1;have HC0:=Lib.hid (show cntB (bs.take 0)=0 from rfl)
  clear hO1 hE1 cP cM HC
  gi_wp2
  gi_loop [12,30] (fun cn i=>∃ j:Nat,j<=m/\i=.int .i64 j/\cn=.int .i64 (cntB (bs.take j):Nat)) (fun _ i=>m - (intOf i).toNat)
  case atStart=>exact⟨0,by omega,rfl,by rw [HC0.out];rfl⟩
  case round=>
   obtain⟨j,hjm,rfl,rfl⟩:=hrel
   obtain⟨cj,hcj⟩:∃ k,cntB (bs.take j)=k:=⟨_,rfl⟩
   have hcl:cj<=1000:=by
    have:=cntB_le (bs.take j)
    rw [List.length_take] at this
    omega
   rw [hcj]
   by_cases hlt:j<m
   ·have hl1:(j:Int)<(m:Int):=by omega
    have hl0:(0:Int)<=(j:Int):=by omega
    have hjb:j<bs.length:=by rw [HBL.out];exact hlt
    obtain⟨g,off,cap,hq,hg,hc⟩:=rd_at1 HR1.out hlt
    simp only [Value.slice.injEq,true_and] at hq
    obtain⟨rfl,rfl⟩:=hq
    have hgb:(bs.map Value.bool).getD j undef=.bool bs[j]:=by rw [List.getD_eq_getElem?_getD,List.getElem?_map,List.getElem?_eq_getElem hjb];rfl
    rw [hgb] at hc
    have hsn:=cntB_snoc hjb
    rw [hcj] at hsn
    obtain⟨b,hb⟩:∃ b,bs[j]=b:=⟨_,rfl⟩
    rw [hb] at hc hsn
    have HSN:=Lib.hid hsn
    have hwk:IntKind.i64.wrap ((j:Int)+1)=(j:Int)+1:=IntWalk.i64_in _ (by omega)
    have hwc:IntKind.i64.wrap ((cj:Int)+1)=(cj:Int)+1:=IntWalk.i64_in _ (by omega)
    clear hsn hb hgb hjb hcj
    cases b with
    | false=>
     gi_wp2
     go_round
     case rel=>exact⟨j+1,by omega,by go_num,by rw [HSN.out];simp⟩
     case measure=>simp [intOf];omega
    | true=>
     gi_wp2
     go_round
     case rel=>exact⟨j+1,by omega,by go_num,by rw [HSN.out];simp⟩
     case measure=>simp [intOf];omega
   ·obtain rfl:j=m:=by omega
    have hl1:¬ (j:Int)<(j:Int):=by omega
    rw [List.take_of_length_le (by rw [HBL.out];exact Nat.le_refl _)] at hcj
    have HCJ:=Lib.hid hcj
    have cM:=cell_of_one (HE1.out.keep H2.out)
    have hst:=HST.out
    rw [hcj] at hst
    clear hcj HC0
    by_cases hgt:bm<(cj:Int)
    ·rw [if_pos hgt] at hst
     have HST2:=Lib.hid hst
     clear hst
     have hcl2:=clone_int (w:=V1) (ao:=vo) (n:=xn) (cap:=vc) (xs:=natV x) (by have:=HR.out.ext HE1.out;rw [HXN.out] at this;exact this) (fun u hu=>by obtain⟨_,_,rfl⟩:=List.mem_map.1 hu;rfl) (by omega)
     have HCL:=Lib.hid hcl2
     clear hcl2
     gi_wp2
     refine callsIn_wide.2 (HCL.out.mono ?_)
     rintro e V2 ⟨co,cc,rfl,hO2,hN2⟩
     have hVV:Ext V V2:=HE1.out.trans hN2
     have b1:=hVV.keep H1.out
     have b2:=hVV.keep H2.out
     have b3:=hVV.keep H3.out
     have hbse:w4.heap.size+2<=V1.heap.size:=by have:=HE1.out.size;omega
     have t1:=Turn.set1 V2 BB 0 (.slice co xn cc)
     have t2:=Turn.set1 (V2.setCell ⟨BB,0,none⟩ (.slice co xn cc)) (BB+1) 0 (.int .i64 (cj:Int))
     have a2:=t1.heap b2 (by omega)
     have hn:=HN.out
     have t12:Turn (fun b=>b=BB\/b=BB+1) V2 ((V2.setCell ⟨BB,0,none⟩ (.slice co xn cc)).setCell ⟨BB+1,0,none⟩ (.int .i64 (cj:Int))):=(t1.mono fun b _ e=>.inl e).trans (t2.mono fun b _ e=>.inr e)
     have hfin:BestSt BB (BB+1) N (w4.heap.size+2) LD qs (.slice po j pc) w O (pre++[x]) ((V2.setCell ⟨BB,0,none⟩ (.slice co xn cc)).setCell ⟨BB+1,0,none⟩ (.int .i64 (cj:Int))):=by
      have e:=HST2.out
      refine⟨co,cc,?_,?_,t12.heap b3 (by omega),?_,?_,Turn.after (HEV.out.trans hVV) t12 (fun b hb h=>by omega)⟩
      ·rw [e];dsimp only;rw [HXN.out];exact t2.heap (set_one b1) (by omega)
      ·rw [e];exact set_one a2
      ·rw [e];dsimp only;rw [HXN.out];exact own_keep (own_base hO2 hbse) t12 (fun g hg e=>by have:=(hO2.lt g hg).1;omega)
      ·rw [e];dsimp only;rw [HXN.out]
       intro g hg h
       have:=(hO2.lt g hg).1
       have:=(HO.out g h).2
       have:=HE1.out.size
       omega
     have hkeep:Turn (fun b=>¬ ((b<w.heap.size\/b=Y\/b=Y+1)\/O b\/b=w4.heap.size\/b=w4.heap.size+1)) V ((V2.setCell ⟨BB,0,none⟩ (.slice co xn cc)).setCell ⟨BB+1,0,none⟩ (.int .i64 (cj:Int))):=hVV.of.trans (t12.mono fun b _ h hn=>by
      rcases hn with (h5 | h5 | h5) | h5 | h5 | h5
      ·omega
      ·omega
      ·omega
      ·have:=(HO.out b h5).1;omega
      ·omega
      ·omega)
     have HFIN:=Lib.hid hfin;have HKEEP:=Lib.hid hkeep
     have c1:=cell_of_one b1;have f1:=free_of_one b1;have c2:=cell_of_one b2;have f2:=free_of_one b2
     clear hfin hkeep t1 t2 t12 a2 b1 b2 b3 hVV hO2 hN2 cM HCL
     gi_wp2
     exact⟨HKEEP.out,HFIN.out⟩
    ·rw [if_neg hgt] at hst
     have HST2:=Lib.hid hst
     clear hst
     have hfin:BestSt BB (BB+1) N (w4.heap.size+2) LD qs (.slice po j pc) w O (pre++[x]) V1:=by
      have e:=HST2.out
      refine⟨ao,c,?_,?_,HE1.out.keep H3.out,?_,?_,HEV.out.trans HE1.out⟩
      ·rw [e];exact HE1.out.keep H1.out
      ·rw [e];exact HE1.out.keep H2.out
      ·rw [e];exact own_ext H4.out HE1.out
      ·rw [e];exact H5.out
     have HFIN:=Lib.hid hfin
     clear hfin
     gi_wp2
     exact⟨HE1.out.of,HFIN.out⟩
end Go.Proofs.YtfdlhlghcbeblaaGreatDoor
namespace Go.Proofs.YtfdlhlghcbeblaaGreatDoor
open Go.RowKit Go.Ab
attribute [local go_sem] Oper.semAt_some wide_fn wide_depth
def SetBox(w:World)(bx:Nat)(v:Nat):Prop:=w.heap[bx]?=some (.cells #[.int .u64 v] 183 (0,0))
theorem SetBox.cell{w:World}{bx v:Nat}(h:SetBox w bx v):w.cell? ⟨bx,0,none⟩=some (.int .u64 v):=cell_of_one h
theorem SetBox.free{w:World}{bx v:Nat}(h:SetBox w bx v):w.frozen? ⟨bx,0,none⟩=false:=free_of_one h
theorem SetBox.store{w:World}{bx v:Nat}(u:Nat)(h:SetBox w bx v):SetBox (w.setCell ⟨bx,0,none⟩ (.int .u64 u)) bx u:=one_setCell h
def setLeft(w:World)(bx:Nat):Nat:=match w.cell? ⟨bx,0,none⟩ with | some (.int _ n)=>n.toNat | _=>0
end Go.Proofs.YtfdlhlghcbeblaaGreatDoor
set_option maxRecDepth 100000
namespace Go.Proofs.YtfdlhlghcbeblaaGreatDoor
open Go.RowKit Go.Ab
def chCells(mk:Bool)(n:Nat)(bf af:Nat->Nat):List Value:=
 .bool mk::.int .i64 n::((List.range 64).map (fun i=>Value.int .u64 (bf i))++(List.range 64).map (fun i=>Value.int .u64 (af i)))
def ordArr(mk:Bool)(n:Nat)(bf af:Nat->Nat):Array Value:=(chCells mk n bf af).toArray
def Ord(w:World)(b:Nat)(mk:Bool)(n:Nat)(bf af:Nat->Nat):Prop:=
 w.heap[b]?=some (.cells (ordArr mk n bf af) 186 (0,0))
theorem Ord.get{w:World}{b:Nat}{mk:Bool}{n:Nat}{bf af:Nat->Nat}(h:Ord w b mk n bf af)(o:Nat) :
  w.cell? ⟨b,o,none⟩=(chCells mk n bf af)[o]?:=by
 unfold Ord at h;simp [World.cell?,h,ordArr]
theorem Ord.free{w:World}{b:Nat}{mk:Bool}{n:Nat}{bf af:Nat->Nat}(h:Ord w b mk n bf af)(o:Nat):w.frozen? ⟨b,o,none⟩=false:=by
 unfold Ord at h;simp [World.frozen?,h]
theorem Ord.made{w:World}{b:Nat}{mk:Bool}{n:Nat}{bf af:Nat->Nat}(h:Ord w b mk n bf af):w.cell? ⟨b,0,none⟩=some (.bool mk):=by
 rw [h.get];rfl
theorem Ord.n{w:World}{b:Nat}{mk:Bool}{n:Nat}{bf af:Nat->Nat}(h:Ord w b mk n bf af):w.cell? ⟨b,1,none⟩=some (.int .i64 n):=by
 rw [h.get];rfl
theorem Ord.bf{w:World}{b:Nat}{mk:Bool}{n:Nat}{bf af:Nat->Nat}(h:Ord w b mk n bf af)(i:Nat)(hi:i<64):w.cell? ⟨b,2+i,none⟩=some (.int .u64 (bf i)):=by
 rw [h.get,Nat.add_comm]
 simp [chCells,List.getElem?_append,hi]
theorem Ord.af{w:World}{b:Nat}{mk:Bool}{n:Nat}{bf af:Nat->Nat}(h:Ord w b mk n bf af)(i:Nat)(hi:i<64):w.cell? ⟨b,66+i,none⟩=some (.int .u64 (af i)):=by
 rw [h.get,show 66+i=(64+i)+1+1 by omega]
 simp [chCells,List.getElem?_append,hi]
theorem Ord.keep{S:Nat->Prop}{A B:World}{b:Nat}{mk:Bool}{n:Nat}{bf af:Nat->Nat}(h:Ord A b mk n bf af)(ht:Turn S A B)(hS:¬ S b):Ord B b mk n bf af:=ht.heap h hS
theorem Ord.lt{w:World}{b:Nat}{mk:Bool}{n:Nat}{bf af:Nat->Nat}(h:Ord w b mk n bf af):b<w.heap.size:=(Array.getElem?_eq_some_iff.1 h).1
def upd(f:Nat->Nat)(x v:Nat):Nat->Nat:=fun i=>if i=x then v else f i
theorem map_set(f:Nat->Nat)(x v:Nat)(g:Nat->Value)(m:Nat):((List.range m).map (fun i=>g (f i))).set x (g v)=(List.range m).map (fun i=>g (upd f x v i)):=by
 apply List.ext_getElem?
 intro i
 simp only [List.getElem?_set,List.getElem?_map,List.length_map,List.length_range,upd]
 by_cases hx:x=i
 ·subst hx
  by_cases hm:x<m
  ·simp [hm]
  ·simp [hm]
 ·rw [if_neg hx]
  by_cases hm:i<m
  ·simp [hm,Ne.symm hx]
  ·simp [hm]
def isEv(n a:Int):Bool:=decide (0<=a) && decide (a<n)
theorem isEv_iff{n a:Int}:isEv n a=true↔0<=a/\a<n:=by simp [isEv]
def isB(n:Nat)(af:Nat->Nat)(x y:Int):Bool:=isEv n x && isEv n y && (af x.toNat).testBit y.toNat
def Fits(n:Nat)(bf af:Nat->Nat):Prop:=n<=64/\(∀ i,bf i<18446744073709551616)/\(∀ i,af i<18446744073709551616)
def freeB(n:Nat)(af:Nat->Nat)(x y:Int):Bool:=isEv n x && isEv n y && !(x == y) && !isB n af x y && !isB n af y x
end Go.Proofs.YtfdlhlghcbeblaaGreatDoor
