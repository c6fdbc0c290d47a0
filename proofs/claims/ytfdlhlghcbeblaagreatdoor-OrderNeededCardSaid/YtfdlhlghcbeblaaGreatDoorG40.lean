/- ablautref14.explaining. ablautref14.Explain. ablautref14.All. What the reference Best computes. order.All: its walk. -/
import Derived.Test.YtfdlhlghcbeblaaGreatDoorG39
import Derived.Test.YtfdlhlghcbeblaaGreatDoorG32
import Derived.Test.YtfdlhlghcbeblaaGreatDoorG21
import Derived.Test.YtfdlhlghcbeblaaGreatDoorG14
import Derived.Test.YtfdlhlghcbeblaaGreatDoorG11
set_option maxRecDepth 100000
set_option maxHeartbeats 16000000
namespace Go.Proofs.YtfdlhlghcbeblaaGreatDoor
open Go.RowKit Go.Ab
attribute [local go_sem] Oper.semAt_some wide_fn wide_depth
def expR(ps:LawsL)(qs:PairsL)(L:List (List Nat)):List (List Nat):=L.filter fun x=>decide (firstR ps x qs=qs.length)
def ListRd(W:World)(vs:List Value)(L:List (List Nat)):Prop:=vs.length=L.length∧∀ i (h:i<L.length),∃ eo ec,vs.getD i undef=.slice eo L[i].length ec∧Rd W (.slice eo L[i].length ec) L[i].length 1 (natV L[i])
theorem ListRd.push{W:World}{vs:List Value}{L:List (List Nat)} {x:List Nat} {eo:Option Addr} {ec:Nat} (h:ListRd W vs L) (hx:Rd W (.slice eo x.length ec) x.length 1 (natV x)):ListRd W (vs++[.slice eo x.length ec]) (L++[x]):=by
 refine⟨by simp [h.1],fun i hi=>?_⟩
 by_cases hl:i<L.length
 ·obtain⟨ao',c',q1,q2⟩:=h.2 i hl
  refine⟨ao',c',?_,?_⟩
  ·rw [List.getD_eq_getElem?_getD,List.getElem?_append_left (by rw [h.1];exact hl),← List.getD_eq_getElem?_getD,q1,List.getElem_append_left hl]
  ·rw [List.getElem_append_left hl];exact q2
 ·have he:i=L.length:=by simp at hi;omega
  subst he
  have e:(L++[x])[L.length]'hi=x:=by simp
  refine⟨eo,ec,?_,?_⟩
  ·rw [e,List.getD_eq_getElem?_getD,← h.1,List.getElem?_append_right (Nat.le_refl _)];simp
  ·rw [e];exact hx
def CapOk(v:Value):Prop:=∀ ao n c,v=.slice ao n c→n≤c
def ExpSt(ps:LawsL)(qs:PairsL)(RS:List (List Nat)) (l0 l1 av:Value) (B Z:Nat) (_w W2:World) (a:Act) (W:World):Prop:=∃(k:Nat) (ao:Option Addr) (c:Nat) (vs:List Value),k≤Z∧a.defers=[]∧(a.tmps.size=35∧a.tmps.getD 0 undef=l0∧a.tmps.getD 1 undef=l1∧a.tmps.getD 5 undef=.slice ao (expR ps qs (RS.take k)).length c∧a.tmps.getD 6 undef=av∧a.tmps.getD 7 undef=.int .i64 k)∧W.ownsRow B 48 1 (.slice ao (expR ps qs (RS.take k)).length c) (expR ps qs (RS.take k)).length vs∧ListRd W2 vs (expR ps qs (RS.take k))∧Ext W2 W
end Go.Proofs.YtfdlhlghcbeblaaGreatDoor
set_option maxRecDepth 100000
set_option maxHeartbeats 8000000
namespace Go.Proofs.YtfdlhlghcbeblaaGreatDoor
open Go.RowKit Go.Ab
attribute [local go_sem] Oper.semAt_some wide_fn wide_depth
def rexpX(ps:LawsL)(qs:PairsL):List Nat:=if ordE (ps.map (·.1)) (qs.map (·.1))=0 then(expR ps qs (ordersR ps.length)).headD [] else []
def rexpB(ps:LawsL)(qs:PairsL):Bool:=if ordE (ps.map (·.1)) (qs.map (·.1))=0 then !(expR ps qs (ordersR ps.length)).isEmpty else false
end Go.Proofs.YtfdlhlghcbeblaaGreatDoor
set_option maxRecDepth 100000
set_option maxHeartbeats 8000000
namespace Go.Proofs.YtfdlhlghcbeblaaGreatDoor
open Go.RowKit Go.Ab
attribute [local go_sem] Oper.semAt_some wide_fn wide_depth
def rallL(ps:LawsL)(qs:PairsL)(most:Int):List (List Nat):=if ordE (ps.map (·.1)) (qs.map (·.1))=0 then(expR ps qs (ordersR ps.length)).take most.toNat else []
end Go.Proofs.YtfdlhlghcbeblaaGreatDoor
namespace Go.Proofs.YtfdlhlghcbeblaaGreatDoor
open Go.RowKit Go.Ab
attribute [local go_sem] Oper.semAt_some wide_fn wide_depth
def cntR(ps:LawsL)(qs:PairsL)(x:List Nat):Nat:=(explsR ps x qs).countP id
def bestStepR(ps:LawsL)(qs:PairsL)(s:List Nat × Int)(x:List Nat):List Nat × Int:=if s.2<(cntR ps qs x:Int) then(x,(cntR ps qs x:Int)) else s
def bestR(ps:LawsL)(qs:PairsL)(l:List (List Nat)):List Nat × Int:=l.foldl (bestStepR ps qs) ([],-1)
end Go.Proofs.YtfdlhlghcbeblaaGreatDoor
set_option maxRecDepth 100000
set_option maxHeartbeats 16000000
namespace Go.Proofs.YtfdlhlghcbeblaaGreatDoor
open Go.RowKit Go.Ab
attribute [local go_sem] Oper.semAt_some wide_fn wide_depth
theorem res_2{fn:Func}{t u:Tmp}(h:fn.results=#[.tmp t,.tmp u]){tmps:Array Value}{P:Program}{w:World}{x y:Value}(hx:tmps.getD t undef=x)(hy:tmps.getD u undef=y):(results fn tmps).run P w=.ok (.tuple #[x,y]) w:=by
 subst hx hy
 simp [results,h,go_sem]
theorem explL_length(LD:List LawD)(qs:PairsL)(n:Nat):(explL LD qs n).length≤(permsF n (List.range n)).length:=List.length_filter_le _ _
theorem grid_shut{V w':World}{base base':Nat}{O:Nat→Prop}{v:Value}{vs:List Value}{L:List (List Nat)} (h3:V.ownsRow base 48 1 v L.length vs) (h5:GridV base O V vs L) (ht:Turn (Go.Ab.Shut base' V) V w'):GridAt w' v L:=
 ⟨vs,Rd.of_own (own_keep h3 ht (fun g hg e=>by obtain⟨cur,hc⟩:=own_block_ty h3 hg;exact Go.Ab.Shut.not hc rfl e)),fun i hi=>by
  obtain⟨a1,c1,q1,q2,_⟩:=h5.2 i hi
  exact⟨a1,c1,q1,Rd.of_own (own_keep q2 ht (fun g hg e=>by obtain⟨cur,hc⟩:=own_block_ty q2 hg;exact Go.Ab.Shut.not hc rfl e))⟩⟩
theorem all_cap{w:World}{ps:LawsL}{qs:PairsL}{lo:Option Addr}{n lc:Nat}{po:Option Addr}{m pc:Nat}{most:Int}(hl:LawsAt w (.slice lo n lc) ps) (hn:ps.length=n) (hp:PairsAt w (.slice po m pc) qs) (hm:qs.length=m) (hT:Tab w) :
  Calls Tryz.prog 39 #[.slice lo n lc,.slice po m pc,.int .i64 most] w fun e w'=>∃ ao c,e=.returned (.tuple #[.slice ao (allL (ps.map (·.1)) qs most).length c,.int .i64 (ordE (ps.map (·.1)) (qs.map (·.1)))])∧(GridAt w' (.slice ao (allL (ps.map (·.1)) qs most).length c) (allL (ps.map (·.1)) qs most)∧(allL (ps.map (·.1)) qs most).length≤c)∧Ext w w':=by
 have hck:=fun(V:World) (hE:Ext w V)=>ocheck_any (hl.ext hE) hn (pairs_ext hp hE) hm (hT.keep hE id)
 obtain⟨LD,hLD⟩:∃ x,ps.map (·.1)=x:=⟨_,rfl⟩
 have hLn:LD.length=n:=by rw [← hLD,List.length_map,hn]
 have hsix:ordE LD (qs.map (·.1))=0→n≤6∧m≤1000:=fun h=>by have:=ordE_six h;rw [hLn,List.length_map,hm] at this;omega
 have hit:=fun(h:ordE LD (qs.map (·.1))=0) (V:World) (B1 B2:Nat) (hE:Ext w V) (h1:V.heap[B1]?=_) (h2:V.heap[B2]?=_)=>expl_iter hE hl hn (hsix h).1 hp hm (hsix h).2 hT h1 h2
 have hlen:ordE LD (qs.map (·.1))=0→(explL LD qs n).length≤720:=fun h=>by
  have h1:=explL_length LD qs n
  have h2:=perms_count n (hsix h).1
  omega
 rw [hLD]
 simp only [hLD] at hck hit
 obtain⟨X,hX⟩:∃ x,allL LD qs most=x:=⟨_,rfl⟩
 rw [hX]
 unfold allL at hX
 rw [hLn] at hX
 obtain⟨L,hL⟩:∃ x,explL LD qs n=x:=⟨_,rfl⟩
 obtain⟨E,hE0⟩:∃ x,ordE LD (qs.map (·.1))=x:=⟨_,rfl⟩
 rw [hL,hE0] at hX hlen
 rw [hE0] at hit ⊢
 simp only [hL] at hit
 simp only [hE0] at hck
 have HCK:=Lib.hid hck;have HIT:=Lib.hid hit;have HX:=Lib.hid hX;have HLEN:=Lib.hid hlen
 clear hck hit hX hlen hL hE0 hsix hLD hLn hl hn hp hm hT
 refine calls_of_wp_marks Tryz.func39 rfl ?_
 simp only [Tryz.ntmps39,List.size_toArray,List.length_cons,List.length_nil,Nat.reduceAdd,Nat.reduceSub,Array.replicate_succ,Array.replicate_zero,List.push_toArray,List.append_toArray,List.nil_append,List.cons_append]
 go_upto_region 1 with (fail)
 obtain⟨N,hN⟩:∃ N,w.heap.size=N:=⟨_,rfl⟩
 obtain⟨w1,hw1⟩:∃ D,w.alloc (.cells #[.int .i64 most] 3)=D:=⟨_,rfl⟩
 have hE1:Ext w w1:=by rw [← hw1];exact(Turn.refl _ w).alloc _
 have h10:w1.heap[N]?=some (.cells #[.int .i64 most] 3 (0,0)):=by rw [← hw1];exact new_at hN.symm
 rw [hN,hw1]
 have HE1:=Lib.hid hE1;have H10:=Lib.hid h10;have HN:=Lib.hid hN
 clear hE1 h10 hw1 hN
 go_wp2_with fail
 refine(HCK.out _ HE1.out).mono ?_
 rintro e w2 ⟨rfl,hN2⟩
 have H20:=Lib.hid (hN2.keep H10.out);have HE2:=Lib.hid (HE1.out.trans hN2)
 clear hN2 HE1 H10 HCK
 by_cases hE0:E=0
 case neg=>
  have hne:(E != 0)=true:=by simpa using hE0
  have hx:=HX.out
  rw [if_neg hE0] at hx
  subst hx
  go_wp2
  refine leavesM (v:=.tuple #[.slice none 0 0,.int .i64 E]) (base:=N) _ _ trivial fun w' ht' hs=>⟨res_2 rfl rfl rfl,none,0,rfl,⟨grid_nil _,Nat.le_refl _⟩,Turn.after HE2.out ht' (fun b hb h=>by have:=h.1;have:=HN.out;omega)⟩
 subst hE0
 have hx:=HX.out
 rw [if_pos (by first | trivial | rfl)] at hx
 have HX2:=Lib.hid hx;have HLN:=Lib.hid (HLEN.out (by first | trivial | rfl))
 clear hx HX HLEN
 go_upto_region 5 with (fail)
 obtain⟨w3,hw3⟩:∃ D,w2.alloc (.cells #[.slice none 0 0] 27)=D:=⟨_,rfl⟩
 have hN3:Ext w2 w3:=by rw [← hw3];exact(Turn.refl _ w2).alloc _
 have h31:w3.heap[w2.heap.size]?=some (.cells #[.slice none 0 0] 27 (0,0)):=by rw [← hw3];exact new_at rfl
 have hNX:N<w2.heap.size:=(Array.getElem?_eq_some_iff.1 H20.out).1
 obtain⟨BX,hBX⟩:∃ B,w2.heap.size=B:=⟨_,rfl⟩
 rw [hw3,hBX]
 rw [hBX] at h31 hNX
 have H30:=Lib.hid (hN3.keep H20.out);have H31:=Lib.hid h31;have HE3:=Lib.hid (HE2.out.trans hN3)
 clear hw3 hBX hN3 h31 H20 HE2
 have c0:=cell_of_one H30.out
 by_cases hmost:most<1
 ·have hx2:=HX2.out
  rw [show most.toNat=0 by omega,List.take_zero] at hx2
  subst hx2
  go_wp2
  refine leavesM (v:=.tuple #[.slice none 0 0,.int .i64 0]) (base:=N) _ _ trivial fun w' ht' hs=>⟨res_2 rfl rfl rfl,none,0,rfl,⟨grid_nil _,Nat.le_refl _⟩,Turn.after HE3.out ht' (fun b hb h=>by have:=h.1;have:=HN.out;omega)⟩
 go_upto_region 7 with (fail)
 clear c0
 go_wp2_with fail
 refine(explaining_any _ _ _ _ _ _ _).mono ?_
 rintro e w4 ⟨rfl,hb1,hb2,hE4,hs4⟩
 obtain⟨Y,hY⟩:∃ Y,w3.heap.size=Y:=⟨_,rfl⟩
 rw [hY] at hb1 hb2 hs4 ⊢
 have hit:=HIT.out (by first | trivial | rfl) w4 Y (Y+1) (HE3.out.trans hE4) hb1 hb2
 have hXY:BX<Y:=by rw [← hY];exact(Array.getElem?_eq_some_iff.1 H31.out).1
 have HE4:=Lib.hid (HE3.out.trans hE4);have HS4:=Lib.hid hs4;have HITT:=Lib.hid hit
 have H40:=Lib.hid (hE4.keep H30.out);have H41:=Lib.hid (hE4.keep H31.out)
 clear hE4 hs4 hit hb1 hb2 hY HIT H30 H31 HE3
 go_wp2
 refine wp_rangeO (xs:=L) (K:=fun b=>b<w.heap.size∨b=Y∨b=Y+1) rfl (fun args w=>by simp [go_sem]) HITT.out (fun b h=>by have:=HS4.out;have:=HN.out;rcases h with h | h | h <;> omega) (fun _ _ x A ys h=>by obtain⟨_,_,rfl,_⟩:=h;rfl) ?hEs
  (fun O pre V=>(pre.length:Int)<most∧AllSt BX N (w4.heap.size+2) most w O pre V) (fun c O pre V=>c=.exit 0∧(pre.length:Int)=most∧AllSt BX N (w4.heap.size+2) most w O pre V) ?hI ?hIx ?h0 (fun ys t=>(t.setIfInBounds 22 (ys.getD 0 undef)).setIfInBounds 10 (ys.getD 0 undef)) ?assign ?body ?done ?stop
 case hEs=>
  rintro n' O x A B ys ⟨vo,vc,rfl,h1,h2⟩ ht ⟨o,q1,q2⟩
  refine⟨vo,vc,rfl,own_keep h1 ht (fun g hg e=>?_),h2⟩
  subst e
  obtain⟨cur,hc⟩:=own_block_ty h1 hg
  rw [q1] at hc;cases hc;cases q2
 case hI=>
  rintro O O' pre A B ⟨hlt,h⟩ hO ht hO'
  exact⟨hlt,h.step (D:=w4.heap.size) (by rw [HS4.out];have:=HN.out;omega) (by rw [HS4.out];omega) rfl hO (ht.mono fun b _ h=>h.imp (fun h=>h.1) id) hO'⟩
 case hIx=>
  rintro c O O' pre A B ⟨rfl,hlt,h⟩ hO ht hO'
  exact⟨rfl,hlt,h.step (D:=w4.heap.size) (by rw [HS4.out];have:=HN.out;omega) (by rw [HS4.out];omega) rfl hO (ht.mono fun b _ h=>h.imp (fun h=>h.1) id) hO'⟩
 case h0=>
  intro V hV hs
  exact⟨by simp;omega,none,0,[],hV.keep H41.out,hV.keep H40.out,World.ownsRow_nil _ _ _ _,(fun g hg=>by cases hg),⟨rfl,fun i hi=>by cases hi⟩,Turn.trans HE4.out hV⟩
 case assign=>
  rintro _ _ x ys V Kn ⟨vo,vc,rfl,_⟩ hK
  gi_wp2
  exact hK
 case done=>
  rintro O V ⟨hlt,ao,c,vs,h1,h2,h3,h4,h5,hE⟩ hO ht hD
  have hx:=HX2.out
  rw [List.take_of_length_le (by omega)] at hx
  subst hx
  have hgr:GridAt V (.slice ao L.length c) L:=⟨vs,Rd.of_own h3,fun i hi=>by obtain⟨a1,c1,q1,q2,_⟩:=h5.2 i hi;exact⟨a1,c1,q1,Rd.of_own q2⟩⟩
  have H3:=Lib.hid h3;have H5:=Lib.hid h5;have HEV:=Lib.hid hE;have HD:=Lib.hid hD
  have c1:=cell_of_one h1
  obtain⟨ln,hln⟩:∃ k,L.length=k:=⟨_,rfl⟩
  have HLL:=Lib.hid hln
  rw [hln] at c1
  clear h1 h2 h3 h4 h5 hE hD hO ht hgr hln HX2
  go_wp2
  have hz:=HS4.out
  refine leavesM (v:=.tuple #[.slice ao ln c,.int .i64 0]) (base:=N) _ _ (Marks.cons (base:=N) trivial (by omega) HD.out (fun e he=>by cases he)) fun w' ht' hs=>⟨res_2 rfl rfl rfl,ao,c,by rw [HLL.out],⟨grid_shut H3.out H5.out ht',by have:=(own_len H3.out).1;first | exact this | (rw [HLL.out];exact this)⟩,Turn.after HEV.out ht' (fun b hb h=>by have:=h.1;have:=HN.out;omega)⟩
 case stop=>
  rintro c O pre x rest V hx ⟨rfl,hlt,ao,c,vs,h1,h2,h3,h4,h5,hE⟩ hD
  have hx2:=HX2.out
  have hpl:(pre++[x]).length=most.toNat:=by omega
  rw [hx,show pre++x::rest=(pre++[x])++rest by simp,← hpl,List.take_left] at hx2
  obtain⟨P,hP⟩:∃ P,pre++[x]=P:=⟨_,rfl⟩
  rw [hP] at hx2 hlt h1 h3 h4 h5
  subst hx2
  have H3:=Lib.hid h3;have H5:=Lib.hid h5;have HEV:=Lib.hid hE;have HD:=Lib.hid hD
  have c1:=cell_of_one h1
  obtain⟨ln,hln⟩:∃ k,P.length=k:=⟨_,rfl⟩
  have HLL:=Lib.hid hln
  rw [hln] at c1
  clear h1 h2 h3 h4 h5 hE hD hln hx hpl hP hlt HX2
  refine wp_exit ?_
  go_wp2
  have hz:=HS4.out
  refine leavesM (v:=.tuple #[.slice ao ln c,.int .i64 0]) (base:=N) _ _ (Marks.cons (base:=N) trivial (by omega) HD.out (fun e he=>by cases he)) fun w' ht' hs=>⟨res_2 rfl rfl rfl,ao,c,by rw [HLL.out],⟨grid_shut H3.out H5.out ht',by have:=(own_len H3.out).1;first | exact this | (rw [HLL.out];exact this)⟩,Turn.after HEV.out ht' (fun b hb h=>by have:=h.1;have:=HN.out;omega)⟩
 case body=>
  rintro O pre x rest ys V hx hsz hO ht ⟨hlt,ao,c,vs,h1,h2,h3,h4,h5,hE⟩ ⟨vo,vc,rfl,hr,hg⟩
  simp only [pq]
  have hpl:pre.length<720:=by
   have h1:=congrArg List.length hx
   have h2:=HLN.out
   simp at h1
   omega
  have HX3:=Lib.hid hx;have HO:=Lib.hid hO;have H1:=Lib.hid h1;have H2:=Lib.hid h2;have H4:=Lib.hid h4;have H5:=Lib.hid h5;have HEV:=Lib.hid hE;have HR:=Lib.hid hr;have HG:=Lib.hid hg;have H3:=Lib.hid h3
  have c1:=cell_of_one h1;have f1:=free_of_one h1;have c2:=cell_of_one h2
  clear hx hO h1 h2 h4 h5 hE hr hg ht
  refine wpIn_block ?_
  refine wpIn_seq ?_
  refine wpIn_region_plain (by kernel_rfl) ?hLO ?_
  case hLO=>rintro⟨_,_,h⟩;exact h
  have hz:Y+2≤w4.heap.size:=Nat.le_of_eq HS4.out.symm
  obtain⟨xn,hxn⟩:∃ k,x.length=k:=⟨_,rfl⟩
  have HXN:=Lib.hid hxn
  rw [hxn]
  clear hxn
  go_wp2_with (at_builtin;refine append_row rfl (.tmp 23) (.tmp 25) 27 rfl (w4.heap.size+2) 48 _ 1 24 Tryz.underlying27 @infoSI rfl (by decide) _ _ _ rfl (own_ext h3 ((Turn.refl _ V).alloc _)) ⟨V.heap.size,0,none⟩ 1 1 [.slice vo xn vc] rfl rfl (new_cells' rfl) ?c2 ?c3 ?c4 ?c5 ?_)
  case c2=>first | rfl | (intro u hu;simp at hu;rcases hu with rfl;rfl)
  case c3=>unfold maxLen;omega
  case c4=>omega
  case c5=>simp;omega
  intro ao' c' w5 hO5 hT5 hB5
  have hT6:Turn (fun b=>(Value.slice ao pre.length c).ownBlock=some b) V w5:=Turn.trans (Turn.alloc (Turn.refl _ V) _) hT5
  have hb6:(Value.slice ao' (pre.length+1) c').ownBlock=(Value.slice ao pre.length c).ownBlock∨∃ g,V.heap.size≤g∧(Value.slice ao' (pre.length+1) c').ownBlock=some g:=hB5.imp id fun e=>⟨_,by simp,e⟩
  have hpush:=AllSt.push (BX:=BX) (BM:=N) (by have:=HN.out;omega) (by omega) (by omega) (by omega) (by have:=HN.out;omega) H1.out H2.out H3.out H4.out H5.out HEV.out (fun b hb=>(HO.out b hb).2) (own_base HR.out (Nat.le_refl _)) HG.out (by rw [HXN.out];exact hO5) hT6 hb6
  obtain⟨w6,hw6⟩:∃ D,w5.setCell ⟨BX,0,none⟩ (.slice ao' (pre.length+1) c')=D:=⟨_,rfl⟩
  rw [hw6] at hpush
  obtain⟨hst,htt⟩:=hpush
  have hw5:=hT6.heap H1.out (fun e=>by have:=(H3.out.lt _ e).1;omega)
  have c5:=cell_of_one hw5;have f5:=free_of_one hw5
  have hlen:(pre++[x]).length=pre.length+1:=by simp
  have hfin:Turn (fun b=>¬ ((b<w.heap.size∨b=Y∨b=Y+1)∨O b∨b=w4.heap.size∨b=w4.heap.size+1)) V w6:=htt.mono fun b _ h hn=>by
   have:=HN.out
   rcases h with h | ⟨h,hno⟩
   ·rcases hn with (h5 | h5 | h5) | h5 | h5 | h5
    ·omega
    ·omega
    ·omega
    ·have:=(HO.out b h5).1;omega
    ·omega
    ·omega
   ·rcases hn with (h5 | h5 | h5) | h5 | h5 | h5
    ·omega
    ·omega
    ·omega
    ·exact hno h5
    ·omega
    ·omega
  have hst':=hst
  obtain⟨ao6,c6,vs6,g1,g2,_⟩:=hst'
  rw [hlen] at g1
  have HST:=Lib.hid hst;have HFIN:=Lib.hid hfin;have HW6:=Lib.hid hw6;have G1:=Lib.hid g1;have G2:=Lib.hid g2;have HLEN2:=Lib.hid hlen
  clear hst htt hfin hw6 g1 g2 hT6 hb6 hT5 hB5 hO5 hw5 h3 c1 f1 hlen H1 H2 H3 H4 H5 HEV HR HG HX3 HO
  go_wp2
  rw [HW6.out]
  have c1:=cell_of_one G1.out;have c2:=cell_of_one G2.out
  by_cases hlast:((pre.length:Int)+1)=most
  ·gi_wp2
   exact⟨HFIN.out,rfl,by rw [HLEN2.out];simpa using hlast,HST.out⟩
  ·gi_wp2
   exact⟨HFIN.out,by rw [HLEN2.out];simp;omega,HST.out⟩
theorem all_any'{w:World}{ps:LawsL}{qs:PairsL}{lo:Option Addr}{n lc:Nat}{po:Option Addr}{m pc:Nat}{most:Int}(hl:LawsAt w (.slice lo n lc) ps) (hn:ps.length=n) (hp:PairsAt w (.slice po m pc) qs) (hm:qs.length=m) (hT:Tab w) :
  Calls Tryz.prog 39 #[.slice lo n lc,.slice po m pc,.int .i64 most] w fun e w'=>∃ ao c,e=.returned (.tuple #[.slice ao (allL (ps.map (·.1)) qs most).length c,.int .i64 (ordE (ps.map (·.1)) (qs.map (·.1)))])∧GridAt w' (.slice ao (allL (ps.map (·.1)) qs most).length c) (allL (ps.map (·.1)) qs most)∧Ext w w':=
 (all_cap hl hn hp hm hT).mono fun _ _ ⟨ao,c,h1,h2,h3⟩=>⟨ao,c,h1,h2.1,h3⟩
end Go.Proofs.YtfdlhlghcbeblaaGreatDoor
