/- order.explained (printed by genordx.py). order.by (first printed by genordb.py; since then changed by hand). slices.Index over bools. order.Fits. ablautref14.Fits. PLAIN: all orders, as the program visits them and as the reference lists them. PLAIN: the orders that begin with a list, as the program visits them. -/
import Derived.Test.YtfdlhlghcbeblaaGreatDoorH30
import Derived.Test.YtfdlhlghcbeblaaGreatDoorH26
import Derived.Test.YtfdlhlghcbeblaaGreatDoorH10
import Derived.Test.YtfdlhlghcbeblaaGreatDoorH05
import Derived.Test.YtfdlhlghcbeblaaGreatDoorH29
import Derived.Test.YtfdlhlghcbeblaaGreatDoorH17
set_option maxRecDepth 100000
set_option maxHeartbeats 16000000
namespace Go.Proofs.YtfdlhlghcbeblaaGreatDoor
open Go.RowKit Go.Ab
attribute [local go_sem] Oper.semAt_some wide_fn wide_depth
def xB(s:Option Wd)(t:Wd):Bool:=match s with | some u=>decide (u=t) | none=>false
def explC(ss:List (Option Wd × List Value)) (qs:PairsL) (k:Nat):List Value:=(List.range k).map fun i=>.bool (xB (ss.getD i (none,[])).1 (qs.getD i (([],[]),[])).1.2)
theorem blk_cells{V:World}{g:Nat}{vs:List Value}{t:TypeId}(h:V.heap[g]?=some (.cells vs.toArray t (0,0))):∀(j:Nat) (u:Value),vs[j]?=some u->V.cell? ((⟨g,0,none⟩:Addr).add j)=some u:=fun j u hu=>by
 have hadd:(⟨g,0,none⟩:Addr).add j=⟨g,j,none⟩:=by unfold Addr.add;split <;> simp_all
 rw [hadd,cell_of_row V g j _ t _ h]
 simpa using hu
theorem infoB1:(Tryz.prog.info? 4).map (fun i=>(i.zero,i.size,i.bytes))=some (some (.bool false),1,1):=by kernel_rfl
theorem explC_succ(ss:List (Option Wd × List Value)) (qs:PairsL) (k:Nat):explC ss qs (k+1)=explC ss qs k++[.bool (xB (ss.getD k (none,[])).1 (qs.getD k (([],[]),[])).1.2)]:=by
 unfold explC;rw [List.range_succ,List.map_append];rfl
theorem explained_any{w:World}{ss:List (Option Wd × List Value)} {qs:PairsL} {so:Option Addr} {sc:Nat} {po:Option Addr} {n pc:Nat} (hs:StatesAt w (.slice so n sc) ss) (hsn:ss.length=n) (hp:PairsAt w (.slice po n pc) qs) (hn:qs.length=n) (hb:n<=1000) :
  Calls Tryz.prog 101 #[.slice so n sc,.slice po n pc] w fun e w'=>∃ ao c,e=.returned (.slice ao n c)/\w'.ownsRow w.heap.size 4 1 (.slice ao n c) n (explC ss qs n)/\Ext w w':=by
 have HS:=Lib.hid hs;have HP:=Lib.hid hp;have HN:=Lib.hid hn;have HSL:=Lib.hid hsn
 clear hs hp hn hsn
 go_enter Tryz.func101,Tryz.ntmps101
 go_wp2
 refine wp_loop (fun a W=>∃(k:Nat) (ao:Option Addr) (c:Nat),k<=n/\a.defers=[]/\(a.tmps.size=33/\a.tmps.getD 1 undef=.slice po n pc/\a.tmps.getD 5 undef=.slice ao k c/\a.tmps.getD 8 undef=.slice so n sc/\a.tmps.getD 9 undef=.int .i64 n/\a.tmps.getD 10 undef=.int .i64 k)/\W.ownsRow w.heap.size 4 1 (.slice ao k c) k (explC ss qs k)/\Ext w W)
  (fun a _=>((n:Int) - intOf (a.tmps.getD 10 undef)).toNat) ?_ ?_
 ·exact⟨0,none,0,by omega,rfl,⟨rfl,rfl,rfl,rfl,rfl,rfl⟩,World.ownsRow_nil _ _ _ _,Turn.refl _ _⟩
 rintro⟨t,_⟩ W ⟨k,ao,c,hk,hds,⟨hsz,f1,f5,f8,f9,f10⟩,ho,hE⟩
 subst hds
 obtain⟨u',hu⟩:=frame_fun hsz
 obtain⟨u,rfl⟩:∃ x,x=u':=⟨_,rfl⟩
 have hu':t=#[u 0,u 1,u 2,u 3,u 4,u 5,u 6,u 7,u 8,u 9,u 10,u 11,u 12,u 13,u 14,u 15,u 16,u 17,u 18,u 19,u 20,u 21,u 22,u 23,u 24,u 25,u 26,u 27,u 28,u 29,u 30,u 31,u 32]:=hu
 clear hu
 subst hu'
 change u 1=_ at f1
 change u 5=_ at f5
 change u 8=_ at f8
 change u 9=_ at f9
 change u 10=_ at f10
 rw [f1,f5,f8,f9,f10]
 clear f1 f5 f8 f9 f10 hsz
 have HO:=Lib.hid ho;have HE:=Lib.hid hE
 clear ho hE
 by_cases hkN:k<n
 ·have h1:(k:Int)<(n:Int):=by omega
  have h0:(0:Int)<=(k:Int):=by omega
  have hkl:k<qs.length:=by rw [HN.out];exact hkN
  have hks:k<ss.length:=by rw [HSL.out];exact hkN
  obtain⟨g,off,c',hq,hrg,⟨u,v,hcs,zz1,hv⟩,zz2⟩:=StrAt.at HP.out hkl
  replace hq:=hq (by decide)
  obtain⟨hq,hg⟩:=hq
  simp only [Value.slice.injEq] at hq
  obtain⟨rfl,hz,rfl⟩:=hq
  clear hz
  rw [hcs] at hrg
  obtain⟨qo,qc,rfl,hvw,zz3⟩:=hv
  have d1:=HE.out.cell_some (hrg 1 _ rfl) id
  obtain⟨g2,off2,c2',hq,hrg2,⟨fo,fl,fc,hcs2,hfu⟩,zz4⟩:=StrAt.at HS.out hks
  replace hq:=hq (by decide)
  obtain⟨hq,hg2⟩:=hq
  simp only [Value.slice.injEq] at hq
  obtain⟨rfl,hz,rfl⟩:=hq
  clear hz
  rw [hcs2] at hrg2
  have e0:=HE.out.cell_some (hrg2 0 _ rfl) id
  have e1:=HE.out.cell_some (hrg2 1 _ rfl) id
  rw [Nat.add_zero] at e0
  have hx:=explC_succ ss qs k
  have hgs:ss.getD k (none,[])=ss[k]:=by rw [List.getD_eq_getElem?_getD,List.getElem?_eq_getElem hks];rfl
  have hgq:qs.getD k (([],[]),[])=qs[k]:=by rw [List.getD_eq_getElem?_getD,List.getElem?_eq_getElem hkl];rfl
  rw [hgs,hgq] at hx
  obtain⟨st,hst⟩:∃ x,ss[k].1=x:=⟨_,rfl⟩
  obtain⟨tw,htw⟩:∃ x,qs[k].1.2=x:=⟨_,rfl⟩
  rw [hst] at hx e1 hfu
  rw [htw] at hx hvw d1
  obtain⟨tl,htl⟩:∃ x,tw.length=x:=⟨_,rfl⟩
  rw [htl] at d1 hvw
  have HX:=Lib.hid hx;have HFU:=Lib.hid hfu;have HVW:=Lib.hid hvw
  have hwk:IntKind.i64.wrap ((k:Int)+1)=(k:Int)+1:=IntWalk.i64_in _ (by omega)
  clear hx hfu hvw hgs hgq hst htw htl zz1 zz2 zz3 zz4 hcs hcs2 hrg hrg2 hkl hks
  go_upto_region 5 with (fail)
  obtain⟨b,hbb⟩:∃ b,st.isNone=b:=⟨_,rfl⟩
  rw [hbb] at e1 ⊢
  have HBB:=Lib.hid hbb
  clear hbb
  obtain⟨W1,hW1⟩:∃ D,W.alloc (.cells #[.slice fo fl fc,.bool b] 240)=D:=⟨_,rfl⟩
  have hN1:Ext W W1:=by rw [<-hW1];exact(Turn.refl _ W).alloc _
  have hX1:W1.heap[W.heap.size]?=some (.cells #[.slice fo fl fc,.bool b] 240 (0,0)):=by rw [<-hW1];exact new_at rfl
  have d2:=hN1.cell_some d1 id
  rw [hW1]
  obtain⟨X,hX⟩:∃ x,W.heap.size=x:=⟨_,rfl⟩
  rw [hX] at hX1 ⊢
  obtain⟨V0,hV0⟩:∃ D,W1.drew=D:=⟨_,rfl⟩
  have hN0:Ext W V0:=by rw [<-hV0];exact hN1.drew
  have hS0:V0.heap[X]?=some (.cells #[.slice fo fl fc,.bool b] 240 (0,0))/\V0.cell? ⟨g,off+k*2+1,none⟩=some (.slice qo tl qc):=by rw [<-hV0];exact⟨hX1,d2⟩
  refine wp_region_late (S:=fun D=>D.heap[X]?=some (.cells #[.slice fo fl fc,.bool b] 240 (0,0))/\D.cell? ⟨g,off+k*2+1,none⟩=some (.slice qo tl qc)) [] (by kernel_rfl) (by rw [hV0];exact hS0) ?_
  intro _
  rw [hV0]
  have HX0:=Lib.hid hX;have HN0:=Lib.hid hN0;have HG:=Lib.hid hg
  clear hV0 hW1 hN1 hX1 d1 d2 e0 e1 hX hN0 hg hg2
  refine tkE (i:=0) (d:=15) (v:=?_) rfl (Or.inl ⟨by rfl,?_⟩) hS0 ?_
  rotate_left
  ·intro w hSw;(try dsimp only at hSw);have c1:=fun j=>cell_of_row _ _ j _ _ _ hSw.1;have c2:=hSw.2;go_simp;try with_reducible rfl
  try simp only [Act.put,pq]
  cases st with
  | none=>
   obtain rfl:b=true:=HBB.out.symm
   refine tkE (i:=1) (d:=16) (v:=?_) rfl (Or.inl ⟨by rfl,?_⟩) hS0 ?_
   rotate_left
   ·intro w hSw;(try dsimp only at hSw);have c1:=fun j=>cell_of_row _ _ j _ _ _ hSw.1;have c2:=hSw.2;go_simp;try with_reducible rfl
   try simp only [Act.put,pq]
   refine tkE (i:=2) (d:=17) (v:=?_) rfl (Or.inl ⟨by rfl,?_⟩) hS0 ?_
   rotate_left
   ·intro w hSw;(try dsimp only at hSw);have c1:=fun j=>cell_of_row _ _ j _ _ _ hSw.1;have c2:=hSw.2;go_simp;try with_reducible rfl
   try simp only [Act.put,pq]
   refine tkE (i:=3) (d:=18) (v:=?_) rfl (Or.inl ⟨by rfl,?_⟩) hS0 ?_
   rotate_left
   ·intro w hSw;(try dsimp only at hSw);have c1:=fun j=>cell_of_row _ _ j _ _ _ hSw.1;have c2:=hSw.2;go_simp;try with_reducible rfl
   try simp only [Act.put,pq]
   refine tkE (i:=4) (d:=19) (v:=?_) rfl (Or.inl ⟨by rfl,?_⟩) hS0 ?_
   rotate_left
   ·intro w hSw;(try dsimp only at hSw);have c1:=fun j=>cell_of_row _ _ j _ _ _ hSw.1;have c2:=hSw.2;go_simp;try with_reducible rfl
   try simp only [Act.put,pq]
   refine tkE (i:=5) (d:=20) (v:=undef) rfl (Or.inr ⟨by rfl,rfl⟩) hS0 ?_
   try simp only [Act.put,pq]
   refine tkE (i:=6) (d:=21) (v:=undef) rfl (Or.inr ⟨by rfl,rfl⟩) hS0 ?_
   try simp only [Act.put,pq]
   refine tkE (i:=7) (d:=22) (v:=undef) rfl (Or.inr ⟨by rfl,rfl⟩) hS0 ?_
   try simp only [Act.put,pq]
   refine tkE (i:=8) (d:=23) (v:=undef) rfl (Or.inr ⟨by rfl,rfl⟩) hS0 ?_
   try simp only [Act.put,pq]
   refine tkE (i:=9) (d:=24) (v:=undef) rfl (Or.inr ⟨by rfl,rfl⟩) hS0 ?_
   try simp only [Act.put,pq]
   refine tkE (i:=10) (d:=25) (v:=undef) rfl (Or.inr ⟨by rfl,rfl⟩) hS0 ?_
   try simp only [Act.put,pq]
   refine tkE (i:=11) (d:=26) (v:=undef) rfl (Or.inr ⟨by rfl,rfl⟩) hS0 ?_
   try simp only [Act.put,pq]
   refine tkE (i:=12) (d:=27) (v:=undef) rfl (Or.inr ⟨by rfl,rfl⟩) hS0 ?_
   try simp only [Act.put,pq]
   refine tkE (i:=13) (d:=28) (v:=?_) rfl (Or.inl ⟨by rfl,?_⟩) hS0 ?_
   rotate_left
   ·intro w hSw;(try dsimp only at hSw);have c1:=fun j=>cell_of_row _ _ j _ _ _ hSw.1;have c2:=hSw.2;go_simp;try with_reducible rfl
   try simp only [Act.put,pq]
   refine wpAnyE_ready (rs:=[14]) (by kernel_rfl) (by simp) ?_
   refine AllReadyE.cons rfl (fun K hK=>?_) AllReadyE.nil
   (try rw [if_pos (show Region.wanted _ _=true from rfl)])
   go_simp
   obtain⟨V7,hV⟩:∃ D,V0.alloc (.cells #[.bool false] 4)=D:=⟨_,rfl⟩
   have hN7:Ext W V7:=by rw [<-hV];exact HN0.out.trans ((Turn.refl _ V0).alloc _)
   have hb7:V7.heap[V0.heap.size]?=some (.cells #[.bool false] 4 (0,0)):=by rw [<-hV];exact new_at rfl
   have hS7:V7.heap[X]?=some (.cells #[.slice fo fl fc,.bool true] 240 (0,0))/\V7.cell? ⟨g,off+k*2+1,none⟩=some (.slice qo tl qc):=by rw [<-hV];exact⟨new_keep hS0.1,((Turn.refl (fun _=>False) V0).alloc _).cell_some hS0.2 id⟩
   rw [hV]
   obtain⟨Y,hY⟩:∃ y,V0.heap.size=y:=⟨_,rfl⟩
   rw [hY] at hb7 ⊢
   clear hV hY
   refine hK.out _ _ hS7 (fun _=>?_)
   clear hK K
   try simp only [Act.put,pq]
   refine wpAnyE_ready (rs:=[15]) (by kernel_rfl) (by simp) ?_
   refine AllReadyE.cons rfl (fun K hK=>?_) AllReadyE.nil
   (try rw [if_pos (show Region.wanted _ _=true from rfl)])
   refine append_oper (.tmp 15) (.tmp 29) 158 rfl w.heap.size 4 _ 1 1 Tryz.underlying158 @infoB1 rfl (by decide) _ _ _ rfl (own_ext HO.out hN7) ⟨Y,0,none⟩ 1 1 [.bool false] rfl rfl (blk_cells (vs:=[.bool false]) hb7) (by intro x hx;simp at hx;subst hx;rfl) (by unfold maxLen;omega) (by omega) (Nat.le_trans HE.out.size hN7.size) ?_
   intro ao' c3 V8 hO8 hT8 hB8
   have hlt:=fun g hg=>HO.out.lt g hg
   have hS8:V8.heap[X]?=some (.cells #[.slice fo fl fc,.bool true] 240 (0,0))/\V8.cell? ⟨g,off+k*2+1,none⟩=some (.slice qo tl qc):=⟨hT8.heap hS7.1 (fun e=>by have:=hlt _ e;have:=HX0.out;omega),hT8.cell_some hS7.2 (fun(e:Value.ownBlock _=some g)=>by have:=(hlt g e).1;have:=HG.out;omega)⟩
   have hE8:Ext w V8:=Turn.after (HE.out.trans hN7) hT8 (fun b hb e=>by have:=(hlt _ e).1;omega)
   have HO8:=Lib.hid hO8;have HE8:=Lib.hid hE8
   clear hO8 hE8 hT8 hB8 hlt
   refine hK.out _ _ hS8 (fun _=>?_)
   clear hK K
   try simp only [Act.put,pq]
   refine tkE (i:=16) (d:=5) (v:=?_) rfl (Or.inl ⟨by rfl,?_⟩) hS8 ?_
   rotate_left
   ·intro w hSw;(try dsimp only at hSw);have c1:=fun j=>cell_of_row _ _ j _ _ _ hSw.1;have c2:=hSw.2;go_simp;try with_reducible rfl
   try simp only [Act.put]
   refine wpAnyE_done (by kernel_rfl) ?_ _
   go_wp2
   exact⟨⟨k+1,ao',c3,by omega,by first | rfl | trivial,⟨rfl,rfl,rfl,rfl,rfl,rfl⟩,by rw [HX.out];exact HO8.out,HE8.out⟩,by first | (simp [intOf];done) | (simp [intOf];omega)⟩
  | some u'=>
   obtain rfl:b=false:=HBB.out.symm
   obtain⟨ao1,cc1,hq,hfw,_⟩:=HFU.out u' rfl
   simp only [Value.slice.injEq] at hq
   obtain⟨rfl,hfl,rfl⟩:=hq
   have HFL:=Lib.hid hfl
   rw [<-hfl] at hfw
   have hce:=fun(D:World) (hD:Ext W D)=>eqW (hfw.ext (HE.out.trans hD)) (HVW.out.ext (HE.out.trans hD))
   obtain⟨r,hr⟩:∃ r,decide (u'=tw)=r:=⟨_,rfl⟩
   simp only [hr] at hce
   have HCE:=Lib.hid hce;have HR:=Lib.hid hr
   clear hfl hfw hce hr
   refine tkE (i:=1) (d:=16) (v:=?_) rfl (Or.inl ⟨by rfl,?_⟩) hS0 ?_
   rotate_left
   ·intro w hSw;(try dsimp only at hSw);have c1:=fun j=>cell_of_row _ _ j _ _ _ hSw.1;have c2:=hSw.2;go_simp;try with_reducible rfl
   try simp only [Act.put,pq]
   refine tkE (i:=2) (d:=17) (v:=?_) rfl (Or.inl ⟨by rfl,?_⟩) hS0 ?_
   rotate_left
   ·intro w hSw;(try dsimp only at hSw);have c1:=fun j=>cell_of_row _ _ j _ _ _ hSw.1;have c2:=hSw.2;go_simp;try with_reducible rfl
   try simp only [Act.put,pq]
   refine tkE (i:=3) (d:=18) (v:=?_) rfl (Or.inl ⟨by rfl,?_⟩) hS0 ?_
   rotate_left
   ·intro w hSw;(try dsimp only at hSw);have c1:=fun j=>cell_of_row _ _ j _ _ _ hSw.1;have c2:=hSw.2;go_simp;try with_reducible rfl
   try simp only [Act.put,pq]
   refine tkE (i:=4) (d:=19) (v:=?_) rfl (Or.inl ⟨by rfl,?_⟩) hS0 ?_
   rotate_left
   ·intro w hSw;(try dsimp only at hSw);have c1:=fun j=>cell_of_row _ _ j _ _ _ hSw.1;have c2:=hSw.2;go_simp;try with_reducible rfl
   try simp only [Act.put,pq]
   refine tkE (i:=5) (d:=20) (v:=?_) rfl (Or.inl ⟨by rfl,?_⟩) hS0 ?_
   rotate_left
   ·intro w hSw;(try dsimp only at hSw);have c1:=fun j=>cell_of_row _ _ j _ _ _ hSw.1;have c2:=hSw.2;go_simp;try with_reducible rfl
   try simp only [Act.put,pq]
   refine tkE (i:=6) (d:=21) (v:=?_) rfl (Or.inl ⟨by rfl,?_⟩) hS0 ?_
   rotate_left
   ·intro w hSw;(try dsimp only at hSw);have c1:=fun j=>cell_of_row _ _ j _ _ _ hSw.1;have c2:=hSw.2;go_simp;try with_reducible rfl
   try simp only [Act.put,pq]
   refine tkE (i:=7) (d:=22) (v:=?_) rfl (Or.inl ⟨by rfl,?_⟩) hS0 ?_
   rotate_left
   ·intro w hSw;(try dsimp only at hSw);have c1:=fun j=>cell_of_row _ _ j _ _ _ hSw.1;have c2:=hSw.2;go_simp;try with_reducible rfl
   try simp only [Act.put,pq]
   refine tkE (i:=8) (d:=23) (v:=?_) rfl (Or.inl ⟨by rfl,?_⟩) hS0 ?_
   rotate_left
   ·intro w hSw;(try dsimp only at hSw);have c1:=fun j=>cell_of_row _ _ j _ _ _ hSw.1;have c2:=hSw.2;go_simp;try with_reducible rfl
   try simp only [Act.put,pq]
   refine tkE (i:=9) (d:=24) (v:=?_) rfl (Or.inl ⟨by rfl,?_⟩) hS0 ?_
   rotate_left
   ·intro w hSw;(try dsimp only at hSw);have c1:=fun j=>cell_of_row _ _ j _ _ _ hSw.1;have c2:=hSw.2;go_simp;try with_reducible rfl
   try simp only [Act.put,pq]
   refine tkE (i:=10) (d:=25) (v:=?_) rfl (Or.inl ⟨by rfl,?_⟩) hS0 ?_
   rotate_left
   ·intro w hSw;(try dsimp only at hSw);have c1:=fun j=>cell_of_row _ _ j _ _ _ hSw.1;have c2:=hSw.2;go_simp;try with_reducible rfl
   try simp only [Act.put,pq]
   refine tkE (i:=11) (d:=26) (v:=?_) rfl (Or.inl ⟨by rfl,?_⟩) hS0 ?_
   rotate_left
   ·intro w hSw;(try dsimp only at hSw);have c1:=fun j=>cell_of_row _ _ j _ _ _ hSw.1;have c2:=hSw.2;go_simp;try with_reducible rfl
   try simp only [Act.put,pq]
   refine wpAnyE_ready (rs:=[12]) (by kernel_rfl) (by simp) ?_
   refine AllReadyE.cons rfl (fun K hK=>?_) AllReadyE.nil
   (try rw [if_pos (show Region.wanted _ _=true from rfl)])
   go_simp
   refine(HCE.out _ HN0.out).mono ?_
   rintro e V5 ⟨rfl,hN5⟩
   have hS5:V5.heap[X]?=some (.cells #[.slice fo fl fc,.bool false] 240 (0,0))/\V5.cell? ⟨g,off+k*2+1,none⟩=some (.slice qo tl qc):=⟨hN5.keep hS0.1,hN5.cell_some hS0.2 id⟩
   have hN5W:=HN0.out.trans hN5
   clear hN5
   refine hK.out _ _ hS5 (fun _=>?_)
   clear hK K
   try simp only [Act.put,pq]
   refine tkE (i:=13) (d:=28) (v:=?_) rfl (Or.inl ⟨by rfl,?_⟩) hS5 ?_
   rotate_left
   ·intro w hSw;(try dsimp only at hSw);have c1:=fun j=>cell_of_row _ _ j _ _ _ hSw.1;have c2:=hSw.2;go_simp;try with_reducible rfl
   try simp only [Act.put,pq]
   refine wpAnyE_ready (rs:=[14]) (by kernel_rfl) (by simp) ?_
   refine AllReadyE.cons rfl (fun K hK=>?_) AllReadyE.nil
   (try rw [if_pos (show Region.wanted _ _=true from rfl)])
   go_simp
   obtain⟨V7,hV⟩:∃ D,V5.alloc (.cells #[.bool r] 4)=D:=⟨_,rfl⟩
   have hN7:Ext W V7:=by rw [<-hV];exact hN5W.trans ((Turn.refl _ V5).alloc _)
   have hb7:V7.heap[V5.heap.size]?=some (.cells #[.bool r] 4 (0,0)):=by rw [<-hV];exact new_at rfl
   have hS7:V7.heap[X]?=some (.cells #[.slice fo fl fc,.bool false] 240 (0,0))/\V7.cell? ⟨g,off+k*2+1,none⟩=some (.slice qo tl qc):=by rw [<-hV];exact⟨new_keep hS5.1,((Turn.refl (fun _=>False) V5).alloc _).cell_some hS5.2 id⟩
   rw [hV]
   obtain⟨Y,hY⟩:∃ y,V5.heap.size=y:=⟨_,rfl⟩
   rw [hY] at hb7 ⊢
   clear hV hY
   refine hK.out _ _ hS7 (fun _=>?_)
   clear hK K
   try simp only [Act.put,pq]
   refine wpAnyE_ready (rs:=[15]) (by kernel_rfl) (by simp) ?_
   refine AllReadyE.cons rfl (fun K hK=>?_) AllReadyE.nil
   (try rw [if_pos (show Region.wanted _ _=true from rfl)])
   refine append_oper (.tmp 15) (.tmp 29) 158 rfl w.heap.size 4 _ 1 1 Tryz.underlying158 @infoB1 rfl (by decide) _ _ _ rfl (own_ext HO.out hN7) ⟨Y,0,none⟩ 1 1 [.bool r] rfl rfl (blk_cells (vs:=[.bool r]) hb7) (by intro x hx;simp at hx;subst hx;rfl) (by unfold maxLen;omega) (by omega) (Nat.le_trans HE.out.size hN7.size) ?_
   intro ao' c3 V8 hO8 hT8 hB8
   have hlt:=fun g hg=>HO.out.lt g hg
   have hS8:V8.heap[X]?=some (.cells #[.slice fo fl fc,.bool false] 240 (0,0))/\V8.cell? ⟨g,off+k*2+1,none⟩=some (.slice qo tl qc):=⟨hT8.heap hS7.1 (fun e=>by have:=hlt _ e;have:=HX0.out;omega),hT8.cell_some hS7.2 (fun(e:Value.ownBlock _=some g)=>by have:=(hlt g e).1;have:=HG.out;omega)⟩
   have hE8:Ext w V8:=Turn.after (HE.out.trans hN7) hT8 (fun b hb e=>by have:=(hlt _ e).1;omega)
   have HO8:=Lib.hid hO8;have HE8:=Lib.hid hE8
   clear hO8 hE8 hT8 hB8 hlt
   refine hK.out _ _ hS8 (fun _=>?_)
   clear hK K
   try simp only [Act.put,pq]
   refine tkE (i:=16) (d:=5) (v:=?_) rfl (Or.inl ⟨by rfl,?_⟩) hS8 ?_
   rotate_left
   ·intro w hSw;(try dsimp only at hSw);have c1:=fun j=>cell_of_row _ _ j _ _ _ hSw.1;have c2:=hSw.2;go_simp;try with_reducible rfl
   try simp only [Act.put]
   refine wpAnyE_done (by kernel_rfl) ?_ _
   go_wp2
   exact⟨⟨k+1,ao',c3,by omega,by first | rfl | trivial,⟨rfl,rfl,rfl,rfl,rfl,rfl⟩,by rw [HX.out];exact(by have:=HO8.out;rw [<-HR.out] at this;exact this),HE8.out⟩,by first | (simp [intOf];done) | (simp [intOf];omega)⟩
 ·obtain rfl:k=n:=by omega
  have h1:¬ (k:Int)<(k:Int):=by omega
  go_wp2
  go_ret
  exact⟨ao,c,rfl,HO.out,HE.out⟩
end Go.Proofs.YtfdlhlghcbeblaaGreatDoor
set_option maxRecDepth 100000
set_option maxHeartbeats 16000000
namespace Go.Proofs.YtfdlhlghcbeblaaGreatDoor
open Go.RowKit Go.Ab
attribute [local go_sem] Oper.semAt_some wide_fn wide_depth
def runO(LD:List LawD)(ol:List Nat)(s:Option Wd):Option Wd:=ol.foldl (fun s x=>match LD[x]? with | some l=>stepO l s | none=>s) s
def fitL(LD:List LawD)(ol:List Nat)(qs:PairsL):List Bool:=qs.map fun q=>xB (runO LD ol (some q.1.1)) q.1.2
def NowAt(W:World)(v:Value)(m:Nat)(T:List (Option Wd)):Prop:=∃ os,StatesAt W v os/\os.length=m/\os.map (·.1)=T
theorem NowAt.ext{A B:World}{v:Value}{m:Nat}{T:List (Option Wd)} (h:NowAt A v m T) (ht:Ext A B):NowAt B v m T:=by
 obtain⟨os,h1,h2,h3⟩:=h
 exact⟨os,states_ext h1 ht,h2,h3⟩
theorem runO_succ{LD:List LawD}{ol:List Nat}{k:Nat}(hk:k<ol.length){l:LawD}(hl:LD[ol[k]]?=some l)(s:Option Wd):runO LD (ol.take (k+1)) s=stepO l (runO LD (ol.take k) s):=by
 unfold runO
 rw [List.take_succ_eq_append_getElem hk,List.foldl_append]
 simp only [List.foldl_cons,List.foldl_nil,hl]
theorem expl_fit{LD:List LawD}{ol:List Nat}{qs:PairsL}{os:List (Option Wd × List Value)} {m:Nat} (hm:qs.length=m) (h:os.map (·.1)=qs.map (fun q=>runO LD ol (some q.1.1))):explC os qs m=(fitL LD ol qs).map .bool:=by
 unfold explC fitL
 apply List.ext_getElem
 ·simp [hm]
 ·intro i h1 h2
  have hi:i<qs.length:=by simp at h1;omega
  have hos:os.length=qs.length:=by have:=congrArg List.length h;simpa using this
  have he:(os.getD i (none,[])).1=runO LD ol (some qs[i].1.1):=by
   have:=congrArg (fun l=>l[i]?) h
   simp only [List.getElem?_map,List.getElem?_eq_getElem hi,List.getElem?_eq_getElem (show i<os.length by omega),Option.map_some,Option.some.injEq] at this
   rw [List.getD_eq_getElem?_getD,List.getElem?_eq_getElem (show i<os.length by omega)]
   exact this
  have hq:qs.getD i (([],[]),[])=qs[i]:=by rw [List.getD_eq_getElem?_getD,List.getElem?_eq_getElem hi];rfl
  rw [List.getElem_map,List.getElem_range,List.getElem_map,List.getElem_map,he,hq]
theorem by_any{w:World}{ps:LawsL}{qs:PairsL}{ol:List Nat}{lo:Option Addr}{n lc:Nat}{oo:Option Addr}{on oc:Nat}{po:Option Addr}{m pc:Nat}(hl:LawsAt w (.slice lo n lc) ps) (hn:ps.length=n) (ho:Rd w (.slice oo on oc) on 1 (natV ol)) (hon:ol.length=on) (hlt:∀ x∈ol,x<n) (hp:PairsAt w (.slice po m pc) qs) (hm:qs.length=m) (hb:m<=1000) (hT:Tab w) :
  Calls Tryz.prog 86 #[.slice lo n lc,.slice oo on oc,.slice po m pc] w fun e w'=>∃ ao c,e=.returned (.slice ao m c)/\(∃ b,w.heap.size<=b/\w'.ownsRow b 4 1 (.slice ao m c) m ((fitL (ps.map (·.1)) ol qs).map .bool))/\Ext w w':=by
 have hstart:=fun(V:World) (hE:Ext w V)=>start_any (pairs_ext hp hE) hm hb
 have hbegin:=fun(V A:World) (hE:Ext w A) (v:Value) (b:Nat) (h:A.ownsRow b 240 2 v m (startC qs))=>(show NowAt A v m (qs.map fun q=>some q.1.1) from⟨startS qs,start_states hm h (fun q hq=>((pairs_ext hp hE).2 q hq).2),by unfold startS;rw [List.length_map,hm],by unfold startS;rw [List.map_map];rfl⟩)
 have hexp:=fun(V:World) (hE:Ext w V) (so:Option Addr) (sc:Nat) (os:List (Option Wd × List Value)) (h1:StatesAt V (.slice so m sc) os) (h2:os.length=m)=>explained_any h1 h2 (pairs_ext hp hE) hm hb
 have happ:=fun(V:World) (hE:Ext w V) (k:Nat) (hk:k<ps.length) (so:Option Addr) (sc:Nat) (os:List (Option Wd × List Value)) (h1:StatesAt V (.slice so m sc) os) (h2:os.length=m)=>apply_any ((hl.ext hE).2 ps[k] (List.getElem_mem hk)) h1 h2 hb (hT.keep hE id) (fun _=>True) (fun _ _ _ _ _ _ _ _ _ _ _ _ _=>trivial)
 have HST:=Lib.hid hstart;have HBG:=Lib.hid hbegin;have HEX:=Lib.hid hexp;have HAP:=Lib.hid happ;have HL:=Lib.hid hl;have HN:=Lib.hid hn;have HO:=Lib.hid ho;have HON:=Lib.hid hon;have HLT:=Lib.hid hlt;have HM:=Lib.hid hm
 have hom:on<=maxLen:=ho.2.1
 have hnm:n<=maxLen:=by rw [<-hn];exact hl.1.2.1
 unfold maxLen at hom hnm
 clear hstart hbegin hexp happ hl hn ho hon hlt hp hm hT
 go_enter Tryz.func86,Tryz.ntmps86
 go_wp2_with fail
 refine(HST.out _ (Turn.refl _ _)).mono ?_
 rintro e w1 ⟨so,sc,rfl,hO1,hE1⟩
 have hnow:=HBG.out w w1 hE1 _ _ hO1
 have HNOW:=Lib.hid hnow;have HE1:=Lib.hid hE1
 clear hnow hE1 hO1 HST HBG
 go_wp2
 refine wp_loop (fun a W=>∃(k:Nat) (ao:Option Addr) (c:Nat),k<=on/\a.defers=[]/\(a.tmps.size=28/\a.tmps.getD 0 undef=.slice lo n lc/\a.tmps.getD 2 undef=.slice po m pc/\a.tmps.getD 7 undef=.slice ao m c/\a.tmps.getD 12 undef=.slice oo on oc/\a.tmps.getD 13 undef=.int .i64 on/\a.tmps.getD 14 undef=.int .i64 k)/\NowAt W (.slice ao m c) m (qs.map fun q=>runO (ps.map (·.1)) (ol.take k) (some q.1.1))/\Ext w W)
  (fun a _=>((on:Int) - intOf (a.tmps.getD 14 undef)).toNat) ?_ ?_
 ·exact⟨0,so,sc,by omega,rfl,⟨rfl,rfl,rfl,rfl,rfl,rfl,rfl⟩,HNOW.out,HE1.out⟩
 clear HNOW HE1
 rintro⟨t,_⟩ W ⟨k,ao,c,hk,hds,⟨hsz,f0,f2,f7,f12,f13,f14⟩,hnow,hE⟩
 subst hds
 obtain⟨u',hu⟩:=frame_fun hsz
 obtain⟨u,rfl⟩:∃ x,x=u':=⟨_,rfl⟩
 have hu':t=#[u 0,u 1,u 2,u 3,u 4,u 5,u 6,u 7,u 8,u 9,u 10,u 11,u 12,u 13,u 14,u 15,u 16,u 17,u 18,u 19,u 20,u 21,u 22,u 23,u 24,u 25,u 26,u 27]:=hu
 clear hu
 subst hu'
 change u 0=_ at f0
 change u 2=_ at f2
 change u 7=_ at f7
 change u 12=_ at f12
 change u 13=_ at f13
 change u 14=_ at f14
 rw [f0,f2,f7,f12,f13,f14]
 clear f0 f2 f7 f12 f13 f14 hsz
 have HNOW:=Lib.hid hnow;have HE:=Lib.hid hE
 clear hnow hE
 by_cases hkN:k<on
 case neg=>
  obtain rfl:k=on:=by omega
  have h1:¬ (k:Int)<(k:Int):=by omega
  obtain⟨os,q1,q2,q3⟩:=HNOW.out
  rw [List.take_of_length_le (by rw [HON.out];exact Nat.le_refl _)] at q3
  have hx:=HEX.out W HE.out ao c os q1 q2
  rw [expl_fit HM.out q3] at hx
  have HX:=Lib.hid hx
  clear hx q1 q2 q3
  go_wp2_with fail
  refine HX.out.mono ?_
  rintro e w3 ⟨bo,bc,rfl,hB3,hN3⟩
  have HB3:=Lib.hid hB3;have HE3:=Lib.hid (HE.out.trans hN3)
  clear hB3 hN3 HX
  go_wp2
  go_ret
  exact⟨bo,bc,rfl,⟨_,HE.out.size,HB3.out⟩,HE3.out⟩
 have h1:(k:Int)<(on:Int):=by omega
 have h0:(0:Int)<=(k:Int):=by omega
 have hkl:k<ol.length:=by rw [HON.out];exact hkN
 obtain⟨x,hx⟩:∃ x,ol[k]=x:=⟨_,rfl⟩
 have hxn:x<n:=by rw [<-hx];exact HLT.out _ (List.getElem_mem hkl)
 have hxp:x<ps.length:=by rw [HN.out];exact hxn
 obtain⟨r1,r2,ao',cap',hq,r3⟩:=HO.out.ext HE.out
 simp only [Value.slice.injEq,true_and] at hq
 obtain⟨rfl,rfl⟩:=hq
 obtain⟨go,offo,rfl,_,r4⟩:=r3 (by omega)
 have d0:=r4 k (by omega)
 have hnv:(natV ol).getD k undef=.int .i64 (x:Int):=by rw [<-hx];unfold natV;rw [List.getD_eq_getElem?_getD,List.getElem?_map,List.getElem?_eq_getElem hkl];rfl
 rw [hnv] at d0
 obtain⟨g,off,c9,hq,hg,hrg,hla,h18⟩:=(HL.out.ext HE.out).at hxp
 simp only [Value.slice.injEq] at hq
 obtain⟨rfl,hz,rfl⟩:=hq
 obtain⟨os,q1,q2,q3⟩:=HNOW.out
 have hc:=HAP.out W HE.out x hxp ao c os q1 q2
 have hnx:(fun q:(Wd × Wd) × List Value=>runO (ps.map (·.1)) (ol.take (k+1)) (some q.1.1))=fun q=>stepO ps[x].1 (runO (ps.map (·.1)) (ol.take k) (some q.1.1)):=by
  funext q
  exact runO_succ hkl (by rw [hx,List.getElem?_map,List.getElem?_eq_getElem hxp];rfl) _
 have hos:os.map (fun p=>stepO ps[x].1 p.1)=qs.map fun q=>runO (ps.map (·.1)) (ol.take (k+1)) (some q.1.1):=by
  rw [hnx,show (fun p:Option Wd × List Value=>stepO ps[x].1 p.1)=(fun s=>stepO ps[x].1 s) ∘ (fun p=>p.1) from rfl,<-List.map_map,q3,List.map_map];rfl
 obtain⟨cs,hcs⟩:∃ z,ps[x].2=z:=⟨_,rfl⟩
 rw [hcs] at hrg h18 hc
 have h0x:(0:Int)<=(x:Int):=by omega
 have h1x:(x:Int)<(n:Int):=by omega
 have hwk:IntKind.i64.wrap ((k:Int)+1)=(k:Int)+1:=IntWalk.i64_in _ (by omega)
 have HRG:=Lib.hid hrg;have H18:=Lib.hid h18;have HC:=Lib.hid hc;have HOS:=Lib.hid hos
 clear hz hnv r1 r2 r3 r4 hrg h18 hla hc hos hnx hcs q1 q2 q3 hx hg
 go_wp2_with (refine wpList_load_at (by rfl) 102 (.tmp 20) rfl g (off+x*18) (by first | rfl | simp) cs _ HRG.out Tryz.underlying102 rfl (by rw [H18.out];kernel_rfl) ?_)
 refine HC.out.mono ?_
 rintro e W2 ⟨bo,bc,os2,rfl,hst2,hmap2,hN2⟩
 have hnow2:NowAt W2 (.slice bo m bc) m (qs.map fun q=>runO (ps.map (·.1)) (ol.take (k+1)) (some q.1.1)):=⟨os2,hst2.at,hst2.len,by rw [hmap2];exact HOS.out⟩
 have HNOW2:=Lib.hid hnow2;have HE2:=Lib.hid (HE.out.trans hN2)
 clear hnow2 hst2 hmap2 hN2 HC HRG H18 HOS d0
 go_wp2
 exact⟨⟨k+1,bo,bc,by omega,by first | rfl | trivial,⟨rfl,rfl,rfl,rfl,rfl,rfl,rfl⟩,HNOW2.out,HE2.out⟩,by first | (simp [intOf];done) | (simp [intOf];omega)⟩
end Go.Proofs.YtfdlhlghcbeblaaGreatDoor
set_option maxRecDepth 100000
set_option maxHeartbeats 4000000
namespace Go.Proofs.YtfdlhlghcbeblaaGreatDoor
open Go.RowKit Go.Ab
attribute [local go_sem] Oper.semAt_some wide_fn wide_depth
def idxB(l:List Bool)(b:Bool):Int:=match l.findIdx? (· == b) with | some i=>(i:Int) | none=>-1
def noTo(l:List Bool)(b:Bool)(k:Nat):Prop:=∀ x∈l.take k,(x == b)=false
theorem idx_hit{l:List Bool}{b:Bool}{k:Nat}(hk:k<l.length)(h:noTo l b k)(h1:l[k]=b):idxB l b=(k:Int):=by
 unfold idxB
 have:l.findIdx? (· == b)=some k:=by
  rw [List.findIdx?_eq_some_iff_getElem]
  refine⟨hk,by simp [h1],fun j hj=>?_⟩
  have:=h l[j] (List.mem_take_iff_getElem.2 ⟨j,by omega,rfl⟩)
  simp [this]
 rw [this]
theorem idx_none{l:List Bool}{b:Bool}{k:Nat}(hk:l.length<=k)(h:noTo l b k):idxB l b=-1:=by
 unfold idxB
 have:l.findIdx? (· == b)=none:=by
  rw [List.findIdx?_eq_none_iff]
  intro x hx
  exact h x (by rw [List.take_of_length_le hk];exact hx)
 rw [this]
theorem index_bool{w:World}{l:List Bool}{ao:Option Addr}{n c:Nat}(b:Bool)(h:Rd w (.slice ao n c) n 1 (l.map .bool)) (hl:l.length=n) :
  Calls Tryz.prog 85 #[.slice ao n c,.bool b] w fun e w'=>e=.returned (.int .i64 (idxB l b))/\w'=w:=by
 have hm:=h.2.1
 unfold maxLen at hm
 have HH:=Lib.hid h;have HL:=Lib.hid hl
 obtain⟨Z,hZ⟩:∃ z,idxB l b=z:=⟨_,rfl⟩
 rw [hZ]
 have HZ:=Lib.hid hZ
 clear h hl hZ
 go_enter Tryz.func85,Tryz.ntmps85
 go_wp2
 refine wp_loop (fun a W=>∃(k:Nat),k<=n/\a.defers=[]/\(a.tmps.size=19/\a.tmps.getD 0 undef=.slice ao n c/\a.tmps.getD 1 undef=.bool b/\a.tmps.getD 7 undef=.int .i64 n/\a.tmps.getD 8 undef=.int .i64 k)/\noTo l b k/\W=w)
  (fun a _=>((n:Int) - intOf (a.tmps.getD 8 undef)).toNat) ?_ ?_
 ·exact⟨0,by omega,rfl,⟨rfl,rfl,rfl,rfl,rfl⟩,fun x hx=>(by simp at hx),rfl⟩
 rintro⟨t,_⟩ W ⟨k,hk,hds,⟨hsz,f0,f1,f7,f8⟩,hno,rfl⟩
 subst hds
 obtain⟨u',hu⟩:=frame_fun hsz
 obtain⟨u,rfl⟩:∃ x,x=u':=⟨_,rfl⟩
 have hu':t=#[u 0,u 1,u 2,u 3,u 4,u 5,u 6,u 7,u 8,u 9,u 10,u 11,u 12,u 13,u 14,u 15,u 16,u 17,u 18]:=hu
 clear hu
 subst hu'
 change u 0=_ at f0
 change u 1=_ at f1
 change u 7=_ at f7
 change u 8=_ at f8
 rw [f0,f1,f7,f8]
 clear f0 f1 f7 f8 hsz
 have HNO:=Lib.hid hno
 clear hno
 by_cases hkN:k<n
 ·have h1:(k:Int)<(n:Int):=by omega
  have h0:(0:Int)<=(k:Int):=by omega
  have hkl:k<l.length:=by rw [HL.out];exact hkN
  obtain⟨r1,r2,ao',cap',hq,r3⟩:=HH.out
  simp only [Value.slice.injEq,true_and] at hq
  obtain⟨rfl,rfl⟩:=hq
  obtain⟨g,off,rfl,_,r4⟩:=r3 (by omega)
  have d0:=r4 k (by omega)
  obtain⟨x,hx⟩:∃ x,l[k]=x:=⟨_,rfl⟩
  have hxv:(l.map Value.bool).getD k undef=.bool x:=by rw [List.getD_eq_getElem?_getD,List.getElem?_map,List.getElem?_eq_getElem hkl,hx];rfl
  rw [hxv] at d0
  have hwk:IntKind.i64.wrap ((k:Int)+1)=(k:Int)+1:=IntWalk.i64_in _ (by omega)
  by_cases hxb:b=x
  ·have hz:Z=(k:Int):=HZ.out.symm.trans (idx_hit hkl HNO.out (hx.trans hxb.symm))
   subst hxb
   subst hz
   clear hxv r1 r2 r3 r4 hx
   cases b
   all_goals
    go_wp2
    go_ret
    exact⟨rfl,rfl⟩
  ·have hn1:noTo l b (k+1):=fun y hy=>by
    rw [List.take_succ_eq_append_getElem hkl] at hy
    rcases List.mem_append.1 hy with hy | hy
    ·exact HNO.out y hy
    ·simp at hy;subst hy;rw [hx,beq_eq_false_iff_ne];exact fun e=>hxb e.symm
   have HN1:=Lib.hid hn1
   have hbx:(b == x)=false:=by rw [beq_eq_false_iff_ne];exact hxb
   clear hxv r1 r2 r3 r4 hx hn1 hkl
   go_wp2
   exact⟨⟨k+1,by omega,by first | rfl | trivial,⟨rfl,rfl,rfl,rfl,rfl⟩,HN1.out,by first | trivial | rfl⟩,by first | (simp [intOf];done) | (simp [intOf];omega)⟩
 ·obtain rfl:k=n:=by omega
  have h1:¬ (k:Int)<(k:Int):=by omega
  have hz:Z=-1:=HZ.out.symm.trans (idx_none (by rw [HL.out];exact Nat.le_refl _) HNO.out)
  subst hz
  go_wp2
  go_ret
  exact⟨rfl,rfl⟩
end Go.Proofs.YtfdlhlghcbeblaaGreatDoor
set_option maxRecDepth 100000
set_option maxHeartbeats 8000000
namespace Go.Proofs.YtfdlhlghcbeblaaGreatDoor
open Go.RowKit Go.Ab
attribute [local go_sem] Oper.semAt_some wide_fn wide_depth
theorem res_t3{fn:Func}{t u v:Tmp}(h:fn.results=#[.tmp t,.tmp u,.tmp v])(tmps:Array Value)(P:Program)(w:World) :
  (results fn tmps).run P w=.ok (.tuple #[tmps.getD t undef,tmps.getD u undef,tmps.getD v undef]) w:=by
 simp [results,h,go_sem]
def natsI(xs:List Int):List Nat:=xs.map Int.toNat
theorem perm_nats{xs:List Int}{n:Nat}(h:permB xs n=true):natV (natsI xs)=intV xs/\(∀ x∈natsI xs,x<n)/\(natsI xs).Perm (List.range n)/\xs=(natsI xs).map fun(i:Nat)=>(i:Int):=by
 unfold permB at h
 rw [decide_eq_true_eq] at h
 have hr:∀ x∈xs,∃ i:Nat,i<n/\(i:Int)=x:=fun x hx=>by
  obtain⟨i,hi,e⟩:=List.mem_map.1 (h.mem_iff.1 hx)
  exact⟨i,List.mem_range.1 hi,e⟩
 have hc:∀ x∈xs,((x.toNat:Nat):Int)=x:=fun x hx=>by obtain⟨i,_,rfl⟩:=hr x hx;simp
 refine⟨?_,fun x hx=>?_,?_,?_⟩
 ·unfold natV natsI intV
  rw [List.map_map]
  apply List.map_congr_left
  intro x hx
  show Value.int .i64 ((x.toNat:Nat):Int)=_
  rw [hc x hx]
 ·obtain⟨y,hy,rfl⟩:=List.mem_map.1 hx
  obtain⟨i,hi,rfl⟩:=hr y hy
  simpa using hi
 ·have:=h.map Int.toNat
  rw [List.map_map] at this
  have e:(List.range n).map (Int.toNat ∘ fun(i:Nat)=>(i:Int))=List.range n:=by
   conv=>rhs;rw [<-List.map_id (List.range n)]
   apply List.map_congr_left
   intro i _
   simp
  rw [e] at this
  exact this
 ·unfold natsI
  rw [List.map_map]
  conv=>lhs;rw [<-List.map_id xs]
  apply List.map_congr_left
  intro x hx
  exact(hc x hx).symm
def fitsIdx(LD:List LawD)(xs:List Int)(qs:PairsL):Int:=idxB (fitL LD (natsI xs) qs) false
def fitsI(LD:List LawD)(xs:List Int)(qs:PairsL):Int:=if withE LD xs (qs.map (·.1))=0 then max (fitsIdx LD xs qs) 0 else 0
def fitsN(LD:List LawD)(xs:List Int)(qs:PairsL):Bool:=if withE LD xs (qs.map (·.1))=0 then decide (0<=fitsIdx LD xs qs) else false
theorem withE_ok{LD:List LawD}{xs:List Int}{QS:List (Wd × Wd)} (h:withE LD xs QS=0):ordE LD QS=0/\permB xs LD.length=true:=by
 unfold withE at h
 split at h
 ·split at h
  ·exact⟨by assumption,by assumption⟩
  ·cases h
 ·rename_i h1;exact absurd h h1
theorem idxB_le(l:List Bool)(b:Bool):-1<=idxB l b/\idxB l b<9223372036854775807\/9223372036854775807<=l.length:=by
 by_cases hl:9223372036854775807<=l.length
 ·exact .inr hl
 ·refine .inl ?_
  unfold idxB
  split
  ·rename_i i h
   have:=(List.findIdx?_eq_some_iff_getElem.1 h).1
   omega
  ·omega
theorem fits_law{w:World}{ps:LawsL}{qs:PairsL}{lo:Option Addr}{n lc:Nat}{oo:Option Addr}{on oc:Nat}{xs:List Int}{po:Option Addr}{m pc:Nat}(hl:LawsAt w (.slice lo n lc) ps) (hn:ps.length=n) (ho:Rd w (.slice oo on oc) on 1 (intV xs)) (hon:xs.length=on) (hp:PairsAt w (.slice po m pc) qs) (hm:qs.length=m) (hT:Tab w) :
  Calls Tryz.prog 27 #[.slice lo n lc,.slice oo on oc,.slice po m pc] w fun e w'=>e=.returned (.tuple #[.int .i64 (fitsI (ps.map (·.1)) xs qs),.bool (fitsN (ps.map (·.1)) xs qs),.int .i64 (withE (ps.map (·.1)) xs (qs.map (·.1)))])/\Ext w w':=by
 have hwith:=fun(V:World) (hE:Ext w V)=>with_any (hl.ext hE) hn (ho.ext hE) hon (pairs_ext hp hE) hm (hT.keep hE id)
 have hby:=fun(h:withE (ps.map (·.1)) xs (qs.map (·.1))=0) (V:World) (hE:Ext w V)=>by_any (ol:=natsI xs) (hl.ext hE) hn (by
  have hw:=withE_ok h
  rw [(perm_nats hw.2).1];exact ho.ext hE) (by unfold natsI;rw [List.length_map,hon]) (by
  have hw:=withE_ok h
  rw [List.length_map,hn] at hw
  exact(perm_nats hw.2).2.1) (pairs_ext hp hE) hm (by have:=(ordE_six (withE_ok h).1).2.2.1;rw [List.length_map,hm] at this;omega) (hT.keep hE id)
 have hm2:withE (ps.map (·.1)) xs (qs.map (·.1))=0->m<=32:=fun h=>by have:=(ordE_six (withE_ok h).1).2.2.1;rw [List.length_map,hm] at this;omega
 obtain⟨RI,hRI⟩:∃ x,fitsI (ps.map (·.1)) xs qs=x:=⟨_,rfl⟩
 obtain⟨RN,hRN⟩:∃ x,fitsN (ps.map (·.1)) xs qs=x:=⟨_,rfl⟩
 rw [hRI,hRN]
 unfold fitsI fitsIdx at hRI
 unfold fitsN fitsIdx at hRN
 obtain⟨E,hE0⟩:∃ x,withE (ps.map (·.1)) xs (qs.map (·.1))=x:=⟨_,rfl⟩
 obtain⟨F,hF⟩:∃ x,fitL (ps.map (·.1)) (natsI xs) qs=x:=⟨_,rfl⟩
 have hFl:F.length=m:=by rw [<-hF];unfold fitL;rw [List.length_map,hm]
 rw [hE0,hF] at hRI hRN
 rw [hE0]
 rw [hE0] at hby hm2
 simp only [hE0] at hwith
 simp only [hF] at hby
 have HW:=Lib.hid hwith;have HBY:=Lib.hid hby;have HM2:=Lib.hid hm2;have HFL:=Lib.hid hFl;have HRI:=Lib.hid hRI;have HRN:=Lib.hid hRN
 clear hRI hRN hwith hby hE0 hF hFl hm2 hl hn ho hon hp hm hT
 go_enter Tryz.func27,Tryz.ntmps27
 go_wp2_with fail
 refine(HW.out _ (Turn.refl _ _)).mono ?_
 rintro e w1 ⟨rfl,hE1⟩
 have HE1:=Lib.hid hE1
 clear hE1 HW
 by_cases hE0:E=0
 case neg=>
  have hne:(E != 0)=true:=by simpa using hE0
  have h1:=HRI.out
  have h2:=HRN.out
  rw [if_neg hE0] at h1 h2
  subst h1 h2
  go_wp2
  exact bodyPost_ret (res_t3 rfl _ _ _) rfl ⟨rfl,HE1.out⟩
 subst hE0
 have hm32:=HM2.out (by first | trivial | rfl)
 have hby:=HBY.out (by first | trivial | rfl) w1 HE1.out
 have HB2:=Lib.hid hby
 clear hby HBY HM2
 go_wp2_with fail
 refine HB2.out.mono ?_
 rintro e w2 ⟨bo,bc,rfl,⟨b0,_,hO2⟩,hN2⟩
 have hix:=index_bool false (Rd.of_own hO2) HFL.out
 have HIX:=Lib.hid hix;have HE2:=Lib.hid (HE1.out.trans hN2)
 clear hix hO2 hN2 HB2 HE1
 go_wp2_with fail
 refine HIX.out.mono ?_
 rintro e w3 ⟨rfl,rfl⟩
 obtain⟨z,hz⟩:∃ z,idxB F false=z:=⟨_,rfl⟩
 have hzb:-1<=z/\z<9223372036854775807:=by
  rcases idxB_le F false with h | h
  ·rw [hz] at h;exact h
  ·rw [HFL.out] at h;omega
 have h1:=HRI.out
 have h2:=HRN.out
 rw [if_pos (by first | trivial | rfl),hz] at h1 h2
 subst h1 h2
 rw [hz]
 clear hz HIX HRI HRN
 go_wp2
 exact bodyPost_ret (res_t3 rfl _ _ _) rfl ⟨rfl,HE2.out⟩
end Go.Proofs.YtfdlhlghcbeblaaGreatDoor
set_option maxRecDepth 100000
set_option maxHeartbeats 8000000
namespace Go.Proofs.YtfdlhlghcbeblaaGreatDoor
open Go.RowKit Go.Ab
attribute [local go_sem] Oper.semAt_some wide_fn wide_depth
def rfitI(ps:LawsL)(xs:List Int)(qs:PairsL):Int:=if withE (ps.map (·.1)) xs (qs.map (·.1))=0 then(if firstR ps (natsI xs) qs=qs.length then 0 else(firstR ps (natsI xs) qs:Nat)) else 0
def rfitN(ps:LawsL)(xs:List Int)(qs:PairsL):Bool:=if withE (ps.map (·.1)) xs (qs.map (·.1))=0 then decide (firstR ps (natsI xs) qs≠qs.length) else false
end Go.Proofs.YtfdlhlghcbeblaaGreatDoor
namespace Go.Proofs.YtfdlhlghcbeblaaGreatDoor
open Go.RowKit Go.Ab
def permsF:Nat->List Nat->List (List Nat)
 | 0,_=>[[]]
 | n+1,av=>av.flatMap fun i=>(permsF n (av.filter (· != i))).map (i::·)
def ordersR:Nat->List (List Nat)
 | 0=>[[]]
 | n+1=>(List.range (n+1)).flatMap fun f=>(ordersR n).map fun r=>f::r.map fun x=>if f<=x then x+1 else x
theorem flatMap_cong{α β:Type}{l:List α}{f g:α->List β}(h:∀ x∈l,f x=g x):l.flatMap f=l.flatMap g:=by
 rw [List.flatMap_def,List.flatMap_def,List.map_congr_left h]
theorem filter_erase{av:List Nat}(h:av.Nodup){f:Nat}(hf:f<av.length):av.filter (· != av[f])=av.eraseIdx f:=by
 induction av generalizing f with
 | nil=>cases hf
 | cons a av ih=>
  rw [List.nodup_cons] at h
  cases f with
  | zero=>
   simp only [List.getElem_cons_zero,List.eraseIdx_cons_zero]
   rw [List.filter_cons_of_neg (by simp),List.filter_eq_self.2]
   intro x hx
   simp only [bne_iff_ne,ne_eq]
   rintro rfl;exact h.1 hx
  | succ f=>
   have hf':f<av.length:=by simpa using hf
   simp only [List.getElem_cons_succ,List.eraseIdx_cons_succ]
   rw [List.filter_cons_of_pos (by simp only [bne_iff_ne,ne_eq];intro e;exact h.1 (e ▸ List.getElem_mem hf')),ih h.2 hf']
theorem getD_erase(av:List Nat)(f x:Nat):(av.eraseIdx f).getD x 0=av.getD (if f<=x then x+1 else x) 0:=by
 rw [List.getD_eq_getElem?_getD,List.getD_eq_getElem?_getD,List.getElem?_eraseIdx]
 by_cases h:f<=x
 ·rw [if_pos h,if_neg (by omega)]
 ·rw [if_neg h,if_pos (by omega)]
theorem perms_orders:∀(n:Nat) (av:List Nat),av.Nodup->av.length=n->permsF n av=(ordersR n).map fun o=>o.map fun x=>av.getD x 0
 | 0,_,_,_=>rfl
 | n+1,av,hn,hl=>by
  unfold permsF ordersR
  have hav:av=(List.range (n+1)).map fun f=>av.getD f 0:=by
   apply List.ext_getElem
   ·simp [hl]
   ·intro i h1 h2
    simp [List.getD_eq_getElem?_getD,h1]
  conv=>lhs;arg 2;rw [hav]
  rw [List.flatMap_map,List.map_flatMap]
  refine flatMap_cong fun f hf=>?_
  have hf':f<av.length:=by rw [hl];exact List.mem_range.1 hf
  have e:av.getD f 0=av[f]:=by rw [List.getD_eq_getElem?_getD,List.getElem?_eq_getElem hf'];rfl
  rw [e,filter_erase hn hf',perms_orders n (av.eraseIdx f) (hn.sublist (List.eraseIdx_sublist ..)) (by rw [List.length_eraseIdx_of_lt hf',hl];rfl),List.map_map,List.map_map]
  refine List.map_congr_left fun r _=>?_
  simp only [Function.comp,List.map_cons,List.map_map]
  rw [e]
  congr 1
  exact List.map_congr_left fun x _=>getD_erase av f x
theorem orders_lt:∀(n:Nat),∀ o∈ordersR n,o.length=n/\∀ x∈o,x<n
 | 0,o,h=>by
  unfold ordersR at h
  rw [List.mem_singleton] at h
  subst h
  exact⟨rfl,fun x hx=>by cases hx⟩
 | n+1,o,h=>by
  unfold ordersR at h
  obtain⟨f,hf,h⟩:=List.mem_flatMap.1 h
  obtain⟨r,hr,rfl⟩:=List.mem_map.1 h
  obtain⟨h1,h2⟩:=orders_lt n r hr
  refine⟨by simp [h1],fun x hx=>?_⟩
  rcases List.mem_cons.1 hx with rfl | hx
  ·exact List.mem_range.1 hf
  ·obtain⟨y,hy,rfl⟩:=List.mem_map.1 hx
   have:=h2 y hy
   split <;> omega
theorem perms_range(n:Nat):permsF n (List.range n)=ordersR n:=by
 rw [perms_orders n _ List.nodup_range (by simp)]
 conv=>rhs;rw [<-List.map_id (ordersR n)]
 refine List.map_congr_left fun o ho=>?_
 conv=>rhs;rw [id,<-List.map_id o]
 refine List.map_congr_left fun x hx=>?_
 have:=(orders_lt n o ho).2 x hx
 simp [List.getD_eq_getElem?_getD,this]
end Go.Proofs.YtfdlhlghcbeblaaGreatDoor
namespace Go.Proofs.YtfdlhlghcbeblaaGreatDoor
open Go.RowKit Go.Ab
def restN(n:Nat)(p:List Nat):List Nat:=(List.range n).filter fun i=>!p.contains i
def visL(n m:Nat)(p:List Nat):List (List Nat):=(permsF m (restN n p)).map (p++·)
def visTo(n m:Nat)(p:List Nat)(k:Nat):List (List Nat):=(restN k p).flatMap fun i=>visL n m (p++[i])
theorem vis_zero(n:Nat)(p:List Nat):visL n 0 p=[p]:=by
 unfold visL permsF
 simp
theorem rest_snoc(n:Nat)(p:List Nat)(i:Nat):restN n (p++[i])=(restN n p).filter (· != i):=by
 unfold restN
 rw [List.filter_filter]
 apply List.filter_congr
 intro x _
 by_cases h:x=i
 ·subst h;simp
 ·simp [h]
theorem visTo_zero(n m:Nat)(p:List Nat):visTo n m p 0=[]:=rfl
theorem visTo_in{n m k:Nat}{p:List Nat}(h:k∈p):visTo n m p (k+1)=visTo n m p k:=by
 unfold visTo restN
 rw [List.range_succ,List.filter_append]
 simp [h]
theorem visTo_out{n m k:Nat}{p:List Nat}(h:k ∉ p):visTo n m p (k+1)=visTo n m p k++visL n m (p++[k]):=by
 unfold visTo restN
 rw [List.range_succ,List.filter_append]
 simp [h]
theorem visTo_all(n m:Nat)(p:List Nat):visTo n m p n=visL n (m+1) p:=by
 have e:permsF (m+1) (restN n p)=(restN n p).flatMap fun i=>(permsF m ((restN n p).filter (· != i))).map (i::·):=rfl
 unfold visTo visL
 rw [e,List.map_flatMap]
 apply flatMap_cong
 intro i _
 rw [rest_snoc,List.map_map]
 apply List.map_congr_left
 intro x _
 show (p++[i])++x=p++i::x
 simp
theorem visTo_step{n m k:Nat}{p:List Nat}(hk:k<n)(h:k ∉ p):∃ rest,visL n (m+1) p=visTo n m p k++visL n m (p++[k])++rest:=by
 have key:∀ d j,j+d=n->∃ rest,visTo n m p n=visTo n m p j++rest:=by
  intro d
  induction d with
  | zero=>
   intro j hj
   obtain rfl:j=n:=by omega
   exact⟨[],by simp⟩
  | succ d ih=>
   intro j hj
   obtain⟨r,hr⟩:=ih (j+1) (by omega)
   by_cases hp:j∈p
   ·exact⟨r,by rw [hr,visTo_in hp]⟩
   ·exact⟨_,by rw [hr,visTo_out hp,List.append_assoc]⟩
 obtain⟨r,hr⟩:=key (n - (k+1)) (k+1) (by omega)
 exact⟨r,by rw [<-visTo_all,hr,visTo_out h]⟩
theorem runO_snoc{LD:List LawD}{p:List Nat}{i:Nat}{l:LawD}(hl:LD[i]?=some l)(s:Option Wd):runO LD (p++[i]) s=stepO l (runO LD p s):=by
 unfold runO
 rw [List.foldl_append]
 simp only [List.foldl_cons,List.foldl_nil,hl]
def usedM(n:Nat)(p:List Nat):Nat:=mask n fun i=>p.contains i
theorem used_lt(n:Nat)(p:List Nat):usedM n p<2 ^ n:=mask_lt _ _
theorem used_nil(n:Nat):usedM n []=0:=by unfold usedM;rw [show (fun i=>([]:List Nat).contains i)=fun _=>false from rfl,mask_zero]
theorem used_bit{n k:Nat}{p:List Nat}(hk:k<n):(usedM n p).testBit k=decide (k∈p):=by
 unfold usedM;rw [testBit_mask];simp [hk]
theorem used_or{n k:Nat}{p:List Nat}(hk:k<n):usedM n p ||| 2 ^ k=usedM n (p++[k]):=by
 unfold usedM
 rw [two_pow_mask hk,mask_or]
 apply mask_congr
 intro i _
 by_cases h:i=k
 ·subst h;simp
 ·simp [h]
end Go.Proofs.YtfdlhlghcbeblaaGreatDoor
