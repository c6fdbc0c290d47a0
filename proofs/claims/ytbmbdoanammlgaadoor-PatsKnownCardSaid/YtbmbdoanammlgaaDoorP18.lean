/- PLAIN: -/
import Derived.Test.YtbmbdoanammlgaaDoorP15
import Derived.Test.YtbmbdoanammlgaaDoorP14
import Derived.Test.YtbmbdoanammlgaaDoorP12
set_option maxRecDepth 100000
set_option maxHeartbeats 16000000
namespace Go.Proofs.YtbmbdoanammlgaaDoor
open Go.RowKit Go.Ab
mutual
def Nt:Pat->Prop
 | .node k pl mi nt mn mx l=>Y3 (.node k pl mi nt mn mx l)=0/\Ly l
def Ly:List Pat->Prop
 | []=>True
 | p::l=>Nt p/\Ly l
end
mutual
def Zq:Pat->Pat
 | .node k pl mi nt mn mx l=>.node (if k=2 then 6 else if k=6 then 2 else k) pl mi nt mn mx (if k=3 then(Hg l).reverse else Hg l)
def Hg:List Pat->List Pat
 | []=>[]
 | p::l=>Zq p::Hg l
end
theorem Mw(l:List Pat):Hg l=l.map Zq:=by
 induction l with
 | nil=>rfl
 | cons p l ih=>rw [Hg,ih];rfl
theorem M4(k:Int)(pl mi:Nat)(nt:Bool)(mn mx:Int)(l:List Pat) :
  Zq (.node k pl mi nt mn mx l)=.node (if k=2 then 6 else if k=6 then 2 else k) pl mi nt mn mx (if k=3 then(l.map Zq).reverse else l.map Zq):=by rw [Zq,Mw]
def P0(k:Int)(pl mi:Nat)(nt:Bool)(mn mx:Int)(n:Nat):Int:=
 if k<0\/6<k then 2
 else if k≠1/\(pl≠0\/mi≠0\/nt=true) then 2
 else if k≠3/\k≠4/\k≠5/\n≠0 then 2
 else if k≠5/\(mn≠0\/mx≠0) then 2
 else if k=5/\(n≠1\/mn<0\/32<mn\/(mx≠-1/\(mx<mn\/32<mx))) then 2
 else if Z3 pl mi=true then 0 else 14
def P1(n:Nat)(X:Qf):Qf:=fun a b=>decide (a<=n) && decide (b<=n) && X (n - b) (n - a)
def Gw(p:Pat):Prop:=∀(K:Nat→Prop) (w:World) (cs:List Value),Qc K w p cs→Yh p →
 Calls Tryd.prog 21 #[.agg cs.toArray] w fun e w'=>∃ ds,e=.returned (.agg ds.toArray)∧Zn 27 w' (Zq p) ds (fun b=>w.heap.size≤b∧b<w'.heap.size)∧Ext w w'
theorem Gj{T:TypeId}{w:World}{p:Pat}{cs:List Value}{K:Nat→Prop}(h:Zn T w p cs K):∃ k pl mi nt mn mx ao n cap,cs=Q2 k pl mi nt mn mx ao n cap:=by
 cases h;exact⟨_,_,_,_,_,_,_,_,_,rfl⟩
theorem L8{w:World}{b j:Nat}{cs:Array Value}{t:TypeId}{v:Value}(h:w.heap[b]?=some (.cells cs t (0,0))):(w.setCell ⟨b,j,none⟩ v).heap[b]?=some (.cells (cs.setIfInBounds j v) t (0,0)):=by
 simp only [World.setCell,Array.getElem?_modify,h];simp
theorem Wh(k:Int)(pl mi:Nat)(nt:Bool)(mn mx:Int)(l:List Pat)(ih:∀ p∈l,Gw p):Gw (.node k pl mi nt mn mx l):=by
 intro K w cs hp hok
 unfold Qc at hp
 obtain⟨ao,cap,rfl,hpl,hmi,hlc,hcm,hps⟩:=hp
 unfold Yh at hok
 obtain⟨hnode,hl40,hoks⟩:=hok
 rw [U5] at hoks
 obtain⟨hk06,g1,g2,g3,h5,g4⟩:=J0 hnode
 clear g1 g2 g3 g4 h5
 unfold maxLen at hcm
 obtain⟨N,hN⟩:∃ N,l.length=N:=⟨_,rfl⟩
 have HN:=Lib.hid hN
 rw [hN] at hl40 hlc ⊢
 clear hN
 unfold Q2
 have IH:=Lib.hid ih;have HPS:=Lib.hid hps;have HOK:=Lib.hid hoks
 clear ih hps hoks hnode
 have HM:=Lib.hid (M4 k pl mi nt mn mx l)
 generalize Zq (.node k pl mi nt mn mx l)=MP at HM ⊢
 go_enter Tryd.func21,Tryd.ntmps21
 go_wp2_with fail
 obtain⟨B,hB⟩:∃ B,w.heap.size=B:=⟨_,rfl⟩
 have hx:((w.alloc (.cells #[.int .i64 k,.int .u32 (pl:Int),.int .u32 (mi:Int),.bool nt,.int .i64 mn,.int .i64 mx,.slice ao N cap] 27)).alloc (.cells #[.int .i64 0,.int .u32 0,.int .u32 0,.bool false,.int .i64 0,.int .i64 0,.slice none 0 0] 27)).heap[B]?=some (.cells #[.int .i64 k,.int .u32 (pl:Int),.int .u32 (mi:Int),.bool nt,.int .i64 mn,.int .i64 mx,.slice ao N cap] 27 (0,0)):=by
  subst hB;exact Qs (Q9 rfl)
 have hz:((w.alloc (.cells #[.int .i64 k,.int .u32 (pl:Int),.int .u32 (mi:Int),.bool nt,.int .i64 mn,.int .i64 mx,.slice ao N cap] 27)).alloc (.cells #[.int .i64 0,.int .u32 0,.int .u32 0,.bool false,.int .i64 0,.int .i64 0,.slice none 0 0] 27)).heap[B+1]?=some (.cells #[.int .i64 0,.int .u32 0,.int .u32 0,.bool false,.int .i64 0,.int .i64 0,.slice none 0 0] 27 (0,0)):=by
  subst hB;exact Q9 (by simp)
 have hE:Ext w ((w.alloc (.cells #[.int .i64 k,.int .u32 (pl:Int),.int .u32 (mi:Int),.bool nt,.int .i64 mn,.int .i64 mx,.slice ao N cap] 27)).alloc (.cells #[.int .i64 0,.int .u32 0,.int .u32 0,.bool false,.int .i64 0,.int .i64 0,.slice none 0 0] 27)):=((Q1.refl _ w).alloc _).alloc _
 have hR:Zd 27 ((w.alloc (.cells #[.int .i64 k,.int .u32 (pl:Int),.int .u32 (mi:Int),.bool nt,.int .i64 mn,.int .i64 mx,.slice ao N cap] 27)).alloc (.cells #[.int .i64 0,.int .u32 0,.int .u32 0,.bool false,.int .i64 0,.int .i64 0,.slice none 0 0] 27)) (B+2) (.slice none 0 0) [] []:=Zd.nil _ _ _
 generalize ((w.alloc (.cells #[.int .i64 k,.int .u32 (pl:Int),.int .u32 (mi:Int),.bool nt,.int .i64 mn,.int .i64 mx,.slice ao N cap] 27)).alloc (.cells #[.int .i64 0,.int .u32 0,.int .u32 0,.bool false,.int .i64 0,.int .i64 0,.slice none 0 0] 27))=w1 at hx hz hE hR ⊢
 rw [hB]
 have HB:=Lib.hid hB
 clear hB
 refine wp_loop (fun a W=>∃(j:Nat) (v:Value) (xs:List Value),j≤N∧a.defers=[]∧(a.tmps.size=35∧a.tmps.getD 1 undef=.pointer (some ⟨B,0,none⟩)∧a.tmps.getD 2 undef=.pointer (some ⟨B+1,0,none⟩)∧a.tmps.getD 3 undef=v∧a.tmps.getD 7 undef=.slice ao N cap∧a.tmps.getD 8 undef=.int .i64 N∧a.tmps.getD 9 undef=.int .i64 j) ∧
   W.heap[B]?=some (.cells #[.int .i64 k,.int .u32 (pl:Int),.int .u32 (mi:Int),.bool nt,.int .i64 mn,.int .i64 mx,.slice ao N cap] 27 (0,0))∧W.heap[B+1]?=some (.cells #[.int .i64 0,.int .u32 0,.int .u32 0,.bool false,.int .i64 0,.int .i64 0,.slice none 0 0] 27 (0,0))∧Zd 27 W (B+2) v ((l.take j).map Zq) xs∧Ext w W)
  (fun a _=>N - (intOf (a.tmps.getD 9 undef)).toNat) ?_ ?_
 ·exact⟨0,.slice none 0 0,[],by omega,rfl,⟨rfl,rfl,rfl,rfl,rfl,rfl,rfl⟩,hx,hz,by simpa using hR,hE⟩
 clear hx hz hE hR
 rintro⟨t,_⟩ W ⟨j,v,xs,hj,hds,⟨hsz,f1,f2,f3,f7,f8,f9⟩,hx,hz,hR,hE⟩
 subst hds
 obtain⟨u',hu⟩:=Zb hsz
 obtain⟨u,rfl⟩:∃ x,x=u':=⟨_,rfl⟩
 have hu':t=#[u 0,u 1,u 2,u 3,u 4,u 5,u 6,u 7,u 8,u 9,u 10,u 11,u 12,u 13,u 14,u 15,u 16,u 17,u 18,u 19,u 20,u 21,u 22,u 23,u 24,u 25,u 26,u 27,u 28,u 29,u 30,u 31,u 32,u 33,u 34]:=hu
 clear hu
 subst hu'
 change u 1=_ at f1
 change u 2=_ at f2
 change u 3=_ at f3
 change u 7=_ at f7
 change u 8=_ at f8
 change u 9=_ at f9
 rw [f1,f2,f3,f7,f8,f9]
 clear f1 f2 f3 f7 f8 f9 hsz
 have hBW:B+1<W.heap.size:=(Array.getElem?_eq_some_iff.1 hz).1
 have hlen:((l.take j).map Zq).length=j:=by rw [List.length_map,List.length_take,HN.out];omega
 have hO:=hR.own
 rw [hlen] at hO
 obtain⟨vo,vc,rfl⟩:=Zc hO
 have HLEN:=Lib.hid hlen
 clear hlen
 by_cases hjN:j<N
 ·have h1:(j:Int)<(N:Int):=by omega
  have hjl:j<l.length:=by rw [HN.out];exact hjN
  obtain⟨g,off,cs,rfl,hKg,hg,hra,hpa⟩:=(Qe.ext HPS.out hE).get j hjl
  rw [Nat.zero_add] at hra
  have hok:=HOK.out l[j] (List.getElem_mem hjl)
  have hih:=IH.out l[j] (List.getElem_mem hjl)
  have hnx:(l.take (j+1)).map Zq=(l.take j).map Zq++[Zq l[j]]:=by rw [List.take_succ_eq_append_getElem hjl,List.map_append];rfl
  obtain⟨q,hq⟩:∃ q,l[j]=q:=⟨_,rfl⟩
  rw [hq] at hok hih hpa hnx
  obtain⟨qk,qpl,qmi,qnt,qmn,qmx,ql⟩:=q
  have hpa':=hpa
  unfold Qc at hpa
  obtain⟨qao,qcap,hcs,_⟩:=hpa
  obtain⟨c0,c1,c2,c3,c4,c5,c6⟩:=Zt hra hcs
  have hcall:=fun(V:World) (hV:Ext W V)=>hih K V cs (hpa'.ext hV) hok
  rw [hcs] at hcall
  unfold Q2 at hcall
  obtain⟨mq,hmq⟩:∃ m,Zq (.node qk qpl qmi qnt qmn qmx ql)=m:=⟨_,rfl⟩
  rw [hmq] at hcall hnx
  have HC:=Lib.hid hcall;have HO:=Lib.hid hO;have HR:=Lib.hid hR;have HX:=Lib.hid hx;have HZ:=Lib.hid hz;have HE:=Lib.hid hE;have HNX:=Lib.hid hnx
  clear hcall hmq hq hO hR hx hz hE hpa' hok hih hra hcs hnx
  obtain⟨Q,hQ⟩:∃ Q,ql.length=Q:=⟨_,rfl⟩
  rw [hQ] at c6 HC
  clear hQ
  go_wp2_with fail
  have hEA:Ext W (W.alloc (.cells #[.int .i64 qk,.int .u32 (qpl:Int),.int .u32 (qmi:Int),.bool qnt,.int .i64 qmn,.int .i64 qmx,.slice qao Q qcap] 27)):=(Q1.refl _ W).alloc _
  refine(HC.out _ hEA).mono ?_
  have hszA:(W.alloc (.cells #[.int .i64 qk,.int .u32 (qpl:Int),.int .u32 (qmi:Int),.bool qnt,.int .i64 qmn,.int .i64 qmx,.slice qao Q qcap] 27)).heap.size=W.heap.size+1:=by simp
  generalize (W.alloc (.cells #[.int .i64 qk,.int .u32 (qpl:Int),.int .u32 (qmi:Int),.bool qnt,.int .i64 qmn,.int .i64 qmx,.slice qao Q qcap] 27))=WA at hEA hszA ⊢
  rintro e W2 ⟨ds,rfl,hpx,hE2⟩
  obtain⟨ek,epl,emi,ent,emn,emx,eao,en,ecap,rfl⟩:=Gj hpx
  have hc1:=hpx.cells.2
  have hE02:=hEA.trans hE2
  have HPX:=Lib.hid hpx
  have hs2:=hE2.size
  clear hpx hE2 hEA c0 c1 c2 c3 c4 c5 c6 HC
  unfold Q2
  have hA3:Ext W2 (W2.alloc (.cells #[.int .i64 ek,.int .u32 (epl:Int),.int .u32 (emi:Int),.bool ent,.int .i64 emn,.int .i64 emx,.slice eao en ecap] 27)):=(Q1.refl _ W2).alloc _
  have hO2:=Y5 HO.out (hE02.trans hA3)
  have hsz3:(W2.alloc (.cells #[.int .i64 ek,.int .u32 (epl:Int),.int .u32 (emi:Int),.bool ent,.int .i64 emn,.int .i64 emx,.slice eao en ecap] 27)).heap.size=W2.heap.size+1:=by simp
  have HE02:=Lib.hid hE02;have HC1:=Lib.hid hc1
  clear hE02 hc1
  go_wp2_with (at_builtin;refine Xj rfl (.tmp 13) (.tmp 16) 22 rfl (B+2) 27 _ 7 64 Tryd.underlying22 Tryd.infoPat rfl (by decide) _ _ _ rfl hO2 ⟨W2.heap.size,0,none⟩ 1 1 (Q2 ek epl emi ent emn emx eao en ecap) rfl rfl Va ?c2 ?c3 ?c4 ?c5 ?_)
  case c2=>exact HC1.out
  case c3=>unfold maxLen;omega
  case c4=>omega
  case c5=>rw [hsz3];omega
  intro ao' c' W3 hO3 hT3 hnb
  generalize (W2.alloc (.cells #[.int .i64 ek,.int .u32 (epl:Int),.int .u32 (emi:Int),.bool ent,.int .i64 emn,.int .i64 emx,.slice eao en ecap] 27))=WB at hT3 hA3 hsz3 hnb
  have hlt:∀ b,(Value.slice vo j vc).ownBlock=some b→B+2≤b:=fun b hb=>(HO.out.lt b hb).1
  have hR3:Zd 27 W3 (B+2) (.slice ao' (j+1) c') ((l.take j).map Zq++[mq]) (xs++Q2 ek epl emi ent emn emx eao en ecap):=by
   refine HR.out.push (HE02.out.trans hA3) (m:=WA.heap.size) (by omega) ?_ rfl (by omega) hT3 (by rw [HLEN.out];exact hO3) (hnb.imp id fun e=>⟨_,e,by omega⟩)
   exact(HPX.out.keep hA3 fun _ _ h=>h).mono fun b hb=>⟨hb.1,by rw [hsz3];omega⟩
  rw [← HNX.out] at hR3
  have hx3:=hT3.heap (Ext.keep (HE02.out.trans hA3) HX.out) (fun e=>by have:=hlt _ e;omega)
  have hz3:=hT3.heap (Ext.keep (HE02.out.trans hA3) HZ.out) (fun e=>by have:=hlt _ e;omega)
  have hE3:Ext w W3:=(HE.out.trans (HE02.out.trans hA3)).after hT3 (fun b' h1 e=>by have:=hlt _ e;have:=HB.out;omega)
  have HR3:=Lib.hid hR3;have HX3:=Lib.hid hx3;have HZ3:=Lib.hid hz3;have HE3:=Lib.hid hE3
  clear hR3 hx3 hz3 hE3 hlt hnb hT3 hO3 hO2 hA3
  go_wp2
  exact⟨⟨j+1,_,_,by omega,by first | rfl | trivial,⟨rfl,rfl,rfl,rfl,rfl,rfl,rfl⟩,HX3.out,HZ3.out,HR3.out,HE3.out⟩,by simp [intOf];omega⟩
 ·obtain rfl:N=j:=by omega
  have h1:¬ (N:Int)<(N:Int):=by omega
  have hqs:l.take N=l:=List.take_of_length_le (by rw [HN.out];exact Nat.le_refl _)
  rw [hqs] at hR
  have hT1:=Q1.set1 W B 6 (.slice vo N vc)
  have hx1:=L8 (j:=6) (v:=.slice vo N vc) hx
  have hz1:=hT1.heap hz (by omega)
  have hR1:=hR.ext hT1 (fun b h1 _ e=>by omega)
  have hE1:Ext w _:=hE.after hT1 (fun b h1 e=>by have:=HB.out;omega)
  change (W.setCell ⟨B,6,none⟩ (.slice vo N vc)).heap[B]?=some (.cells #[.int .i64 k,.int .u32 (pl:Int),.int .u32 (mi:Int),.bool nt,.int .i64 mn,.int .i64 mx,.slice vo N vc] 27 (0,0)) at hx1
  have cX:=fun j=>cell_of_row _ _ j _ _ _ hx
  have fX:=fun j=>frozen_of_row _ _ j _ _ hx
  have HR1:=Lib.hid hR1;have HE1:=Lib.hid hE1;have HX1:=Lib.hid hx1;have HZ1:=Lib.hid hz1
  clear hR1 hE1 hx1 hz1 hT1 hx hz hE hR hO hqs HLEN
  rcases(show k=0∨k=1∨k=2∨k=3∨k=4∨k=5∨k=6 by omega) with rfl | rfl | rfl | rfl | rfl | rfl | rfl
  ·have HE9:=HE1
   go_wp2_with (refine wpList_store_row rfl 27 (.tmp 2) (.tmp 34) rfl (B+1) #[.int .i64 0,.int .u32 (pl:Int),.int .u32 (mi:Int),.bool nt,.int .i64 mn,.int .i64 mx,.slice vo N vc] rfl rfl _ _ HZ1.out (by kernel_rfl) rfl (all_oneCell_toArray Qv) ?_)
   have hT9:=Q1.setRow (W.setCell ⟨B,6,none⟩ (.slice vo N vc)) (B+1) #[.int .i64 0,.int .u32 (pl:Int),.int .u32 (mi:Int),.bool nt,.int .i64 mn,.int .i64 mx,.slice vo N vc]
   have hR9:=HR1.out.ext hT9 (fun b h1 _ e=>by omega)
   refine bodyPost_ret (results_cell_row rfl _ _ (B+1) _ #[.int .i64 0,.int .u32 (pl:Int),.int .u32 (mi:Int),.bool nt,.int .i64 mn,.int .i64 mx,.slice vo N vc] _ _ rfl (setRow_heap _ _ _ _ _ _ HZ1.out) Tryd.underlying27 rfl (by kernel_rfl)) rfl ?_
   refine⟨Q2 0 pl mi nt mn mx vo N vc,rfl,?_,?_⟩
   ·have hn:(l.map Zq).length=N:=by simp [HN.out]
    have hP:=hR9.node hn 0 hpl hmi nt mn mx (lo':=B) (by omega)
    rw [HM.out,HB.out]
    first | exact hP | (simpa using hP)
   ·exact HE9.out.after hT9 (fun b h1 e=>by have:=HB.out;omega)
  ·have HE9:=HE1
   go_wp2_with (refine wpList_store_row rfl 27 (.tmp 2) (.tmp 34) rfl (B+1) #[.int .i64 1,.int .u32 (pl:Int),.int .u32 (mi:Int),.bool nt,.int .i64 mn,.int .i64 mx,.slice vo N vc] rfl rfl _ _ HZ1.out (by kernel_rfl) rfl (all_oneCell_toArray Qv) ?_)
   have hT9:=Q1.setRow (W.setCell ⟨B,6,none⟩ (.slice vo N vc)) (B+1) #[.int .i64 1,.int .u32 (pl:Int),.int .u32 (mi:Int),.bool nt,.int .i64 mn,.int .i64 mx,.slice vo N vc]
   have hR9:=HR1.out.ext hT9 (fun b h1 _ e=>by omega)
   refine bodyPost_ret (results_cell_row rfl _ _ (B+1) _ #[.int .i64 1,.int .u32 (pl:Int),.int .u32 (mi:Int),.bool nt,.int .i64 mn,.int .i64 mx,.slice vo N vc] _ _ rfl (setRow_heap _ _ _ _ _ _ HZ1.out) Tryd.underlying27 rfl (by kernel_rfl)) rfl ?_
   refine⟨Q2 1 pl mi nt mn mx vo N vc,rfl,?_,?_⟩
   ·have hn:(l.map Zq).length=N:=by simp [HN.out]
    have hP:=hR9.node hn 1 hpl hmi nt mn mx (lo':=B) (by omega)
    rw [HM.out,HB.out]
    first | exact hP | (simpa using hP)
   ·exact HE9.out.after hT9 (fun b h1 e=>by have:=HB.out;omega)
  ·have hT8:=Q1.set1 (W.setCell ⟨B,6,none⟩ (.slice vo N vc)) B 0 (.int .i64 6)
   have hz8:=hT8.heap HZ1.out (by omega)
   have hR8:=HR1.out.ext hT8 (fun b h1 _ e=>by omega)
   have hE9:Ext w _:=HE1.out.after hT8 (fun b h1 e=>by have:=HB.out;omega)
   have HZ8:=Lib.hid hz8;have HR8:=Lib.hid hR8;have HE9:=Lib.hid hE9
   clear hT8 hz8 hR8 hE9 HZ1 HR1 HE1
   go_wp2_with (refine wpList_store_row rfl 27 (.tmp 2) (.tmp 34) rfl (B+1) #[.int .i64 6,.int .u32 (pl:Int),.int .u32 (mi:Int),.bool nt,.int .i64 mn,.int .i64 mx,.slice vo N vc] rfl rfl _ _ HZ8.out (by kernel_rfl) rfl (all_oneCell_toArray Qv) ?_)
   have hT9:=Q1.setRow ((W.setCell ⟨B,6,none⟩ (.slice vo N vc)).setCell ⟨B,0,none⟩ (.int .i64 6)) (B+1) #[.int .i64 6,.int .u32 (pl:Int),.int .u32 (mi:Int),.bool nt,.int .i64 mn,.int .i64 mx,.slice vo N vc]
   have hR9:=HR8.out.ext hT9 (fun b h1 _ e=>by omega)
   refine bodyPost_ret (results_cell_row rfl _ _ (B+1) _ #[.int .i64 6,.int .u32 (pl:Int),.int .u32 (mi:Int),.bool nt,.int .i64 mn,.int .i64 mx,.slice vo N vc] _ _ rfl (setRow_heap _ _ _ _ _ _ HZ8.out) Tryd.underlying27 rfl (by kernel_rfl)) rfl ?_
   refine⟨Q2 6 pl mi nt mn mx vo N vc,rfl,?_,?_⟩
   ·have hn:(l.map Zq).length=N:=by simp [HN.out]
    have hP:=hR9.node hn 6 hpl hmi nt mn mx (lo':=B) (by omega)
    rw [HM.out,HB.out]
    first | exact hP | (simpa using hP)
   ·exact HE9.out.after hT9 (fun b h1 e=>by have:=HB.out;omega)
  ·go_wp2_with fail
   refine(Hr (by have:=HR1.out.own;rw [show (l.map Zq).length=N by simp [HN.out]] at this;exact this) HR1.out.one).mono ?_
   rintro e W8 ⟨rfl,ys,hO8,hch,hT8⟩
   have hlt1:∀ b,Value.ownBlock (.slice vo N vc)=some b→B+2≤b:=fun b hb=>(HR1.out.own.lt b hb).1
   have hx8:=hT8.heap HX1.out (fun e=>by have:=hlt1 _ e;omega)
   have hz8:=hT8.heap HZ1.out (fun e=>by have:=hlt1 _ e;omega)
   have hR8:=HR1.out.reverse hT8 (by rw [show (l.map Zq).length=N by simp [HN.out]];exact hO8) (by rw [show (l.map Zq).length=N by simp [HN.out]];exact hch)
   have hE9:Ext w W8:=HE1.out.after hT8 (fun b h1 e=>by have:=hlt1 _ e;have:=HB.out;omega)
   clear cX fX hT8 hch hO8 hlt1
   have HZ8:=Lib.hid hz8;have HR8:=Lib.hid hR8;have HE9:=Lib.hid hE9
   clear hz8 hR8 hE9 HZ1 HR1 HE1 HX1
   have cX:=fun j=>cell_of_row _ _ j _ _ _ hx8
   go_wp2_with (refine wpList_store_row rfl 27 (.tmp 2) (.tmp 34) rfl (B+1) #[.int .i64 3,.int .u32 (pl:Int),.int .u32 (mi:Int),.bool nt,.int .i64 mn,.int .i64 mx,.slice vo N vc] rfl rfl _ _ HZ8.out (by kernel_rfl) rfl (all_oneCell_toArray Qv) ?_)
   have hT9:=Q1.setRow (W8) (B+1) #[.int .i64 3,.int .u32 (pl:Int),.int .u32 (mi:Int),.bool nt,.int .i64 mn,.int .i64 mx,.slice vo N vc]
   have hR9:=HR8.out.ext hT9 (fun b h1 _ e=>by omega)
   refine bodyPost_ret (results_cell_row rfl _ _ (B+1) _ #[.int .i64 3,.int .u32 (pl:Int),.int .u32 (mi:Int),.bool nt,.int .i64 mn,.int .i64 mx,.slice vo N vc] _ _ rfl (setRow_heap _ _ _ _ _ _ HZ8.out) Tryd.underlying27 rfl (by kernel_rfl)) rfl ?_
   refine⟨Q2 3 pl mi nt mn mx vo N vc,rfl,?_,?_⟩
   ·have hn:((l.map Zq).reverse).length=N:=by simp [HN.out]
    have hP:=hR9.node hn 3 hpl hmi nt mn mx (lo':=B) (by omega)
    rw [HM.out,HB.out]
    first | exact hP | (simpa using hP)
   ·exact HE9.out.after hT9 (fun b h1 e=>by have:=HB.out;omega)
  ·have HE9:=HE1
   go_wp2_with (refine wpList_store_row rfl 27 (.tmp 2) (.tmp 34) rfl (B+1) #[.int .i64 4,.int .u32 (pl:Int),.int .u32 (mi:Int),.bool nt,.int .i64 mn,.int .i64 mx,.slice vo N vc] rfl rfl _ _ HZ1.out (by kernel_rfl) rfl (all_oneCell_toArray Qv) ?_)
   have hT9:=Q1.setRow (W.setCell ⟨B,6,none⟩ (.slice vo N vc)) (B+1) #[.int .i64 4,.int .u32 (pl:Int),.int .u32 (mi:Int),.bool nt,.int .i64 mn,.int .i64 mx,.slice vo N vc]
   have hR9:=HR1.out.ext hT9 (fun b h1 _ e=>by omega)
   refine bodyPost_ret (results_cell_row rfl _ _ (B+1) _ #[.int .i64 4,.int .u32 (pl:Int),.int .u32 (mi:Int),.bool nt,.int .i64 mn,.int .i64 mx,.slice vo N vc] _ _ rfl (setRow_heap _ _ _ _ _ _ HZ1.out) Tryd.underlying27 rfl (by kernel_rfl)) rfl ?_
   refine⟨Q2 4 pl mi nt mn mx vo N vc,rfl,?_,?_⟩
   ·have hn:(l.map Zq).length=N:=by simp [HN.out]
    have hP:=hR9.node hn 4 hpl hmi nt mn mx (lo':=B) (by omega)
    rw [HM.out,HB.out]
    first | exact hP | (simpa using hP)
   ·exact HE9.out.after hT9 (fun b h1 e=>by have:=HB.out;omega)
  ·have HE9:=HE1
   go_wp2_with (refine wpList_store_row rfl 27 (.tmp 2) (.tmp 34) rfl (B+1) #[.int .i64 5,.int .u32 (pl:Int),.int .u32 (mi:Int),.bool nt,.int .i64 mn,.int .i64 mx,.slice vo N vc] rfl rfl _ _ HZ1.out (by kernel_rfl) rfl (all_oneCell_toArray Qv) ?_)
   have hT9:=Q1.setRow (W.setCell ⟨B,6,none⟩ (.slice vo N vc)) (B+1) #[.int .i64 5,.int .u32 (pl:Int),.int .u32 (mi:Int),.bool nt,.int .i64 mn,.int .i64 mx,.slice vo N vc]
   have hR9:=HR1.out.ext hT9 (fun b h1 _ e=>by omega)
   refine bodyPost_ret (results_cell_row rfl _ _ (B+1) _ #[.int .i64 5,.int .u32 (pl:Int),.int .u32 (mi:Int),.bool nt,.int .i64 mn,.int .i64 mx,.slice vo N vc] _ _ rfl (setRow_heap _ _ _ _ _ _ HZ1.out) Tryd.underlying27 rfl (by kernel_rfl)) rfl ?_
   refine⟨Q2 5 pl mi nt mn mx vo N vc,rfl,?_,?_⟩
   ·have hn:(l.map Zq).length=N:=by simp [HN.out]
    have hP:=hR9.node hn 5 hpl hmi nt mn mx (lo':=B) (by omega)
    rw [HM.out,HB.out]
    first | exact hP | (simpa using hP)
   ·exact HE9.out.after hT9 (fun b h1 e=>by have:=HB.out;omega)
  ·have hT8:=Q1.set1 (W.setCell ⟨B,6,none⟩ (.slice vo N vc)) B 0 (.int .i64 2)
   have hz8:=hT8.heap HZ1.out (by omega)
   have hR8:=HR1.out.ext hT8 (fun b h1 _ e=>by omega)
   have hE9:Ext w _:=HE1.out.after hT8 (fun b h1 e=>by have:=HB.out;omega)
   have HZ8:=Lib.hid hz8;have HR8:=Lib.hid hR8;have HE9:=Lib.hid hE9
   clear hT8 hz8 hR8 hE9 HZ1 HR1 HE1
   go_wp2_with (refine wpList_store_row rfl 27 (.tmp 2) (.tmp 34) rfl (B+1) #[.int .i64 2,.int .u32 (pl:Int),.int .u32 (mi:Int),.bool nt,.int .i64 mn,.int .i64 mx,.slice vo N vc] rfl rfl _ _ HZ8.out (by kernel_rfl) rfl (all_oneCell_toArray Qv) ?_)
   have hT9:=Q1.setRow ((W.setCell ⟨B,6,none⟩ (.slice vo N vc)).setCell ⟨B,0,none⟩ (.int .i64 2)) (B+1) #[.int .i64 2,.int .u32 (pl:Int),.int .u32 (mi:Int),.bool nt,.int .i64 mn,.int .i64 mx,.slice vo N vc]
   have hR9:=HR8.out.ext hT9 (fun b h1 _ e=>by omega)
   refine bodyPost_ret (results_cell_row rfl _ _ (B+1) _ #[.int .i64 2,.int .u32 (pl:Int),.int .u32 (mi:Int),.bool nt,.int .i64 mn,.int .i64 mx,.slice vo N vc] _ _ rfl (setRow_heap _ _ _ _ _ _ HZ8.out) Tryd.underlying27 rfl (by kernel_rfl)) rfl ?_
   refine⟨Q2 2 pl mi nt mn mx vo N vc,rfl,?_,?_⟩
   ·have hn:(l.map Zq).length=N:=by simp [HN.out]
    have hP:=hR9.node hn 2 hpl hmi nt mn mx (lo':=B) (by omega)
    rw [HM.out,HB.out]
    first | exact hP | (simpa using hP)
   ·exact HE9.out.after hT9 (fun b h1 e=>by have:=HB.out;omega)
mutual
theorem Ko:∀ p:Pat,Gw p
 | .node k pl mi nt mn mx l=>Wh k pl mi nt mn mx l (Vo l)
theorem Vo:∀ l:List Pat,∀ p∈l,Gw p
 | [],_,h=>by cases h
 | q::l,p,h=>(List.mem_cons.1 h).elim (fun e=>e ▸ Ko q) (fun h=>Vo l p h)
end
attribute [local go_sem] Oper.semAt_some Zx Z4
theorem Vs{fn:Func}{p u:Tmp}(h:fn.results=#[.cell p 27,.tmp u]){tmps:Array Value}{w:World}{g:Nat}{cs:Array Value}(hp:tmps.getD p undef=.pointer (some ⟨g,0,none⟩)) (hg:w.heap[g]?=some (.cells cs 27 (0,0))) (hi:(Tryd.prog.info? 27).map (·.size)=some cs.size) :
  (results fn tmps).run Tryd.prog w=.ok (.tuple #[.agg cs,tmps.getD u undef]) w:=by
 have hp':tmps[p]?.getD undef=.pointer (some ⟨g,0,none⟩):=by simpa using hp
 simp [results,h,hp',asAddr,run_loadVar_row w g _ _ _ _ _ hg Tryd.underlying27 rfl hi]
theorem Di{K:Nat→Prop}{w:World}{p:Pat}{cs:List Value}(hp:Qc K w p cs)(hK:∀ g,K g→g<w.heap.size)(hT:Tab w) :
  Calls Tryd.prog 9 #[.agg cs.toArray] w fun e w'=>∃ ds:List Value,e=.returned (.tuple #[.agg ds.toArray,.int .i64 (Ze p)]) ∧
   (Ze p=0→Zn 27 w' (Zq p) ds (fun b=>w.heap.size≤b∧b<w'.heap.size))∧(Ze p≠0→ds=Q2 0 0 0 false 0 0 none 0 0)∧Ext w w':=by
 have hck:=fun(V:World) (hE:Ext w V)=>Zp (K:=K) (hp.ext hE) (fun g hg=>Nat.lt_of_lt_of_le (hK g hg) hE.size) (hT.keep hE id)
 have hmi:=fun(V:World) (hE:Ext w V) (h:Ze p=0)=>Ko p K V cs (hp.ext hE) (Kw h)
 obtain⟨ao,cap,rfl,hlc,hcm,_⟩:=Qj hp
 have HCK:=Lib.hid hck;have HMI:=Lib.hid hmi
 clear hck hmi hp hlc hcm hT hK
 obtain⟨z,hz⟩:∃ z,Ze p=z:=⟨_,rfl⟩
 obtain⟨mp,hmp⟩:∃ m,Zq p=m:=⟨_,rfl⟩
 rw [hz] at HCK HMI ⊢
 rw [hmp] at HMI ⊢
 clear hz hmp
 unfold Q2 at HCK HMI
 rw [show Q2 p.k p.pl p.mi p.nt p.mn p.mx ao p.l.length cap=[.int .i64 p.k,.int .u32 (p.pl:Int),.int .u32 (p.mi:Int),.bool p.nt,.int .i64 p.mn,.int .i64 p.mx,.slice ao p.l.length cap] from rfl]
 go_enter Tryd.func9,Tryd.ntmps9
 go_wp2_with fail
 have hx:((w.alloc (.cells #[.int .i64 p.k,.int .u32 (p.pl:Int),.int .u32 (p.mi:Int),.bool p.nt,.int .i64 p.mn,.int .i64 p.mx,.slice ao p.l.length cap] 27)).alloc (.cells #[.int .i64 0,.int .u32 0,.int .u32 0,.bool false,.int .i64 0,.int .i64 0,.slice none 0 0] 27)).heap[w.heap.size]?=some (.cells #[.int .i64 p.k,.int .u32 (p.pl:Int),.int .u32 (p.mi:Int),.bool p.nt,.int .i64 p.mn,.int .i64 p.mx,.slice ao p.l.length cap] 27 (0,0)):=Qs (Q9 rfl)
 have hy:((w.alloc (.cells #[.int .i64 p.k,.int .u32 (p.pl:Int),.int .u32 (p.mi:Int),.bool p.nt,.int .i64 p.mn,.int .i64 p.mx,.slice ao p.l.length cap] 27)).alloc (.cells #[.int .i64 0,.int .u32 0,.int .u32 0,.bool false,.int .i64 0,.int .i64 0,.slice none 0 0] 27)).heap[w.heap.size+1]?=some (.cells #[.int .i64 0,.int .u32 0,.int .u32 0,.bool false,.int .i64 0,.int .i64 0,.slice none 0 0] 27 (0,0)):=Q9 (by simp)
 have hE1:Ext w ((w.alloc (.cells #[.int .i64 p.k,.int .u32 (p.pl:Int),.int .u32 (p.mi:Int),.bool p.nt,.int .i64 p.mn,.int .i64 p.mx,.slice ao p.l.length cap] 27)).alloc (.cells #[.int .i64 0,.int .u32 0,.int .u32 0,.bool false,.int .i64 0,.int .i64 0,.slice none 0 0] 27)):=((Q1.refl _ w).alloc _).alloc _
 refine(HCK.out _ hE1).mono ?_
 generalize ((w.alloc (.cells #[.int .i64 p.k,.int .u32 (p.pl:Int),.int .u32 (p.mi:Int),.bool p.nt,.int .i64 p.mn,.int .i64 p.mx,.slice ao p.l.length cap] 27)).alloc (.cells #[.int .i64 0,.int .u32 0,.int .u32 0,.bool false,.int .i64 0,.int .i64 0,.slice none 0 0] 27))=w1 at hx hy hE1 ⊢
 obtain⟨B,hB⟩:∃ B,w.heap.size=B:=⟨_,rfl⟩
 rw [hB] at hx hy ⊢
 have HB:=Lib.hid hB
 clear hB
 rintro e w2 ⟨rfl,hE2⟩
 have hE02:=hE1.trans hE2
 have hx2:=hE2.keep hx
 have hy2:=hE2.keep hy
 have hB2:B+1<w2.heap.size:=(Array.getElem?_eq_some_iff.1 hy2).1
 clear hE2 hx hy hE1 HCK
 have cX:=fun j=>cell_of_row _ _ j _ _ _ hx2
 have HY2:=Lib.hid hy2;have HX2:=Lib.hid hx2
 clear hy2 hx2
 by_cases hz0:z=0
 ·subst hz0
  have HM2:=Lib.hid (HMI.out w2 hE02 rfl)
  clear HMI
  go_wp2_with fail
  refine HM2.out.mono ?_
  rintro e w3 ⟨ds,rfl,hS,hE3⟩
  have hy3:=hE3.keep HY2.out
  have hE03:=hE02.trans hE3
  obtain⟨k,pl,mi,nt,mn,mx,eo,n,ec,rfl⟩:=Gj hS
  have HS:=Lib.hid hS;have HY3:=Lib.hid hy3
  clear hS hy3 cX HM2 hE3
  unfold Q2
  go_wp2_with (refine wpList_store_row rfl 27 (.tmp 2) (.tmp 12) rfl (B+1) (Q2 k pl mi nt mn mx eo n ec).toArray rfl rfl _ _ HY3.out (by kernel_rfl) rfl (all_oneCell_toArray Qv) ?_)
  have hT9:=Q1.setRow w3 (B+1) (Q2 k pl mi nt mn mx eo n ec).toArray
  have hS9:=HS.out.keep hT9 (fun b hb e=>by omega)
  refine bodyPost_ret (Vs (p:=2) (u:=3) rfl rfl (setRow_heap _ _ _ _ _ _ HY3.out) (by kernel_rfl)) rfl ?_
  refine⟨Q2 k pl mi nt mn mx eo n ec,rfl,?_,?_⟩
  ·refine hS9.mono fun b hb=>?_
   have:=hT9.size
   have:=hE02.size
   omega
  ·exact hE03.after hT9 (fun b h1 e=>by have:=HB.out;omega)
 ·have gz:(z == 0)=false:=by rw [beq_eq_false_iff_ne];exact hz0
  clear HMI
  go_wp2_with (refine wpList_store_row rfl 27 (.tmp 2) (.tmp 9) rfl (B+1) (Q2 0 0 0 false 0 0 none 0 0).toArray rfl rfl _ _ HY2.out (by kernel_rfl) rfl (all_oneCell_toArray Qv) ?_)
  have hT9:=Q1.setRow w2 (B+1) (Q2 0 0 0 false 0 0 none 0 0).toArray
  refine bodyPost_ret (Vs (p:=2) (u:=3) rfl rfl (setRow_heap _ _ _ _ _ _ HY2.out) (by kernel_rfl)) rfl ?_
  refine⟨Q2 0 0 0 false 0 0 none 0 0,rfl,fun h=>absurd h hz0,fun _=>rfl,?_⟩
  exact hE02.after hT9 (fun b h1 e=>by have:=HB.out;omega)
end Go.Proofs.YtbmbdoanammlgaaDoor
